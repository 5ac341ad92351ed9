/- Part 7: own lemmas, and the conditions of the functions. -/
import Derived.Test.YtjljemboankbeaaProg
import Derived.Test.YtjljemboankbeaaP06
section
/- The conditions of the functions, printed by program; each is what the generator reckons (kernel_rfl). -/
namespace Go.Proofs
open Go.Vc
set_option maxRecDepth 100000 in
set_option maxHeartbeats 2000000 in
theorem vc8 (x0a : Option Addr) (x0n : Nat) (x0c : Nat) (x1a : Option Addr) (x1n : Nat) (x1c : Nat) (p1bya : Option Addr) (p1byn : Nat) (p1byc : Nat) (w : World) (R : Ending →
    World → Prop) (h : ∀ (m1 : Nat), w.heap.size ≤ m1 → ∀ (w1 : World), RowKit.Below w.heap.size w w1 → Kept [m1] w w1 → Calls Try.prog 40 #[Value.agg #[Value.slice x0a x0n x0c,
    Value.slice x1a x1n x1c]] w1 fun (e1 : Ending) (w2 : World) => ∃ (a1 : Option Addr), ∃ (m2 : Nat), ∃ (m3 : Nat), ∃ (a2 : Option Addr), ∃ (m4 : Nat), ∃ (m5 : Nat), e1 =
    Ending.returned (Value.agg #[Value.slice a1 m2 m3, Value.slice a2 m4 m5]) ∧ KeepX true w.heap.size [m1] (fun _ => False) w1 w2 ∧ ∀ (m7 : Nat), w2.heap.size ≤ m7 → ∀ (w3 :
    World), RowKit.Below w.heap.size w w3 → Kept [m7, m1] w2 w3 → Calls Try.prog 15 #[Value.agg #[Value.slice a1 m2 m3, Value.slice a2 m4 m5]] w3 fun (e2 : Ending) (w4 : World) =>
    ∃ (a3 : Option Addr), ∃ (m8 : Nat), ∃ (m9 : Nat), ∃ (a4 : Option Addr), ∃ (m10 : Nat), ∃ (m11 : Nat), e2 = Ending.returned (Value.agg #[Value.slice a3 m8 m9, Value.slice a4 m10
    m11]) ∧ KeepX true w.heap.size [m7, m1] (fun _ => False) w3 w4 ∧ ∀ (w5 : World), RowKit.Below w.heap.size w w5 → Kept [m7, m1] w4 w5 → Calls Try.prog 17 #[Value.agg
    #[Value.slice a3 m8 m9, Value.slice a4 m10 m11]] w5 fun (e3 : Ending) (w6 : World) => ∃ (a5 : Option Addr), ∃ (m13 : Nat), ∃ (m14 : Nat), ∃ (x1 : Int), e3 = Ending.returned
    (Value.tuple #[Value.slice a5 m13 m14, Value.int IntKind.i64 x1]) ∧ KeepX true w.heap.size [m7, m1] (fun _ => False) w5 w6 ∧ (x1 ≠ 0 → ∀ (w7 : World), RowKit.Below w.heap.size
    w w7 → Kept [m7, m1] w6 w7 → R (Ending.returned (Value.bool false)) w7) ∧ (x1 = 0 → ∀ (m16 : Nat), w6.heap.size ≤ m16 → ∀ (w8 : World), RowKit.Below w.heap.size w w8 → Kept
    [m16, m7, m1] w6 w8 → RunsTo Try.prog (Instr.makeMap 87 none) w8 fun (v1 : Value) (w9 : World) => ∃ (m17 : Nat), v1 = Value.map (some m17) ∧ KeepX true w.heap.size [m16, m7,
    m1] (fun _ => False) w8 w9 ∧ ∃ (F1 : List Lf → World → Prop), ∃ (F2 : List Lf → Nat), (∀ (w11 : World), RowKit.Below w.heap.size w w11 → Kept [m16, m7, m1] w9 w11 →
    w11.heap[m16]? = some (Obj.cells #[] 40) → F1 [Lf.bool false, Lf.sl (some { block := m16, off := 0 }) 0 0, Lf.int IntKind.i64 0] w11) ∧ ∀ (t1 : Bool) (a6 : Option Addr) (m20
    m21 : Nat) (x2 : Int) (w12 : World), RowKit.Below w.heap.size w w12 → F1 [Lf.bool t1, Lf.sl a6 m20 m21, Lf.int IntKind.i64 x2] w12 → (x2 < (↑m2 : Int) → ((-9223372036854775808
    : Int) ≤ 3 * x2 ∧ 3 * x2 ≤ 9223372036854775807) ∧ ∀ (w13 : World), RowKit.Below w.heap.size w w13 → Kept [m7, m1] w12 w13 → Calls Try.prog 41 #[Value.agg #[Value.slice a1 m2
    m3, Value.slice a2 m4 m5], Value.int IntKind.i64 x2, Value.slice p1bya p1byn p1byc, Value.int IntKind.i64 (3 * x2)] w13 fun (e4 : Ending) (w14 : World) => ∃ (x3 : Int), ∃ (a7 :
    Option Addr), ∃ (m22 : Nat), ∃ (m23 : Nat), e4 = Ending.returned (Value.agg #[Value.int IntKind.i64 x3, Value.slice a7 m22 m23]) ∧ KeepX true w.heap.size [m7, m1] (fun _ =>
    False) w13 w14 ∧ ∀ (m25 : Nat), w14.heap.size ≤ m25 → ∀ (w15 : World), RowKit.Below w.heap.size w w15 → Kept [m25, m7, m1] w14 w15 → w15.heap[m25]? = some (Obj.cells
    #[Value.int IntKind.i64 x3, Value.slice a7 m22 m23] 40) → RunsTo Try.prog (Builtin.append_ #[45, 45] 45 #[Value.slice a6 m20 m21, Value.slice (some { block := m25, off := 0 })
    1 1]) w15 fun (v2 : Value) (w16 : World) => ∃ (a8 : Option Addr), ∃ (m27 : Nat), ∃ (m28 : Nat), v2 = Value.slice a8 m27 m28 ∧ KeepX true w.heap.size [m25, m7, m1] (fun _ =>
    False) w15 w16 ∧ ∀ (w17 : World), RowKit.Below w.heap.size w w17 → Kept [m25, m7, m1] w16 w17 → Calls Try.prog 15 #[Value.agg #[Value.slice a1 m2 m3, Value.slice a2 m4 m5]] w17
    fun (e5 : Ending) (w18 : World) => ∃ (a9 : Option Addr), ∃ (m30 : Nat), ∃ (m31 : Nat), ∃ (a10 : Option Addr), ∃ (m32 : Nat), ∃ (m33 : Nat), e5 = Ending.returned (Value.agg
    #[Value.slice a9 m30 m31, Value.slice a10 m32 m33]) ∧ KeepX true w.heap.size [m25, m7, m1] (fun _ => False) w17 w18 ∧ ∀ (w19 : World), RowKit.Below w.heap.size w w19 → Kept
    [m25, m7, m1] w18 w19 → Calls Try.prog 22 #[Value.slice a8 m27 m28] w19 fun (e6 : Ending) (w20 : World) => ∃ (a11 : Option Addr), ∃ (m35 : Nat), ∃ (m36 : Nat), e6 =
    Ending.returned (Value.slice a11 m35 m36) ∧ KeepX true w.heap.size [m25, m7, m1] (fun _ => False) w19 w20 ∧ ∃ (m38 : Nat), ∃ (m39 : Nat), a11 = some
    { block := m38, off := m39 } ∧ (0 ≤ x2 ∧ x2 < (↑m35 : Int)) ∧ ∃ (x4 : Int), ∃ (a12 : Option Addr), ∃ (m40 : Nat), ∃ (m41 : Nat), w20.cell?
    { block := m38, off := m39 + x2.toNat * 2 } = some (Value.int IntKind.i64 x4) ∧ w20.cell? { block := m38, off := m39 + x2.toNat * 2 + 1 } = some (Value.slice a12 m40 m41) ∧
    (m38 < w.heap.size ∨ m38 ≠ m25 ∧ m38 ≠ m7 ∧ m38 ≠ m1) ∧ ∀ (w21 : World), RowKit.Below w.heap.size w w21 → Kept [m25, m7, m1] w20 w21 → Calls Try.prog 23 #[Value.agg
    #[Value.slice a9 m30 m31, Value.slice a10 m32 m33], Value.agg #[Value.int IntKind.i64 x4, Value.slice a12 m40 m41]] w21 fun (e7 : Ending) (w22 : World) => ∃ (t2 : Bool), ∃ (x5
    : Int), e7 = Ending.returned (Value.tuple #[Value.bool t2, Value.int IntKind.i64 x5]) ∧ KeepX true w.heap.size [m25, m7, m1] (fun _ => False) w21 w22 ∧ (x5 ≠ 0 → ∀ (w23 :
    World), RowKit.Below w.heap.size w w23 → Kept [m25, m7, m1] w22 w23 → R (Ending.returned (Value.bool false)) w23) ∧ (x5 = 0 → ((!t2) = true → ∀ (w24 : World), RowKit.Below
    w.heap.size w w24 → Kept [m25, m7, m1] w22 w24 → R (Ending.returned (Value.bool false)) w24) ∧ ((!t2) = false → (-9223372036854775808 ≤ x2 + 1 ∧ x2 + (1 : Int) ≤
    9223372036854775807) ∧ ∀ (w25 : World), RowKit.Below w.heap.size w w25 → Kept [m25, m7, m1] w22 w25 → F1 [Lf.bool t1, Lf.sl a8 m27 m28, Lf.int IntKind.i64 (x2 + 1)] w25 ∧ F2
    [Lf.bool t1, Lf.sl a8 m27 m28, Lf.int IntKind.i64 (x2 + 1)] < F2 [Lf.bool t1, Lf.sl a6 m20 m21, Lf.int IntKind.i64 x2]))) ∧ ((↑m2 : Int) ≤ x2 → ∃ (F3 : List Lf → World → Prop),
    ∃ (F4 : List Lf → Nat), (∀ (w27 : World), RowKit.Below w.heap.size w w27 → Kept [m7, m1] w12 w27 → F3 [Lf.bool t1, Lf.int IntKind.i64 0] w27) ∧ ∀ (t3 : Bool) (x6 : Int) (w28 :
    World), RowKit.Below w.heap.size w w28 → F3 [Lf.bool t3, Lf.int IntKind.i64 x6] w28 → (x6 < (↑m13 : Int) → ∃ (m43 : Nat), ∃ (m44 : Nat), a5 = some { block := m43, off := m44 }
    ∧ (0 ≤ x6 ∧ x6 < (↑m13 : Int)) ∧ ∃ (x7 : Int), ∃ (x8 : Int), ∃ (x9 : Int), w28.cell? { block := m43, off := m44 + x6.toNat * 3 } = some (Value.int IntKind.i64 x7) ∧ w28.cell?
    { block := m43, off := m44 + x6.toNat * 3 + 1 } = some (Value.int IntKind.i64 x8) ∧ w28.cell? { block := m43, off := m44 + x6.toNat * 3 + 1 + 1 } = some (Value.int IntKind.i64
    x9) ∧ (m43 < w.heap.size ∨ m43 ≠ m7 ∧ m43 ≠ m1) ∧ ∀ (m45 : Nat), w28.heap.size ≤ m45 → ∃ (F5 : List Lf → World → Prop), ((x7 < 0 → ∀ (w30 : World), RowKit.Below w.heap.size w
    w30 → Kept [m45, m7, m1] w28 w30 → w30.heap[m45]? = some (Obj.cells #[Value.int IntKind.i64 x7, Value.int IntKind.i64 x8, Value.int IntKind.i64 x9] 37) → F5 [Lf.bool true] w30)
    ∧ (0 ≤ x7 → ((↑m4 : Int) ≤ x7 → ∀ (w31 : World), RowKit.Below w.heap.size w w31 → Kept [m45, m7, m1] w28 w31 → w31.heap[m45]? = some (Obj.cells #[Value.int IntKind.i64 x7,
    Value.int IntKind.i64 x8, Value.int IntKind.i64 x9] 37) → w31.heap[m45]? = some (Obj.cells #[Value.int IntKind.i64 x7, Value.int IntKind.i64 x8, Value.int IntKind.i64 x9] 37) →
    w31.heap[m7]? = some (Obj.cells #[Value.slice a1 m2 m3, Value.slice a2 m4 m5] 25) → F5 [Lf.bool true] w31) ∧ (x7 < (↑m4 : Int) → (0 < x6 → (-9223372036854775808 ≤ x6 - 1 ∧ x6 -
    (1 : Int) ≤ 9223372036854775807) ∧ ∃ (m50 : Nat), ∃ (m51 : Nat), a5 = some { block := m50, off := m51 } ∧ (0 ≤ x6 - 1 ∧ x6 - 1 < (↑m13 : Int)) ∧ ∃ (x10 : Int), w28.cell?
    { block := m50, off := m51 + (x6 - 1).toNat * 3 + 0 } = some (Value.int IntKind.i64 x10) ∧ (m50 < w.heap.size ∨ m50 ≠ m45 ∧ m50 ≠ m7 ∧ m50 ≠ m1) ∧ ∀ (w32 : World), RowKit.Below
    w.heap.size w w32 → Kept [m45, m7, m1] w28 w32 → w32.heap[m45]? = some (Obj.cells #[Value.int IntKind.i64 x7, Value.int IntKind.i64 x8, Value.int IntKind.i64 x9] 37) →
    w32.heap[m45]? = some (Obj.cells #[Value.int IntKind.i64 x7, Value.int IntKind.i64 x8, Value.int IntKind.i64 x9] 37) → w32.heap[m7]? = some (Obj.cells #[Value.slice a1 m2 m3,
    Value.slice a2 m4 m5] 25) → w32.heap[m45]? = some (Obj.cells #[Value.int IntKind.i64 x7, Value.int IntKind.i64 x8, Value.int IntKind.i64 x9] 37) → F5 [Lf.bool (decide (x7 ≤
    x10))] w32) ∧ (x6 ≤ 0 → ∀ (w33 : World), RowKit.Below w.heap.size w w33 → Kept [m45, m7, m1] w28 w33 → w33.heap[m45]? = some (Obj.cells #[Value.int IntKind.i64 x7, Value.int
    IntKind.i64 x8, Value.int IntKind.i64 x9] 37) → w33.heap[m45]? = some (Obj.cells #[Value.int IntKind.i64 x7, Value.int IntKind.i64 x8, Value.int IntKind.i64 x9] 37) →
    w33.heap[m7]? = some (Obj.cells #[Value.slice a1 m2 m3, Value.slice a2 m4 m5] 25) → F5 [Lf.bool false] w33)))) ∧ ∀ (t4 : Bool) (w34 : World), RowKit.Below w.heap.size w w34 →
    F5 [Lf.bool t4] w34 → (t4 = true → ∀ (w35 : World), RowKit.Below w.heap.size w w35 → Kept [m45, m7, m1] w34 w35 → R (Ending.returned (Value.bool false)) w35) ∧ (t4 = false → ∃
    (m61 : Nat), ∃ (m62 : Nat), a2 = some { block := m61, off := m62 } ∧ (0 ≤ x7 ∧ x7 < (↑m4 : Int)) ∧ ∃ (x12 : Int), ∃ (x13 : Int), ∃ (x14 : Int), ∃ (x15 : Int), ∃ (x16 : Int), ∃
    (x17 : Int), w34.cell? { block := m61, off := m62 + x7.toNat * 6 } = some (Value.int IntKind.i64 x12) ∧ w34.cell? { block := m61, off := m62 + x7.toNat * 6 + 1 } = some
    (Value.int IntKind.i64 x13) ∧ w34.cell? { block := m61, off := m62 + x7.toNat * 6 + 1 + 1 } = some (Value.int IntKind.i64 x14) ∧ w34.cell?
    { block := m61, off := m62 + x7.toNat * 6 + 1 + 1 + 1 } = some (Value.int IntKind.i64 x15) ∧ w34.cell? { block := m61, off := m62 + x7.toNat * 6 + 1 + 1 + 1 + 1 } = some
    (Value.int IntKind.i64 x16) ∧ w34.cell? { block := m61, off := m62 + x7.toNat * 6 + 1 + 1 + 1 + 1 + 1 } = some (Value.int IntKind.i64 x17) ∧ (m61 < w.heap.size ∨ m61 ≠ m45 ∧
    m61 ≠ m7 ∧ m61 ≠ m1) ∧ ∀ (m63 : Nat), w34.heap.size ≤ m63 → ∃ (m64 : Nat), ∃ (m65 : Nat), a1 = some { block := m64, off := m65 } ∧ (0 ≤ x12 ∧ x12 < (↑m2 : Int)) ∧ ∃ (a13 :
    Option Addr), ∃ (m66 : Nat), ∃ (m67 : Nat), w34.cell? { block := m64, off := m65 + x12.toNat * 1 } = some (Value.slice a13 m66 m67) ∧ (m64 < w.heap.size ∨ m64 ≠ m63 ∧ m64 ≠ m45
    ∧ m64 ≠ m7 ∧ m64 ≠ m1) ∧ ∃ (m68 : Nat), ∃ (m69 : Nat), a13 = some { block := m68, off := m69 } ∧ (0 ≤ x13 ∧ x13 < (↑m66 : Int)) ∧ ∃ (x18 : Int), ∃ (x19 : Int), w34.cell?
    { block := m68, off := m69 + x13.toNat * 2 } = some (Value.int IntKind.i64 x18) ∧ w34.cell? { block := m68, off := m69 + x13.toNat * 2 + 1 } = some (Value.int IntKind.i64 x19)
    ∧ (m68 < w.heap.size ∨ m68 ≠ m63 ∧ m68 ≠ m45 ∧ m68 ≠ m7 ∧ m68 ≠ m1) ∧ ∀ (m70 : Nat), w34.heap.size ≤ m70 → ∀ (m71 : Nat), w34.heap.size ≤ m71 → ∃ (m72 : Nat), ∃ (m73 : Nat), a1
    = some { block := m72, off := m73 } ∧ (0 ≤ x14 ∧ x14 < (↑m2 : Int)) ∧ ∃ (a14 : Option Addr), ∃ (m74 : Nat), ∃ (m75 : Nat), w34.cell?
    { block := m72, off := m73 + x14.toNat * 1 } = some (Value.slice a14 m74 m75) ∧ (m72 < w.heap.size ∨ m72 ≠ m71 ∧ m72 ≠ m70 ∧ m72 ≠ m63 ∧ m72 ≠ m45 ∧ m72 ≠ m7 ∧ m72 ≠ m1) ∧ ∃
    (m76 : Nat), ∃ (m77 : Nat), a14 = some { block := m76, off := m77 } ∧ (0 ≤ x15 ∧ x15 < (↑m74 : Int)) ∧ ∃ (x20 : Int), ∃ (x21 : Int), w34.cell?
    { block := m76, off := m77 + x15.toNat * 2 } = some (Value.int IntKind.i64 x20) ∧ w34.cell? { block := m76, off := m77 + x15.toNat * 2 + 1 } = some (Value.int IntKind.i64 x21)
    ∧ (m76 < w.heap.size ∨ m76 ≠ m71 ∧ m76 ≠ m70 ∧ m76 ≠ m63 ∧ m76 ≠ m45 ∧ m76 ≠ m7 ∧ m76 ≠ m1) ∧ (-9223372036854775808 ≤ x8 - x9 ∧ x8 - x9 ≤ 9223372036854775807) ∧ ∃ (F6 : List Lf
    → World → Prop), ((x8 < x18 → ∀ (w37 : World), RowKit.Below w.heap.size w w37 → Kept [m71, m70, m63, m45, m7, m1] w34 w37 → w37.heap[m45]? = some (Obj.cells #[Value.int
    IntKind.i64 x7, Value.int IntKind.i64 x8, Value.int IntKind.i64 x9] 37) → w37.heap[m70]? = some (Obj.cells #[Value.int IntKind.i64 x18, Value.int IntKind.i64 x19] 42) → F6
    [Lf.bool true] w37) ∧ (x18 ≤ x8 → (x19 < x8 → ∀ (w38 : World), RowKit.Below w.heap.size w w38 → Kept [m71, m70, m63, m45, m7, m1] w34 w38 → w38.heap[m45]? = some (Obj.cells
    #[Value.int IntKind.i64 x7, Value.int IntKind.i64 x8, Value.int IntKind.i64 x9] 37) → w38.heap[m70]? = some (Obj.cells #[Value.int IntKind.i64 x18, Value.int IntKind.i64 x19]
    42) → w38.heap[m45]? = some (Obj.cells #[Value.int IntKind.i64 x7, Value.int IntKind.i64 x8, Value.int IntKind.i64 x9] 37) → w38.heap[m70]? = some (Obj.cells #[Value.int
    IntKind.i64 x18, Value.int IntKind.i64 x19] 42) → F6 [Lf.bool true] w38) ∧ (x8 ≤ x19 → (x9 < x20 → ∀ (w39 : World), RowKit.Below w.heap.size w w39 → Kept [m71, m70, m63, m45,
    m7, m1] w34 w39 → w39.heap[m45]? = some (Obj.cells #[Value.int IntKind.i64 x7, Value.int IntKind.i64 x8, Value.int IntKind.i64 x9] 37) → w39.heap[m70]? = some (Obj.cells
    #[Value.int IntKind.i64 x18, Value.int IntKind.i64 x19] 42) → w39.heap[m45]? = some (Obj.cells #[Value.int IntKind.i64 x7, Value.int IntKind.i64 x8, Value.int IntKind.i64 x9]
    37) → w39.heap[m70]? = some (Obj.cells #[Value.int IntKind.i64 x18, Value.int IntKind.i64 x19] 42) → w39.heap[m45]? = some (Obj.cells #[Value.int IntKind.i64 x7, Value.int
    IntKind.i64 x8, Value.int IntKind.i64 x9] 37) → w39.heap[m71]? = some (Obj.cells #[Value.int IntKind.i64 x20, Value.int IntKind.i64 x21] 42) → F6 [Lf.bool true] w39) ∧ (x20 ≤
    x9 → (x21 < x9 → ∀ (w40 : World), RowKit.Below w.heap.size w w40 → Kept [m71, m70, m63, m45, m7, m1] w34 w40 → w40.heap[m45]? = some (Obj.cells #[Value.int IntKind.i64 x7,
    Value.int IntKind.i64 x8, Value.int IntKind.i64 x9] 37) → w40.heap[m70]? = some (Obj.cells #[Value.int IntKind.i64 x18, Value.int IntKind.i64 x19] 42) → w40.heap[m45]? = some
    (Obj.cells #[Value.int IntKind.i64 x7, Value.int IntKind.i64 x8, Value.int IntKind.i64 x9] 37) → w40.heap[m70]? = some (Obj.cells #[Value.int IntKind.i64 x18, Value.int
    IntKind.i64 x19] 42) → w40.heap[m45]? = some (Obj.cells #[Value.int IntKind.i64 x7, Value.int IntKind.i64 x8, Value.int IntKind.i64 x9] 37) → w40.heap[m71]? = some (Obj.cells
    #[Value.int IntKind.i64 x20, Value.int IntKind.i64 x21] 42) → w40.heap[m45]? = some (Obj.cells #[Value.int IntKind.i64 x7, Value.int IntKind.i64 x8, Value.int IntKind.i64 x9]
    37) → w40.heap[m71]? = some (Obj.cells #[Value.int IntKind.i64 x20, Value.int IntKind.i64 x21] 42) → F6 [Lf.bool true] w40) ∧ (x9 ≤ x21 → (x16 ≤ x8 - x9 → ∀ (w41 : World),
    RowKit.Below w.heap.size w w41 → Kept [m71, m70, m63, m45, m7, m1] w34 w41 → w41.heap[m45]? = some (Obj.cells #[Value.int IntKind.i64 x7, Value.int IntKind.i64 x8, Value.int
    IntKind.i64 x9] 37) → w41.heap[m70]? = some (Obj.cells #[Value.int IntKind.i64 x18, Value.int IntKind.i64 x19] 42) → w41.heap[m45]? = some (Obj.cells #[Value.int IntKind.i64
    x7, Value.int IntKind.i64 x8, Value.int IntKind.i64 x9] 37) → w41.heap[m70]? = some (Obj.cells #[Value.int IntKind.i64 x18, Value.int IntKind.i64 x19] 42) → w41.heap[m45]? =
    some (Obj.cells #[Value.int IntKind.i64 x7, Value.int IntKind.i64 x8, Value.int IntKind.i64 x9] 37) → w41.heap[m71]? = some (Obj.cells #[Value.int IntKind.i64 x20, Value.int
    IntKind.i64 x21] 42) → w41.heap[m45]? = some (Obj.cells #[Value.int IntKind.i64 x7, Value.int IntKind.i64 x8, Value.int IntKind.i64 x9] 37) → w41.heap[m71]? = some (Obj.cells
    #[Value.int IntKind.i64 x20, Value.int IntKind.i64 x21] 42) → w41.heap[m63]? = some (Obj.cells #[Value.int IntKind.i64 x12, Value.int IntKind.i64 x13, Value.int IntKind.i64
    x14, Value.int IntKind.i64 x15, Value.int IntKind.i64 x16, Value.int IntKind.i64 x17] 67) → w41.heap[m63]? = some (Obj.cells #[Value.int IntKind.i64 x12, Value.int IntKind.i64
    x13, Value.int IntKind.i64 x14, Value.int IntKind.i64 x15, Value.int IntKind.i64 x16, Value.int IntKind.i64 x17] 67) → w41.heap[m63]? = some (Obj.cells #[Value.int IntKind.i64
    x12, Value.int IntKind.i64 x13, Value.int IntKind.i64 x14, Value.int IntKind.i64 x15, Value.int IntKind.i64 x16, Value.int IntKind.i64 x17] 67) → w41.heap[m63]? = some
    (Obj.cells #[Value.int IntKind.i64 x12, Value.int IntKind.i64 x13, Value.int IntKind.i64 x14, Value.int IntKind.i64 x15, Value.int IntKind.i64 x16, Value.int IntKind.i64 x17]
    67) → F6 [Lf.bool (decide (x8 - x9 ≤ x17))] w41) ∧ (x8 - x9 < x16 → ∀ (w42 : World), RowKit.Below w.heap.size w w42 → Kept [m71, m70, m63, m45, m7, m1] w34 w42 → w42.heap[m45]?
    = some (Obj.cells #[Value.int IntKind.i64 x7, Value.int IntKind.i64 x8, Value.int IntKind.i64 x9] 37) → w42.heap[m70]? = some (Obj.cells #[Value.int IntKind.i64 x18, Value.int
    IntKind.i64 x19] 42) → w42.heap[m45]? = some (Obj.cells #[Value.int IntKind.i64 x7, Value.int IntKind.i64 x8, Value.int IntKind.i64 x9] 37) → w42.heap[m70]? = some (Obj.cells
    #[Value.int IntKind.i64 x18, Value.int IntKind.i64 x19] 42) → w42.heap[m45]? = some (Obj.cells #[Value.int IntKind.i64 x7, Value.int IntKind.i64 x8, Value.int IntKind.i64 x9]
    37) → w42.heap[m71]? = some (Obj.cells #[Value.int IntKind.i64 x20, Value.int IntKind.i64 x21] 42) → w42.heap[m45]? = some (Obj.cells #[Value.int IntKind.i64 x7, Value.int
    IntKind.i64 x8, Value.int IntKind.i64 x9] 37) → w42.heap[m71]? = some (Obj.cells #[Value.int IntKind.i64 x20, Value.int IntKind.i64 x21] 42) → w42.heap[m63]? = some (Obj.cells
    #[Value.int IntKind.i64 x12, Value.int IntKind.i64 x13, Value.int IntKind.i64 x14, Value.int IntKind.i64 x15, Value.int IntKind.i64 x16, Value.int IntKind.i64 x17] 67) →
    w42.heap[m63]? = some (Obj.cells #[Value.int IntKind.i64 x12, Value.int IntKind.i64 x13, Value.int IntKind.i64 x14, Value.int IntKind.i64 x15, Value.int IntKind.i64 x16,
    Value.int IntKind.i64 x17] 67) → F6 [Lf.bool false] w42)))))) ∧ ∀ (t5 : Bool) (w43 : World), RowKit.Below w.heap.size w w43 → F6 [Lf.bool t5] w43 → (t5 = true → ∀ (w44 :
    World), RowKit.Below w.heap.size w w44 → Kept [m71, m70, m63, m45, m7, m1] w43 w44 → R (Ending.returned (Value.bool false)) w44) ∧ (t5 = false → (-9223372036854775808 ≤ x8 - 1
    ∧ x8 - (1 : Int) ≤ 9223372036854775807) ∧ ∃ (F7 : List Lf → World → Prop), ((x18 ≤ x8 - 1 → (-9223372036854775808 ≤ x8 - 1 - x21 ∧ x8 - 1 - x21 ≤ 9223372036854775807) ∧ (x8 - 1
    - x21 < x16 → ∀ (w46 : World), RowKit.Below w.heap.size w w46 → Kept [m71, m70, m63, m45, m7, m1] w43 w46 → w46.heap[m70]? = some (Obj.cells #[Value.int IntKind.i64 x18,
    Value.int IntKind.i64 x19] 42) → w46.heap[m71]? = some (Obj.cells #[Value.int IntKind.i64 x20, Value.int IntKind.i64 x21] 42) → w46.heap[m63]? = some (Obj.cells #[Value.int
    IntKind.i64 x12, Value.int IntKind.i64 x13, Value.int IntKind.i64 x14, Value.int IntKind.i64 x15, Value.int IntKind.i64 x16, Value.int IntKind.i64 x17] 67) → w46.heap[m63]? =
    some (Obj.cells #[Value.int IntKind.i64 x12, Value.int IntKind.i64 x13, Value.int IntKind.i64 x14, Value.int IntKind.i64 x15, Value.int IntKind.i64 x16, Value.int IntKind.i64
    x17] 67) → F7 [Lf.bool true] w46) ∧ (x16 ≤ x8 - 1 - x21 → (-9223372036854775808 ≤ x8 - 1 - x20 ∧ x8 - 1 - x20 ≤ 9223372036854775807) ∧ ∀ (w47 : World), RowKit.Below w.heap.size
    w w47 → Kept [m71, m70, m63, m45, m7, m1] w43 w47 → w47.heap[m70]? = some (Obj.cells #[Value.int IntKind.i64 x18, Value.int IntKind.i64 x19] 42) → w47.heap[m71]? = some
    (Obj.cells #[Value.int IntKind.i64 x20, Value.int IntKind.i64 x21] 42) → w47.heap[m63]? = some (Obj.cells #[Value.int IntKind.i64 x12, Value.int IntKind.i64 x13, Value.int
    IntKind.i64 x14, Value.int IntKind.i64 x15, Value.int IntKind.i64 x16, Value.int IntKind.i64 x17] 67) → w47.heap[m63]? = some (Obj.cells #[Value.int IntKind.i64 x12, Value.int
    IntKind.i64 x13, Value.int IntKind.i64 x14, Value.int IntKind.i64 x15, Value.int IntKind.i64 x16, Value.int IntKind.i64 x17] 67) → w47.heap[m71]? = some (Obj.cells #[Value.int
    IntKind.i64 x20, Value.int IntKind.i64 x21] 42) → w47.heap[m63]? = some (Obj.cells #[Value.int IntKind.i64 x12, Value.int IntKind.i64 x13, Value.int IntKind.i64 x14, Value.int
    IntKind.i64 x15, Value.int IntKind.i64 x16, Value.int IntKind.i64 x17] 67) → w47.heap[m63]? = some (Obj.cells #[Value.int IntKind.i64 x12, Value.int IntKind.i64 x13, Value.int
    IntKind.i64 x14, Value.int IntKind.i64 x15, Value.int IntKind.i64 x16, Value.int IntKind.i64 x17] 67) → F7 [Lf.bool (decide (x17 < x8 - 1 - x20))] w47)) ∧ (x8 - 1 < x18 → ∀
    (w48 : World), RowKit.Below w.heap.size w w48 → Kept [m71, m70, m63, m45, m7, m1] w43 w48 → w48.heap[m70]? = some (Obj.cells #[Value.int IntKind.i64 x18, Value.int IntKind.i64
    x19] 42) → F7 [Lf.bool false] w48)) ∧ ∀ (t6 : Bool) (w49 : World), RowKit.Below w.heap.size w w49 → F7 [Lf.bool t6] w49 → (t6 = true → ∀ (w50 : World), RowKit.Below w.heap.size
    w w50 → Kept [m71, m70, m63, m45, m7, m1] w49 w50 → R (Ending.returned (Value.bool false)) w50) ∧ (t6 = false → ∀ (w51 : World), RowKit.Below w.heap.size w w51 → Kept [m71,
    m70, m63, m45, m7, m1] w49 w51 → RunsTo Try.prog ((Instr.mapUpdate 87 (Value.map (some m17)) (Value.int IntKind.i64 x7) (Value.bool true)) >>= fun _ => pure (Value.tuple #[]))
    w51 fun (v3 : Value) (w52 : World) => KeepX true w.heap.size [m71, m70, m63, m45, m7, m1] (fun _ => False) w51 w52 ∧ (-9223372036854775808 ≤ x6 + 1 ∧ x6 + (1 : Int) ≤
    9223372036854775807) ∧ ∀ (w53 : World), RowKit.Below w.heap.size w w53 → Kept [m71, m70, m63, m45, m7, m1] w52 w53 → F3 [Lf.bool t3, Lf.int IntKind.i64 (x6 + 1)] w53 ∧ F4
    [Lf.bool t3, Lf.int IntKind.i64 (x6 + 1)] < F4 [Lf.bool t3, Lf.int IntKind.i64 x6])))) ∧ ((↑m13 : Int) ≤ x6 → ∃ (F8 : List Lf → World → Prop), ∃ (F9 : List Lf → Nat), (∀ (w55 :
    World), RowKit.Below w.heap.size w w55 → Kept [m7, m1] w28 w55 → F8 [Lf.bool t3, Lf.int IntKind.i64 0] w55) ∧ ∀ (t7 : Bool) (x24 : Int) (w56 : World), RowKit.Below w.heap.size
    w w56 → F8 [Lf.bool t7, Lf.int IntKind.i64 x24] w56 → (x24 < (↑m4 : Int) → ∃ (m137 : Nat), ∃ (m138 : Nat), a2 = some { block := m137, off := m138 } ∧ (0 ≤ x24 ∧ x24 < (↑m4 :
    Int)) ∧ ∃ (x25 : Int), ∃ (x26 : Int), ∃ (x27 : Int), ∃ (x28 : Int), ∃ (x29 : Int), ∃ (x30 : Int), w56.cell? { block := m137, off := m138 + x24.toNat * 6 } = some (Value.int
    IntKind.i64 x25) ∧ w56.cell? { block := m137, off := m138 + x24.toNat * 6 + 1 } = some (Value.int IntKind.i64 x26) ∧ w56.cell?
    { block := m137, off := m138 + x24.toNat * 6 + 1 + 1 } = some (Value.int IntKind.i64 x27) ∧ w56.cell? { block := m137, off := m138 + x24.toNat * 6 + 1 + 1 + 1 } = some
    (Value.int IntKind.i64 x28) ∧ w56.cell? { block := m137, off := m138 + x24.toNat * 6 + 1 + 1 + 1 + 1 } = some (Value.int IntKind.i64 x29) ∧ w56.cell?
    { block := m137, off := m138 + x24.toNat * 6 + 1 + 1 + 1 + 1 + 1 } = some (Value.int IntKind.i64 x30) ∧ (m137 < w.heap.size ∨ m137 ≠ m7 ∧ m137 ≠ m1) ∧ ∀ (m139 : Nat),
    w56.heap.size ≤ m139 → ∃ (m140 : Nat), ∃ (m141 : Nat), a6 = some { block := m140, off := m141 } ∧ (0 ≤ x25 ∧ x25 < (↑m20 : Int)) ∧ ∃ (a15 : Option Addr), ∃ (m142 : Nat), ∃
    (m143 : Nat), w56.cell? { block := m140, off := m141 + x25.toNat * 2 + 1 } = some (Value.slice a15 m142 m143) ∧ (m140 < w.heap.size ∨ m140 ≠ m139 ∧ m140 ≠ m7 ∧ m140 ≠ m1) ∧ ∃
    (m144 : Nat), ∃ (m145 : Nat), a15 = some { block := m144, off := m145 } ∧ (0 ≤ x26 ∧ x26 < (↑m142 : Int)) ∧ ∃ (x31 : Int), w56.cell?
    { block := m144, off := m145 + x26.toNat * 1 } = some (Value.int IntKind.i64 x31) ∧ (m144 < w.heap.size ∨ m144 ≠ m139 ∧ m144 ≠ m7 ∧ m144 ≠ m1) ∧ ∃ (m146 : Nat), ∃ (m147 : Nat),
    a6 = some { block := m146, off := m147 } ∧ (0 ≤ x27 ∧ x27 < (↑m20 : Int)) ∧ ∃ (a16 : Option Addr), ∃ (m148 : Nat), ∃ (m149 : Nat), w56.cell?
    { block := m146, off := m147 + x27.toNat * 2 + 1 } = some (Value.slice a16 m148 m149) ∧ (m146 < w.heap.size ∨ m146 ≠ m139 ∧ m146 ≠ m7 ∧ m146 ≠ m1) ∧ ∃ (m150 : Nat), ∃ (m151 :
    Nat), a16 = some { block := m150, off := m151 } ∧ (0 ≤ x28 ∧ x28 < (↑m148 : Int)) ∧ ∃ (x32 : Int), w56.cell? { block := m150, off := m151 + x28.toNat * 1 } = some (Value.int
    IntKind.i64 x32) ∧ (m150 < w.heap.size ∨ m150 ≠ m139 ∧ m150 ≠ m7 ∧ m150 ≠ m1) ∧ (-9223372036854775808 ≤ x31 - x32 ∧ x31 - x32 ≤ 9223372036854775807) ∧ ∃ (F10 : List Lf → World
    → Prop), (∀ (w58 : World), RowKit.Below w.heap.size w w58 → Kept [m139, m7, m1] w56 w58 → RunsTo Try.prog (Instr.lookup 87 (Value.map (some m17)) (Value.int IntKind.i64 x24)
    false) w58 fun (v4 : Value) (w59 : World) => ∃ (t8 : Bool), v4 = Value.bool t8 ∧ KeepX true w.heap.size [m139, m7, m1] (fun _ => False) w58 w59 ∧ ((!t8) = true → (x31 - x32 <
    x29 → ∀ (w60 : World), RowKit.Below w.heap.size w w60 → Kept [m139, m7, m1] w59 w60 → w60.heap[m139]? = some (Obj.cells #[Value.int IntKind.i64 x25, Value.int IntKind.i64 x26,
    Value.int IntKind.i64 x27, Value.int IntKind.i64 x28, Value.int IntKind.i64 x29, Value.int IntKind.i64 x30] 67) → w60.heap[m139]? = some (Obj.cells #[Value.int IntKind.i64 x25,
    Value.int IntKind.i64 x26, Value.int IntKind.i64 x27, Value.int IntKind.i64 x28, Value.int IntKind.i64 x29, Value.int IntKind.i64 x30] 67) → F10 [Lf.bool true] w60) ∧ (x29 ≤
    x31 - x32 → ∀ (w61 : World), RowKit.Below w.heap.size w w61 → Kept [m139, m7, m1] w59 w61 → w61.heap[m139]? = some (Obj.cells #[Value.int IntKind.i64 x25, Value.int IntKind.i64
    x26, Value.int IntKind.i64 x27, Value.int IntKind.i64 x28, Value.int IntKind.i64 x29, Value.int IntKind.i64 x30] 67) → w61.heap[m139]? = some (Obj.cells #[Value.int IntKind.i64
    x25, Value.int IntKind.i64 x26, Value.int IntKind.i64 x27, Value.int IntKind.i64 x28, Value.int IntKind.i64 x29, Value.int IntKind.i64 x30] 67) → w61.heap[m139]? = some
    (Obj.cells #[Value.int IntKind.i64 x25, Value.int IntKind.i64 x26, Value.int IntKind.i64 x27, Value.int IntKind.i64 x28, Value.int IntKind.i64 x29, Value.int IntKind.i64 x30]
    67) → w61.heap[m139]? = some (Obj.cells #[Value.int IntKind.i64 x25, Value.int IntKind.i64 x26, Value.int IntKind.i64 x27, Value.int IntKind.i64 x28, Value.int IntKind.i64 x29,
    Value.int IntKind.i64 x30] 67) → F10 [Lf.bool (decide (x30 < x31 - x32))] w61)) ∧ ((!t8) = false → ∀ (w62 : World), RowKit.Below w.heap.size w w62 → Kept [m139, m7, m1] w59 w62
    → F10 [Lf.bool false] w62)) ∧ ∀ (t9 : Bool) (w63 : World), RowKit.Below w.heap.size w w63 → F10 [Lf.bool t9] w63 → (t9 = true → ∀ (w64 : World), RowKit.Below w.heap.size w w64
    → Kept [m139, m7, m1] w63 w64 → R (Ending.returned (Value.bool false)) w64) ∧ (t9 = false → (-9223372036854775808 ≤ x24 + 1 ∧ x24 + (1 : Int) ≤ 9223372036854775807) ∧ ∀ (w65 :
    World), RowKit.Below w.heap.size w w65 → Kept [m139, m7, m1] w63 w65 → F8 [Lf.bool t7, Lf.int IntKind.i64 (x24 + 1)] w65 ∧ F9 [Lf.bool t7, Lf.int IntKind.i64 (x24 + 1)] < F9
    [Lf.bool t7, Lf.int IntKind.i64 x24])) ∧ ((↑m4 : Int) ≤ x24 → ∃ (F11 : List Lf → World → Prop), ∃ (F12 : List Lf → Nat), (∀ (w67 : World), RowKit.Below w.heap.size w w67 → Kept
    [m7, m1] w56 w67 → F11 [Lf.bool t7, Lf.int IntKind.i64 0] w67) ∧ ∀ (t10 : Bool) (x34 : Int) (w68 : World), RowKit.Below w.heap.size w w68 → F11 [Lf.bool t10, Lf.int IntKind.i64
    x34] w68 → (x34 < (↑m2 : Int) → ((-9223372036854775808 : Int) ≤ 40 + x34 ∧ 40 + x34 ≤ 9223372036854775807) ∧ ∀ (w69 : World), RowKit.Below w.heap.size w w69 → KeptIn [(0,
    w68.heap.size)] [m7, m1] w68 w69 → Calls Try.prog 41 #[Value.agg #[Value.slice a1 m2 m3, Value.slice a2 m4 m5], Value.int IntKind.i64 x34, Value.slice p1bya p1byn p1byc,
    Value.int IntKind.i64 (40 + x34)] w69 fun (e8 : Ending) (w70 : World) => ∃ (x35 : Int), ∃ (a17 : Option Addr), ∃ (m161 : Nat), ∃ (m162 : Nat), e8 = Ending.returned (Value.agg
    #[Value.int IntKind.i64 x35, Value.slice a17 m161 m162]) ∧ RowKit.Below w69.heap.size w69 w70 ∧ ((-9223372036854775808 : Int) ≤ 2 * x34 ∧ 2 * x34 ≤ 9223372036854775807) ∧
    ((-9223372036854775808 : Int) ≤ 50 + 2 * x34 ∧ 50 + 2 * x34 ≤ 9223372036854775807) ∧ ∀ (w71 : World), RowKit.Below w.heap.size w w71 → KeptIn [(0, w68.heap.size),
    (w69.heap.size, w70.heap.size)] [m7, m1] w70 w71 → Calls Try.prog 41 #[Value.agg #[Value.slice a1 m2 m3, Value.slice a2 m4 m5], Value.int IntKind.i64 x34, Value.slice p1bya
    p1byn p1byc, Value.int IntKind.i64 (50 + 2 * x34)] w71 fun (e9 : Ending) (w72 : World) => ∃ (x36 : Int), ∃ (a18 : Option Addr), ∃ (m163 : Nat), ∃ (m164 : Nat), e9 =
    Ending.returned (Value.agg #[Value.int IntKind.i64 x36, Value.slice a18 m163 m164]) ∧ RowKit.Below w71.heap.size w71 w72 ∧ (-9223372036854775808 ≤ x34 + 1 ∧ x34 + (1 : Int) ≤
    9223372036854775807) ∧ (↑m20 : Int) ≠ 0 ∧ ∃ (m165 : Nat), ∃ (m166 : Nat), a6 = some { block := m165, off := m166 } ∧ (0 ≤ (x34 + 1).tmod (↑m20 : Int) ∧ (x34 + 1).tmod (↑m20 :
    Int) < (↑m20 : Int)) ∧ ∃ (x37 : Int), ∃ (a19 : Option Addr), ∃ (m167 : Nat), ∃ (m168 : Nat), w68.cell? { block := m165, off := m166 + ((x34 + 1).tmod (↑m20 : Int)).toNat * 2 }
    = some (Value.int IntKind.i64 x37) ∧ w68.cell? { block := m165, off := m166 + ((x34 + 1).tmod (↑m20 : Int)).toNat * 2 + 1 } = some (Value.slice a19 m167 m168) ∧ (m165 <
    w.heap.size ∨ m165 ≠ m7 ∧ m165 ≠ m1) ∧ ∀ (m169 : Nat), w68.heap.size ≤ m169 → m169 < w71.heap.size ∨ w72.heap.size ≤ m169 → m169 < w69.heap.size ∨ w70.heap.size ≤ m169 → ∀ (w73
    : World), RowKit.Below w.heap.size w w73 → Kept [m169, m7, m1] w72 w73 → Calls Try.prog 15 #[Value.agg #[Value.slice a1 m2 m3, Value.slice a2 m4 m5]] w73 fun (e10 : Ending)
    (w74 : World) => ∃ (a20 : Option Addr), ∃ (m170 : Nat), ∃ (m171 : Nat), ∃ (a21 : Option Addr), ∃ (m172 : Nat), ∃ (m173 : Nat), e10 = Ending.returned (Value.agg #[Value.slice
    a20 m170 m171, Value.slice a21 m172 m173]) ∧ KeepX true w.heap.size [m169, m7, m1] (fun _ => False) w73 w74 ∧ ∀ (w75 : World), RowKit.Below w.heap.size w w75 → Kept [m169, m7,
    m1] w74 w75 → Calls Try.prog 22 #[Value.slice a6 m20 m21] w75 fun (e11 : Ending) (w76 : World) => ∃ (a22 : Option Addr), ∃ (m175 : Nat), ∃ (m176 : Nat), e11 = Ending.returned
    (Value.slice a22 m175 m176) ∧ KeepX true w.heap.size [m169, m7, m1] (fun _ => False) w75 w76 ∧ ∀ (w77 : World), RowKit.Below w.heap.size w w77 → Kept [m169, m7, m1] w76 w77 →
    w77.heap[m169]? = some (Obj.cells #[Value.int IntKind.i64 x35, Value.slice a17 m161 m162, Value.int IntKind.i64 x36, Value.slice a18 m163 m164, Value.int IntKind.i64 x37,
    Value.slice a19 m167 m168] 40) → Calls Try.prog 22 #[Value.slice (some { block := m169, off := 0 }) 3 3] w77 fun (e12 : Ending) (w78 : World) => ∃ (a23 : Option Addr), ∃ (m179
    : Nat), ∃ (m180 : Nat), e12 = Ending.returned (Value.slice a23 m179 m180) ∧ KeepX true w.heap.size [m169, m7, m1] (fun _ => False) w77 w78 ∧ ∀ (w79 : World), RowKit.Below
    w.heap.size w w79 → Kept [m169, m7, m1] w78 w79 → Calls Try.prog 36 #[Value.agg #[Value.slice a20 m170 m171, Value.slice a21 m172 m173], Value.slice a22 m175 m176, Value.int
    IntKind.i64 x34, Value.slice a23 m179 m180] w79 fun (e13 : Ending) (w80 : World) => ∃ (a24 : Option Addr), ∃ (m182 : Nat), ∃ (m183 : Nat), ∃ (x38 : Int), e13 = Ending.returned
    (Value.tuple #[Value.slice a24 m182 m183, Value.int IntKind.i64 x38]) ∧ KeepX true w.heap.size [m169, m7, m1] (fun _ => False) w79 w80 ∧ ∃ (F13 : List Lf → World → Prop), ((x38
    ≠ 0 → ∀ (w82 : World), RowKit.Below w.heap.size w w82 → Kept [m169, m7, m1] w80 w82 → F13 [Lf.bool true] w82) ∧ (x38 = 0 → (2 < (↑m182 : Int) → ∀ (w83 : World), RowKit.Below
    w.heap.size w w83 → Kept [m169, m7, m1] w80 w83 → F13 [Lf.bool true] w83) ∧ ((↑m182 : Int) ≤ 2 → ((↑m13 : Int) = 0 → ((↑m182 : Int) ≠ 2 → ∀ (w84 : World), RowKit.Below
    w.heap.size w w84 → Kept [m169, m7, m1] w80 w84 → F13 [Lf.bool true] w84) ∧ ((↑m182 : Int) = 2 → ∃ (m185 : Nat), ∃ (m186 : Nat), a24 = some { block := m185, off := m186 } ∧ ((0
    : Int) ≤ 0 ∧ 0 < (↑m182 : Int)) ∧ ∃ (x39 : Int), w80.cell? { block := m185, off := m186 + Int.toNat 0 * 1 } = some (Value.int IntKind.i64 x39) ∧ (m185 < w.heap.size ∨ m185 ≠
    m169 ∧ m185 ≠ m7 ∧ m185 ≠ m1) ∧ (x39 ≠ 0 → ∀ (w85 : World), RowKit.Below w.heap.size w w85 → Kept [m169, m7, m1] w80 w85 → F13 [Lf.bool true] w85) ∧ (x39 = 0 → ∃ (m187 : Nat),
    ∃ (m188 : Nat), a24 = some { block := m187, off := m188 } ∧ ((0 : Int) ≤ 1 ∧ 1 < (↑m182 : Int)) ∧ ∃ (x40 : Int), w80.cell? { block := m187, off := m188 + Int.toNat 1 * 1 } =
    some (Value.int IntKind.i64 x40) ∧ (m187 < w.heap.size ∨ m187 ≠ m169 ∧ m187 ≠ m7 ∧ m187 ≠ m1) ∧ ∀ (w86 : World), RowKit.Below w.heap.size w w86 → Kept [m169, m7, m1] w80 w86 →
    F13 [Lf.bool (x40 != 1)] w86))) ∧ ((↑m13 : Int) ≠ 0 → ∀ (w87 : World), RowKit.Below w.heap.size w w87 → Kept [m169, m7, m1] w80 w87 → F13 [Lf.bool false] w87)))) ∧ ∀ (t11 :
    Bool) (w88 : World), RowKit.Below w.heap.size w w88 → F13 [Lf.bool t11] w88 → (t11 = true → ∀ (w89 : World), RowKit.Below w.heap.size w w89 → Kept [m169, m7, m1] w88 w89 → R
    (Ending.returned (Value.bool false)) w89) ∧ (t11 = false → (-9223372036854775808 ≤ x34 + 1 ∧ x34 + (1 : Int) ≤ 9223372036854775807) ∧ ∀ (w90 : World), RowKit.Below w.heap.size
    w w90 → Kept [m169, m7, m1] w88 w90 → F11 [Lf.bool t10, Lf.int IntKind.i64 (x34 + 1)] w90 ∧ F12 [Lf.bool t10, Lf.int IntKind.i64 (x34 + 1)] < F12 [Lf.bool t10, Lf.int
    IntKind.i64 x34])) ∧ ((↑m2 : Int) ≤ x34 → ∀ (w91 : World), RowKit.Below w.heap.size w w91 → Kept [m7, m1] w68 w91 → Calls Try.prog 14 #[] w91 fun (e14 : Ending) (w92 : World)
    => ∃ (t12 : Bool), e14 = Ending.returned (Value.bool t12) ∧ KeepX true w.heap.size [m7, m1] (fun _ => False) w91 w92 ∧ ∀ (w93 : World), RowKit.Below w.heap.size w w93 → Kept
    [m7, m1] w92 w93 → R (Ending.returned (Value.bool t12)) w93)))))) : Calls Try.prog 8 #[Value.agg #[Value.slice x0a x0n x0c, Value.slice x1a x1n x1c], Value.slice p1bya p1byn
    p1byc] w R := calls_of_vcj (pure := true) (wrapAt := []) (muts := []) (esc := []) (joins := [(2000017, [(107, 4)]), (2000022, [(178, 4)]), (2000025, [(205, 4)]), (2000033,
    [(259, 4)]), (2000040, [(328, 4)])]) (args := [SV.pv (PV.agg [Lf.sl x0a x0n x0c, Lf.sl x1a x1n x1c]), SV.pv (PV.one (Lf.sl p1bya p1byn p1byc))]) (vs := [Value.agg #[Value.slice
    x0a x0n x0c, Value.slice x1a x1n x1c], Value.slice p1bya p1byn p1byc]) Try.func8 rfl rfl rfl (Eq.mp (by kernel_rfl) h) 
end Go.Proofs
end
section
/- The law PartAll, walked. -/
namespace Go.Proofs.R12
open Go.Vc Go.RowKit Go.Proofs
set_option maxRecDepth 100000 in
set_option maxHeartbeats 8000000 in
theorem law8 {w : World} {T U : List (Int × Int × Int × Int)} {l : List Int} {x0a x1a p1bya : Option Addr} {x0c x1c p1byc : Nat} (hT0 : Cells w x0a (quadsV T)) (hU0 : Cells w x1a (quadsV U)) (hT : ∀ t ∈ T, ByteQ t) (hU : ∀ t ∈ U, ByteQ t) (hc : Cells w p1bya (u8s l)) (hl : ∀ x ∈ l, 0 ≤ x ∧ x ≤ 255) : Calls Try.prog 8 #[.agg #[.slice x0a T.length x0c, .slice x1a U.length x1c], .slice p1bya l.length p1byc] w (Pure w (.bool true)) := by
  refine vc8 _ _ _ _ _ _ _ _ _ w _ ?_
  intro m1 g_m1 w1 hb1 hk1
  have y1 := hb1.size
  have z1 := hk1.size; have o1 := hk1.own
  simp only [List.mem_cons, List.not_mem_nil, or_false, forall_eq] at o1
  refine (shop_l (hT0.keep hb1) (hU0.keep hb1) hT hU).mono fun e2 w2 he => ?_
  obtain ⟨W, pa, fa, pc, fc, rfl, hd2, hW, LP_2, LF_2⟩ := he
  have hb2 := hb1.trans (hd2.mono hb1.size)
  have z2 := hd2.size
  have hWn := hW.n
  have hWm := hW.m
  refine ⟨_, _, _, _, _, _, rfl, .all hd2, ?_⟩
  intro m7 g_m7 w3 hb3 hk3
  have y3 := hb3.size
  have z3 := hk3.size; have o3 := hk3.own
  simp only [List.mem_cons, List.not_mem_nil, or_false, forall_eq_or_imp, forall_eq] at o3
  have LP_3 := LP_2.ko hk3 (allc (.inr (by omega)) (allc (.inl (by omega)) all0))
  have LF_3 := LF_2.ko hk3 (allc (.inr (by omega)) (allc (.inl (by omega)) all0))
  refine (works_l LP_3.cells LF_3.cells hW.small).mono fun e4 w4 he => ?_
  obtain ⟨pa4, pc4, fa4, fc4, rfl, hd4, LV4_4, LU4_4⟩ := he
  have hb4 := hb3.trans (hd4.mono hb3.size)
  have z4 := hd4.size
  have LP_4 := LP_3.below hd4
  have LF_4 := LF_3.below hd4
  refine ⟨_, _, _, _, _, _, rfl, .all hd4, ?_⟩
  intro w5 hb5 hk5
  have y5 := hb5.size
  have z5 := hk5.size; have o5 := hk5.own
  simp only [List.mem_cons, List.not_mem_nil, or_false, forall_eq_or_imp, forall_eq] at o5
  have LP_5 := LP_4.ko hk5 (allc (.inr (by omega)) (allc (.inl (by omega)) all0))
  have LF_5 := LF_4.ko hk5 (allc (.inr (by omega)) (allc (.inl (by omega)) all0))
  have LV4_5 := LV4_4.ko hk5 (allc (.inl (by omega)) (allc (.inl (by omega)) all0))
  have LU4_5 := LU4_4.ko hk5 (allc (.inl (by omega)) (allc (.inl (by omega)) all0))
  refine (loose_p LV4_5.cells LU4_5.cells hW).mono fun e6 w6 he => ?_
  obtain ⟨ga, gc, rfl, hd6, LG_6⟩ := he
  have hb6 := hb5.trans (hd6.mono hb5.size)
  have z6 := hd6.size
  have hGl := looseM_len hW
  have LP_6 := LP_5.below hd6
  have LF_6 := LF_5.below hd6
  have LV4_6 := LV4_5.below hd6
  have LU4_6 := LU4_5.below hd6
  refine ⟨_, _, _, _, rfl, .all hd6, ?_, ?_⟩
  · intro h1 w7 hb7 hk7
    try simp only [Bool.not_eq_true', Bool.not_eq_false', decide_eq_true_eq, decide_eq_false_iff_not] at h1
    have y7 := hb7.size
    have z7 := hk7.size; have o7 := hk7.own
    simp only [List.mem_cons, List.not_mem_nil, or_false, forall_eq_or_imp, forall_eq] at o7
    have LP_7 := LP_6.ko hk7 (allc (.inr (by omega)) (allc (.inl (by omega)) all0))
    have LF_7 := LF_6.ko hk7 (allc (.inr (by omega)) (allc (.inl (by omega)) all0))
    have LV4_7 := LV4_6.ko hk7 (allc (.inl (by omega)) (allc (.inl (by omega)) all0))
    have LU4_7 := LU4_6.ko hk7 (allc (.inl (by omega)) (allc (.inl (by omega)) all0))
    have LG_7 := LG_6.ko hk7 (allc (.inl (by omega)) (allc (.inl (by omega)) all0))
    exact ⟨by first | rfl | contradiction | (exfalso; omega) | simp_all, hb7⟩
  · intro h2 m16 g_m16 w8 hb8 hk8
    try simp only [] at h2
    have y8 := hb8.size
    have z8 := hk8.size; have o8 := hk8.own
    simp only [List.mem_cons, List.not_mem_nil, or_false, forall_eq_or_imp, forall_eq] at o8
    have LP_8 := LP_6.ko hk8 (allc (.inr (by omega)) (allc (.inr (by omega)) (allc (.inl (by omega)) all0)))
    have LF_8 := LF_6.ko hk8 (allc (.inr (by omega)) (allc (.inr (by omega)) (allc (.inl (by omega)) all0)))
    have LV4_8 := LV4_6.ko hk8 (allc (.inr (by omega)) (allc (.inl (by omega)) (allc (.inl (by omega)) all0)))
    have LU4_8 := LU4_6.ko hk8 (allc (.inr (by omega)) (allc (.inl (by omega)) (allc (.inl (by omega)) all0)))
    have LG_8 := LG_6.ko hk8 (allc (.inr (by omega)) (allc (.inl (by omega)) (allc (.inl (by omega)) all0)))
    refine map_mk fun w9 hd9 MM_9 => ?_
    have hb9 := hb8.trans (hd9.mono hb8.size)
    have z9 := hd9.size
    have LP_9 := LP_8.below hd9
    have LF_9 := LF_8.below hd9
    have LV4_9 := LV4_8.below hd9
    have LU4_9 := LU4_8.below hd9
    have LG_9 := LG_8.below hd9
    refine ⟨_, rfl, .all hd9, ?_⟩
    refine ⟨fun ls w' => match ls with | [.bool _, .sl a n c, .int _ ii] => ii = (n : Int) ∧ n ≤ W.pats.length ∧ ∃ B : Nat, (m1 < B ∧ m7 < B ∧ w8.heap.size < B ∧ B ≤ w'.heap.size) ∧ NRow pieceN B [m7, m1] a n c (allP W l n) [] w' ∧ MapAt w8.heap.size [] w' ∧ Held8 w1.heap.size w2.heap.size w5.heap.size w6.heap.size pa fa ga W w' | _ => False, fun ls => match ls with | [_, _, .int _ ii] => (W.pats.length - ii).toNat | _ => 0, ?_, ?_⟩
    · intro w11 hb11 hk11 hc11_m16
      have y11 := hb11.size
      have z11 := hk11.size; have o11 := hk11.own
      simp only [List.mem_cons, List.not_mem_nil, or_false, forall_eq_or_imp, forall_eq] at o11
      have LP_11 := LP_9.ko hk11 (allc (.inr (by omega)) (allc (.inr (by omega)) (allc (.inl (by omega)) all0)))
      have LF_11 := LF_9.ko hk11 (allc (.inr (by omega)) (allc (.inr (by omega)) (allc (.inl (by omega)) all0)))
      have LV4_11 := LV4_9.ko hk11 (allc (.inr (by omega)) (allc (.inl (by omega)) (allc (.inl (by omega)) all0)))
      have LU4_11 := LU4_9.ko hk11 (allc (.inr (by omega)) (allc (.inl (by omega)) (allc (.inl (by omega)) all0)))
      have LG_11 := LG_9.ko hk11 (allc (.inr (by omega)) (allc (.inl (by omega)) (allc (.inl (by omega)) all0)))
      have MM_11 := MM_9.ko hk11 (allc (by omega) (allc (by omega) (allc (by omega) all0)))
      exact ⟨rfl, by omega, w11.heap.size, ⟨by omega, by omega, MM_11.h.lt, Nat.le_refl _⟩, NRow.of .lit, MM_11, ⟨⟨LP_11, LF_11, LG_11⟩, by omega⟩⟩
    rintro t1 a6 m20 m21 x2 w12 hb12 ⟨rfl, hkn, B, hB, RR, MM, ⟨⟨LP, LF, LG⟩, zH⟩⟩
    have y12 := hb12.size
    refine ⟨?_, ?_⟩
    · intro h3
      try simp only [Bool.not_eq_true', Bool.not_eq_false', decide_eq_true_eq, decide_eq_false_iff_not] at h3
      refine ⟨(by first | omega | (simp only; omega)), ?_⟩
      intro w13 hb13 hk13
      have y13 := hb13.size
      have z13 := hk13.size; have o13 := hk13.own
      simp only [List.mem_cons, List.not_mem_nil, or_false, forall_eq_or_imp, forall_eq] at o13
      have LP_13 := LP.ko hk13 (allc (.inr (by omega)) (allc (.inl (by omega)) all0))
      have LF_13 := LF.ko hk13 (allc (.inr (by omega)) (allc (.inl (by omega)) all0))
      have LG_13 := LG.ko hk13 (allc (.inl (by omega)) (allc (.inl (by omega)) all0))
      have MM_13 := MM.ko hk13 (allc (by omega) (allc (by omega) all0))
      have RR_13 := RR.chg (Chg.kept hk13) (fun _ h => h)
      refine (piece_p LP_13.cells hW (by omega) (hc.keep hb13) hl (by omega)).mono fun e14 w14 he => ?_
      obtain ⟨a14, c14, rfl, hd14, LX14_14⟩ := he
      have hb14 := hb13.trans (hd14.mono hb13.size)
      have z14 := hd14.size
      have LP_14 := LP_13.below hd14
      have LF_14 := LF_13.below hd14
      have LG_14 := LG_13.below hd14
      have MM_14 := MM_13.below hd14
      have RR_14 := RR_13.sub hd14 LX14_14 (by omega) hk13.own
      refine ⟨_, _, _, _, rfl, .all hd14, ?_⟩
      intro m25 g_m25 w15 hb15 hk15 hc15_m25
      have y15 := hb15.size
      have z15 := hk15.size; have o15 := hk15.own
      simp only [List.mem_cons, List.not_mem_nil, or_false, forall_eq_or_imp, forall_eq] at o15
      have LP_15 := LP_14.ko hk15 (allc (.inr (by omega)) (allc (.inr (by omega)) (allc (.inl (by omega)) all0)))
      have LF_15 := LF_14.ko hk15 (allc (.inr (by omega)) (allc (.inr (by omega)) (allc (.inl (by omega)) all0)))
      have LG_15 := LG_14.ko hk15 (allc (.inr (by omega)) (allc (.inl (by omega)) (allc (.inl (by omega)) all0)))
      have MM_15 := MM_14.ko hk15 (allc (by omega) (allc (by omega) (allc (by omega) all0)))
      have LX14_15 := LX14_14.ko hk15 (allc (.inr (by omega)) (allc (.inl (by omega)) (allc (.inl (by omega)) all0)))
      have RR_15 := (RR_14.grow (ms := [m25]) (allc g_m25 all0)).chg (Chg.kept hk15) (fun _ h => h)
      refine NRow.append (P := Try.prog) (bytes := 32) (by kernel_rfl) RR_15 (Cells.obj (vs := [I _, .slice _ _ _]) hc15_m25) (List.forall_mem_cons.2 ⟨rfl, List.forall_mem_cons.2 ⟨rfl, by simp⟩⟩) (by omega) (by omega) (by omega) hk15.own fun aR16 cR16 w16 RR_16 S16 cS16 hS16 => ?_
      have z16 := cS16.size
      have kx16 : KeepX true w.heap.size [m25, m7, m1] (fun _ => False) w15 w16 := cS16.own (fun x hx => ⟨hk15.own x hx, fun h => (hS16 x h).2 hx⟩) (by simp) (fun _ => ⟨hb15.size, fun x hx => by have := (hS16 x hx).1; omega⟩)
      rw [← allP_succ] at RR_16
      have LP_16 := LP_15.out cS16 (fun x hx => by have := (hS16 x hx).1; omega)
      have LF_16 := LF_15.out cS16 (fun x hx => by have := (hS16 x hx).1; omega)
      have LG_16 := LG_15.out cS16 (fun x hx => by have := (hS16 x hx).1; omega)
      have MM_16 := MM_15.out cS16 (fun x hx => by have := (hS16 x hx).1; omega)
      refine ⟨_, _, _, rfl, kx16, ?_⟩
      intro w17 hb17 hk17
      have y17 := hb17.size
      have z17 := hk17.size; have o17 := hk17.own
      simp only [List.mem_cons, List.not_mem_nil, or_false, forall_eq_or_imp, forall_eq] at o17
      have LP_17 := LP_16.ko hk17 (allc (.inr (by omega)) (allc (.inr (by omega)) (allc (.inl (by omega)) all0)))
      have LF_17 := LF_16.ko hk17 (allc (.inr (by omega)) (allc (.inr (by omega)) (allc (.inl (by omega)) all0)))
      have LG_17 := LG_16.ko hk17 (allc (.inr (by omega)) (allc (.inl (by omega)) (allc (.inl (by omega)) all0)))
      have MM_17 := MM_16.ko hk17 (allc (by omega) (allc (by omega) (allc (by omega) all0)))
      have RR_17 := RR_16.chg (Chg.kept hk17) (fun _ h => h)
      refine (works_l LP_17.cells LF_17.cells hW.small).mono fun e18 w18 he => ?_
      obtain ⟨pa18, pc18, fa18, fc18, rfl, hd18, LV18_18, LU18_18⟩ := he
      have hb18 := hb17.trans (hd18.mono hb17.size)
      have z18 := hd18.size
      have LP_18 := LP_17.below hd18
      have LF_18 := LF_17.below hd18
      have LG_18 := LG_17.below hd18
      have MM_18 := MM_17.below hd18
      have RR_18 := RR_17.below hd18
      refine ⟨_, _, _, _, _, _, rfl, .all hd18, ?_⟩
      intro w19 hb19 hk19
      have y19 := hb19.size
      have z19 := hk19.size; have o19 := hk19.own
      simp only [List.mem_cons, List.not_mem_nil, or_false, forall_eq_or_imp, forall_eq] at o19
      have LP_19 := LP_18.ko hk19 (allc (.inr (by omega)) (allc (.inr (by omega)) (allc (.inl (by omega)) all0)))
      have LF_19 := LF_18.ko hk19 (allc (.inr (by omega)) (allc (.inr (by omega)) (allc (.inl (by omega)) all0)))
      have LG_19 := LG_18.ko hk19 (allc (.inr (by omega)) (allc (.inl (by omega)) (allc (.inl (by omega)) all0)))
      have MM_19 := MM_18.ko hk19 (allc (by omega) (allc (by omega) (allc (by omega) all0)))
      have LV18_19 := LV18_18.ko hk19 (allc (.inl (by omega)) (allc (.inl (by omega)) (allc (.inl (by omega)) all0)))
      have LU18_19 := LU18_18.ko hk19 (allc (.inl (by omega)) (allc (.inl (by omega)) (allc (.inl (by omega)) all0)))
      have RR_19 := RR_18.chg (Chg.kept hk19) (fun _ h => h)
      refine (pieces_n allP_len (liesP_of RR_19 (Nat.le_refl B)).cells (by omega) (fun x hx => by have := (allP_good hW hl (by omega) x hx).len hW; omega)).mono fun e20 w20 he => ?_
      obtain ⟨a20, c20, rfl, hd20, LK20_20⟩ := he
      have hb20 := hb19.trans (hd20.mono hb19.size)
      have z20 := hd20.size
      have LP_20 := LP_19.below hd20
      have LF_20 := LF_19.below hd20
      have LG_20 := LG_19.below hd20
      have MM_20 := MM_19.below hd20
      have LV18_20 := LV18_19.below hd20
      have LU18_20 := LU18_19.below hd20
      have RR_20 := RR_19.below hd20
      refine ⟨_, _, _, rfl, .all hd20, ?_⟩
      refine load_pieceN allP_len LK20_20 (by omega) fun m38 m39 hm1 a12 m41 hs1 => ?_
      have hs1_20 := hs1
      refine ⟨(by first | omega | (simp only; omega)), ?_⟩
      intro w21 hb21 hk21
      have y21 := hb21.size
      have z21 := hk21.size; have o21 := hk21.own
      simp only [List.mem_cons, List.not_mem_nil, or_false, forall_eq_or_imp, forall_eq] at o21
      have LP_21 := LP_20.ko hk21 (allc (.inr (by omega)) (allc (.inr (by omega)) (allc (.inl (by omega)) all0)))
      have LF_21 := LF_20.ko hk21 (allc (.inr (by omega)) (allc (.inr (by omega)) (allc (.inl (by omega)) all0)))
      have LG_21 := LG_20.ko hk21 (allc (.inr (by omega)) (allc (.inl (by omega)) (allc (.inl (by omega)) all0)))
      have MM_21 := MM_20.ko hk21 (allc (by omega) (allc (by omega) (allc (by omega) all0)))
      have LV18_21 := LV18_20.ko hk21 (allc (.inl (by omega)) (allc (.inl (by omega)) (allc (.inl (by omega)) all0)))
      have LU18_21 := LU18_20.ko hk21 (allc (.inl (by omega)) (allc (.inl (by omega)) (allc (.inl (by omega)) all0)))
      have LK20_21 := LK20_20.ko hk21 (allc (.inl (by omega)) (allc (.inl (by omega)) (allc (.inl (by omega)) all0)))
      have hs1_21 := hs1_20.ko hk21 (allc (.inl (by omega)) (allc (.inl (by omega)) (allc (.inl (by omega)) all0)))
      have RR_21 := RR_20.chg (Chg.kept hk21) (fun _ h => h)
      refine Pure.calls (good_p _ hs1_21.cells LV18_21.cells LU18_21.cells hW (allP_at hW hl (k := m20 + 1) (by omega) (i := (m20 : Int)) (by omega)).1) fun w22 hd22 => ?_
      have hb22 := hb21.trans (hd22.mono hb21.size)
      have z22 := hd22.size
      have LP_22 := LP_21.below hd22
      have LF_22 := LF_21.below hd22
      have LG_22 := LG_21.below hd22
      have MM_22 := MM_21.below hd22
      have LV18_22 := LV18_21.below hd22
      have LU18_22 := LU18_21.below hd22
      have LK20_22 := LK20_21.below hd22
      have hs1_22 := hs1_21.below hd22
      have RR_22 := RR_21.below hd22
      refine ⟨_, _, rfl, .all hd22, ?_, ?_⟩
      · intro h4 w23 hb23 hk23
        try simp only [Bool.not_eq_true', Bool.not_eq_false', decide_eq_true_eq, decide_eq_false_iff_not] at h4
        have y23 := hb23.size
        have z23 := hk23.size; have o23 := hk23.own
        simp only [List.mem_cons, List.not_mem_nil, or_false, forall_eq_or_imp, forall_eq] at o23
        have LP_23 := LP_22.ko hk23 (allc (.inr (by omega)) (allc (.inr (by omega)) (allc (.inl (by omega)) all0)))
        have LF_23 := LF_22.ko hk23 (allc (.inr (by omega)) (allc (.inr (by omega)) (allc (.inl (by omega)) all0)))
        have LG_23 := LG_22.ko hk23 (allc (.inr (by omega)) (allc (.inl (by omega)) (allc (.inl (by omega)) all0)))
        have MM_23 := MM_22.ko hk23 (allc (by omega) (allc (by omega) (allc (by omega) all0)))
        have LV18_23 := LV18_22.ko hk23 (allc (.inl (by omega)) (allc (.inl (by omega)) (allc (.inl (by omega)) all0)))
        have LU18_23 := LU18_22.ko hk23 (allc (.inl (by omega)) (allc (.inl (by omega)) (allc (.inl (by omega)) all0)))
        have LK20_23 := LK20_22.ko hk23 (allc (.inl (by omega)) (allc (.inl (by omega)) (allc (.inl (by omega)) all0)))
        have hs1_23 := hs1_22.ko hk23 (allc (.inl (by omega)) (allc (.inl (by omega)) (allc (.inl (by omega)) all0)))
        have RR_23 := RR_22.chg (Chg.kept hk23) (fun _ h => h)
        exact ⟨by first | rfl | contradiction | (exfalso; omega) | simp_all, hb23⟩
      · intro h5
        try simp only [] at h5
        refine ⟨?_, ?_⟩
        · intro h6 w24 hb24 hk24
          try simp only [Bool.not_eq_true'] at h6
          have y24 := hb24.size
          have z24 := hk24.size; have o24 := hk24.own
          simp only [List.mem_cons, List.not_mem_nil, or_false, forall_eq_or_imp, forall_eq] at o24
          have LP_24 := LP_22.ko hk24 (allc (.inr (by omega)) (allc (.inr (by omega)) (allc (.inl (by omega)) all0)))
          have LF_24 := LF_22.ko hk24 (allc (.inr (by omega)) (allc (.inr (by omega)) (allc (.inl (by omega)) all0)))
          have LG_24 := LG_22.ko hk24 (allc (.inr (by omega)) (allc (.inl (by omega)) (allc (.inl (by omega)) all0)))
          have MM_24 := MM_22.ko hk24 (allc (by omega) (allc (by omega) (allc (by omega) all0)))
          have LV18_24 := LV18_22.ko hk24 (allc (.inl (by omega)) (allc (.inl (by omega)) (allc (.inl (by omega)) all0)))
          have LU18_24 := LU18_22.ko hk24 (allc (.inl (by omega)) (allc (.inl (by omega)) (allc (.inl (by omega)) all0)))
          have LK20_24 := LK20_22.ko hk24 (allc (.inl (by omega)) (allc (.inl (by omega)) (allc (.inl (by omega)) all0)))
          have hs1_24 := hs1_22.ko hk24 (allc (.inl (by omega)) (allc (.inl (by omega)) (allc (.inl (by omega)) all0)))
          have RR_24 := RR_22.chg (Chg.kept hk24) (fun _ h => h)
          exact ⟨by first | rfl | contradiction | (exfalso; omega) | simp_all, hb24⟩
        · intro h7
          try simp only [Bool.not_eq_false'] at h7
          refine ⟨(by first | omega | (simp only; omega)), ?_⟩
          intro w25 hb25 hk25
          have y25 := hb25.size
          have z25 := hk25.size; have o25 := hk25.own
          simp only [List.mem_cons, List.not_mem_nil, or_false, forall_eq_or_imp, forall_eq] at o25
          have LP_25 := LP_22.ko hk25 (allc (.inr (by omega)) (allc (.inr (by omega)) (allc (.inl (by omega)) all0)))
          have LF_25 := LF_22.ko hk25 (allc (.inr (by omega)) (allc (.inr (by omega)) (allc (.inl (by omega)) all0)))
          have LG_25 := LG_22.ko hk25 (allc (.inr (by omega)) (allc (.inl (by omega)) (allc (.inl (by omega)) all0)))
          have MM_25 := MM_22.ko hk25 (allc (by omega) (allc (by omega) (allc (by omega) all0)))
          have LV18_25 := LV18_22.ko hk25 (allc (.inl (by omega)) (allc (.inl (by omega)) (allc (.inl (by omega)) all0)))
          have LU18_25 := LU18_22.ko hk25 (allc (.inl (by omega)) (allc (.inl (by omega)) (allc (.inl (by omega)) all0)))
          have LK20_25 := LK20_22.ko hk25 (allc (.inl (by omega)) (allc (.inl (by omega)) (allc (.inl (by omega)) all0)))
          have hs1_25 := hs1_22.ko hk25 (allc (.inl (by omega)) (allc (.inl (by omega)) (allc (.inl (by omega)) all0)))
          have RR_25 := RR_22.chg (Chg.kept hk25) (fun _ h => h)
          refine ⟨?_, (by first | omega | (simp only; omega))⟩
          exact ⟨by omega, by omega, B, ⟨by omega, by omega, by omega, by omega⟩, RR_25.less (by simp), MM_25, ⟨⟨LP_25, LF_25, LG_25⟩, by omega⟩⟩
    · intro h8
      try simp only [Bool.not_eq_true', Bool.not_eq_false', decide_eq_true_eq, decide_eq_false_iff_not] at h8
      have hmn : m20 = W.pats.length := by omega
      have LQ_12 := liesP_of RR (Nat.le_refl B)
      refine ⟨fun ls w' => match ls with | [.bool _, .int _ ii] => (0 ≤ ii ∧ ii ≤ (LooseM W).length) ∧ MapAt w8.heap.size (looseF W ii.toNat) w' ∧ w12.heap.size ≤ w'.heap.size ∧ LiesP B w12.heap.size w' a6 (allP W l m20) ∧ Held8 w1.heap.size w2.heap.size w5.heap.size w6.heap.size pa fa ga W w' | _ => False, fun ls => match ls with | [_, .int _ ii] => ((LooseM W).length - ii).toNat | _ => 0, ?_, ?_⟩
      · intro w27 hb27 hk27
        have y27 := hb27.size
        have z27 := hk27.size; have o27 := hk27.own
        simp only [List.mem_cons, List.not_mem_nil, or_false, forall_eq_or_imp, forall_eq] at o27
        have LP_27 := LP.ko hk27 (allc (.inr (by omega)) (allc (.inl (by omega)) all0))
        have LF_27 := LF.ko hk27 (allc (.inr (by omega)) (allc (.inl (by omega)) all0))
        have LG_27 := LG.ko hk27 (allc (.inl (by omega)) (allc (.inl (by omega)) all0))
        have MM_27 := MM.ko hk27 (allc (by omega) (allc (by omega) all0))
        have LQ_27 := LQ_12.ko hk27 (allc (.inl (by omega)) (allc (.inl (by omega)) all0))
        exact ⟨⟨by omega, by omega⟩, MM_27, by omega, LQ_27, ⟨⟨LP_27, LF_27, LG_27⟩, by omega⟩⟩
      rintro t3 x6 w28 hb28 ⟨hx6, MM, zW, LQ, ⟨⟨LP, LF, LG⟩, zH⟩⟩
      have y28 := hb28.size
      refine ⟨?_, ?_⟩
      · intro h9
        try simp only [Bool.not_eq_true', Bool.not_eq_false', decide_eq_true_eq, decide_eq_false_iff_not] at h9
        refine load_gapL LG (by omega) fun m43 m44 hm2 => ?_
        have hgg := loose_at hW (j := x6.toNat) (by omega)
        simp only [gap0, fit00, fitHS, fitSS] at hgg
        obtain ⟨hg1, hg2, hg3, hg4, hg5⟩ := hgg
        have ho := fit_ok hW hg1
        have hoh := ho.h
        have hos := ho.s
        have hog := ho.g
        have hfh := fit_hs hW ho
        have hfs := fit_ss hW ho
        simp only [fit00, fitHS, fitSS] at hoh hos hog hfh hfs
        refine ⟨(by first | omega | (simp only; omega)), ?_⟩
        intro m45 g_m45
        refine ⟨fun ls w' => match ls with | [.bool t] => t = false ∧ MapAt w8.heap.size (looseF W x6.toNat) w' ∧ w12.heap.size ≤ w'.heap.size ∧ LiesP B w12.heap.size w' a6 (allP W l m20) ∧ Held8 w1.heap.size w2.heap.size w5.heap.size w6.heap.size pa fa ga W w' | _ => False, ?_, ?_⟩
        · refine ⟨?_, ?_⟩
          · intro h10 w30 hb30 hk30 hc30_m45
            try simp only [Bool.not_eq_true', Bool.not_eq_false', decide_eq_true_eq, decide_eq_false_iff_not] at h10
            have y30 := hb30.size
            have z30 := hk30.size; have o30 := hk30.own
            simp only [List.mem_cons, List.not_mem_nil, or_false, forall_eq_or_imp, forall_eq] at o30
            have LP_30 := LP.ko hk30 (allc (.inr (by omega)) (allc (.inr (by omega)) (allc (.inl (by omega)) all0)))
            have LF_30 := LF.ko hk30 (allc (.inr (by omega)) (allc (.inr (by omega)) (allc (.inl (by omega)) all0)))
            have LG_30 := LG.ko hk30 (allc (.inr (by omega)) (allc (.inl (by omega)) (allc (.inl (by omega)) all0)))
            have MM_30 := MM.ko hk30 (allc (by omega) (allc (by omega) (allc (by omega) all0)))
            have LQ_30 := LQ.ko hk30 (allc (.inr (by omega)) (allc (.inl (by omega)) (allc (.inl (by omega)) all0)))
            exfalso; omega
          · intro h11
            try simp only [Bool.not_eq_true', Bool.not_eq_false', decide_eq_true_eq, decide_eq_false_iff_not] at h11
            refine ⟨?_, ?_⟩
            · intro h12 w31 hb31 hk31 hc31_m45 hc31_m45' hc31_m7
              try simp only [Bool.not_eq_true', Bool.not_eq_false', decide_eq_true_eq, decide_eq_false_iff_not] at h12
              have y31 := hb31.size
              have z31 := hk31.size; have o31 := hk31.own
              simp only [List.mem_cons, List.not_mem_nil, or_false, forall_eq_or_imp, forall_eq] at o31
              have LP_31 := LP.ko hk31 (allc (.inr (by omega)) (allc (.inr (by omega)) (allc (.inl (by omega)) all0)))
              have LF_31 := LF.ko hk31 (allc (.inr (by omega)) (allc (.inr (by omega)) (allc (.inl (by omega)) all0)))
              have LG_31 := LG.ko hk31 (allc (.inr (by omega)) (allc (.inl (by omega)) (allc (.inl (by omega)) all0)))
              have MM_31 := MM.ko hk31 (allc (by omega) (allc (by omega) (allc (by omega) all0)))
              have LQ_31 := LQ.ko hk31 (allc (.inr (by omega)) (allc (.inl (by omega)) (allc (.inl (by omega)) all0)))
              exfalso; omega
            · intro h13
              try simp only [Bool.not_eq_true', Bool.not_eq_false', decide_eq_true_eq, decide_eq_false_iff_not] at h13
              refine ⟨?_, ?_⟩
              · intro h14
                try simp only [Bool.not_eq_true', Bool.not_eq_false', decide_eq_true_eq, decide_eq_false_iff_not] at h14
                refine ⟨(by first | omega | (simp only; omega)), ?_⟩
                refine load_gapL_0 LG (by omega) fun m50 m51 hm3 => ?_
                refine ⟨(by first | omega | (simp only; omega)), ?_⟩
                intro w32 hb32 hk32 hc32_m45 hc32_m45' hc32_m7 hc32_m45'
                have y32 := hb32.size
                have z32 := hk32.size; have o32 := hk32.own
                simp only [List.mem_cons, List.not_mem_nil, or_false, forall_eq_or_imp, forall_eq] at o32
                have LP_32 := LP.ko hk32 (allc (.inr (by omega)) (allc (.inr (by omega)) (allc (.inl (by omega)) all0)))
                have LF_32 := LF.ko hk32 (allc (.inr (by omega)) (allc (.inr (by omega)) (allc (.inl (by omega)) all0)))
                have LG_32 := LG.ko hk32 (allc (.inr (by omega)) (allc (.inl (by omega)) (allc (.inl (by omega)) all0)))
                have MM_32 := MM.ko hk32 (allc (by omega) (allc (by omega) (allc (by omega) all0)))
                have LQ_32 := LQ.ko hk32 (allc (.inr (by omega)) (allc (.inl (by omega)) (allc (.inl (by omega)) all0)))
                exact ⟨decide_eq_false (by have := loose_lt hW (i := (x6 - 1).toNat) (j := x6.toNat) (by omega) (by omega); simp only [gap0] at this; omega), MM_32, by omega, LQ_32, ⟨⟨LP_32, LF_32, LG_32⟩, by omega⟩⟩
              · intro h15 w33 hb33 hk33 hc33_m45 hc33_m45' hc33_m7
                try simp only [Bool.not_eq_true', Bool.not_eq_false', decide_eq_true_eq, decide_eq_false_iff_not] at h15
                have y33 := hb33.size
                have z33 := hk33.size; have o33 := hk33.own
                simp only [List.mem_cons, List.not_mem_nil, or_false, forall_eq_or_imp, forall_eq] at o33
                have LP_33 := LP.ko hk33 (allc (.inr (by omega)) (allc (.inr (by omega)) (allc (.inl (by omega)) all0)))
                have LF_33 := LF.ko hk33 (allc (.inr (by omega)) (allc (.inr (by omega)) (allc (.inl (by omega)) all0)))
                have LG_33 := LG.ko hk33 (allc (.inr (by omega)) (allc (.inl (by omega)) (allc (.inl (by omega)) all0)))
                have MM_33 := MM.ko hk33 (allc (by omega) (allc (by omega) (allc (by omega) all0)))
                have LQ_33 := LQ.ko hk33 (allc (.inr (by omega)) (allc (.inl (by omega)) (allc (.inl (by omega)) all0)))
                exact ⟨rfl, MM_33, by omega, LQ_33, ⟨⟨LP_33, LF_33, LG_33⟩, by omega⟩⟩
        rintro t4 w34 hb34 ⟨rfl, MM, zW, LQ, ⟨⟨LP, LF, LG⟩, zH⟩⟩
        have y34 := hb34.size
        refine ⟨?_, ?_⟩
        · intro h16 w35 hb35 hk35
          try simp only [Bool.not_eq_true', Bool.not_eq_false', decide_eq_true_eq, decide_eq_false_iff_not] at h16
          have y35 := hb35.size
          have z35 := hk35.size; have o35 := hk35.own
          simp only [List.mem_cons, List.not_mem_nil, or_false, forall_eq_or_imp, forall_eq] at o35
          have LP_35 := LP.ko hk35 (allc (.inr (by omega)) (allc (.inr (by omega)) (allc (.inl (by omega)) all0)))
          have LF_35 := LF.ko hk35 (allc (.inr (by omega)) (allc (.inr (by omega)) (allc (.inl (by omega)) all0)))
          have LG_35 := LG.ko hk35 (allc (.inr (by omega)) (allc (.inl (by omega)) (allc (.inl (by omega)) all0)))
          have MM_35 := MM.ko hk35 (allc (by omega) (allc (by omega) (allc (by omega) all0)))
          have LQ_35 := LQ.ko hk35 (allc (.inr (by omega)) (allc (.inl (by omega)) (allc (.inl (by omega)) all0)))
          exact ⟨by first | rfl | contradiction | (exfalso; omega) | simp_all, hb35⟩
        · intro h17
          try simp only [] at h17
          refine load_fitL LF (by omega) fun m61 m62 hm4 => ?_
          refine ⟨(by first | omega | (simp only; omega)), ?_⟩
          intro m63 g_m63
          refine load_patL LP (by omega) fun m64 m65 hm5 a13 m67 hs5 => ?_
          have hs5_34 := hs5
          refine ⟨(by first | omega | (simp only; omega)), ?_⟩
          refine load_spanL hs5_34 (by omega) fun m68 m69 hm6 => ?_
          refine ⟨(by first | omega | (simp only; omega)), ?_⟩
          intro m70 g_m70 m71 g_m71
          refine load_patL LP (by omega) fun m72 m73 hm7 a14 m75 hs7 => ?_
          have hs7_34 := hs7
          refine ⟨(by first | omega | (simp only; omega)), ?_⟩
          refine load_spanL hs7_34 (by omega) fun m76 m77 hm8 => ?_
          refine ⟨(by first | omega | (simp only; omega)), (by first | omega | (simp only; omega)), ?_⟩
          refine ⟨fun ls w' => match ls with | [.bool t] => t = false ∧ MapAt w8.heap.size (looseF W x6.toNat) w' ∧ w12.heap.size ≤ w'.heap.size ∧ LiesP B w12.heap.size w' a6 (allP W l m20) ∧ Held8 w1.heap.size w2.heap.size w5.heap.size w6.heap.size pa fa ga W w' | _ => False, ?_, ?_⟩
          · refine ⟨?_, ?_⟩
            · intro h18 w37 hb37 hk37 hc37_m45 hc37_m70
              try simp only [Bool.not_eq_true', Bool.not_eq_false', decide_eq_true_eq, decide_eq_false_iff_not] at h18
              have y37 := hb37.size
              have z37 := hk37.size; have o37 := hk37.own
              simp only [List.mem_cons, List.not_mem_nil, or_false, forall_eq_or_imp, forall_eq] at o37
              have LP_37 := LP.ko hk37 (allc (.inr (by omega)) (allc (.inr (by omega)) (allc (.inr (by omega)) (allc (.inr (by omega)) (allc (.inr (by omega)) (allc (.inl (by omega)) all0))))))
              have LF_37 := LF.ko hk37 (allc (.inr (by omega)) (allc (.inr (by omega)) (allc (.inr (by omega)) (allc (.inr (by omega)) (allc (.inr (by omega)) (allc (.inl (by omega)) all0))))))
              have LG_37 := LG.ko hk37 (allc (.inr (by omega)) (allc (.inr (by omega)) (allc (.inr (by omega)) (allc (.inr (by omega)) (allc (.inl (by omega)) (allc (.inl (by omega)) all0))))))
              have MM_37 := MM.ko hk37 (allc (by omega) (allc (by omega) (allc (by omega) (allc (by omega) (allc (by omega) (allc (by omega) all0))))))
              have LQ_37 := LQ.ko hk37 (allc (.inr (by omega)) (allc (.inr (by omega)) (allc (.inr (by omega)) (allc (.inr (by omega)) (allc (.inl (by omega)) (allc (.inl (by omega)) all0))))))
              have hs5_37 := hs5_34.ko hk37 (allc (.inr (by omega)) (allc (.inr (by omega)) (allc (.inr (by omega)) (allc (.inr (by omega)) (allc (.inr (by omega)) (allc (.inl (by omega)) all0))))))
              have hs7_37 := hs7_34.ko hk37 (allc (.inr (by omega)) (allc (.inr (by omega)) (allc (.inr (by omega)) (allc (.inr (by omega)) (allc (.inr (by omega)) (allc (.inl (by omega)) all0))))))
              exfalso; omega
            · intro h19
              try simp only [Bool.not_eq_true', Bool.not_eq_false', decide_eq_true_eq, decide_eq_false_iff_not] at h19
              refine ⟨?_, ?_⟩
              · intro h20 w38 hb38 hk38 hc38_m45 hc38_m70 hc38_m45' hc38_m70'
                try simp only [Bool.not_eq_true', Bool.not_eq_false', decide_eq_true_eq, decide_eq_false_iff_not] at h20
                have y38 := hb38.size
                have z38 := hk38.size; have o38 := hk38.own
                simp only [List.mem_cons, List.not_mem_nil, or_false, forall_eq_or_imp, forall_eq] at o38
                have LP_38 := LP.ko hk38 (allc (.inr (by omega)) (allc (.inr (by omega)) (allc (.inr (by omega)) (allc (.inr (by omega)) (allc (.inr (by omega)) (allc (.inl (by omega)) all0))))))
                have LF_38 := LF.ko hk38 (allc (.inr (by omega)) (allc (.inr (by omega)) (allc (.inr (by omega)) (allc (.inr (by omega)) (allc (.inr (by omega)) (allc (.inl (by omega)) all0))))))
                have LG_38 := LG.ko hk38 (allc (.inr (by omega)) (allc (.inr (by omega)) (allc (.inr (by omega)) (allc (.inr (by omega)) (allc (.inl (by omega)) (allc (.inl (by omega)) all0))))))
                have MM_38 := MM.ko hk38 (allc (by omega) (allc (by omega) (allc (by omega) (allc (by omega) (allc (by omega) (allc (by omega) all0))))))
                have LQ_38 := LQ.ko hk38 (allc (.inr (by omega)) (allc (.inr (by omega)) (allc (.inr (by omega)) (allc (.inr (by omega)) (allc (.inl (by omega)) (allc (.inl (by omega)) all0))))))
                have hs5_38 := hs5_34.ko hk38 (allc (.inr (by omega)) (allc (.inr (by omega)) (allc (.inr (by omega)) (allc (.inr (by omega)) (allc (.inr (by omega)) (allc (.inl (by omega)) all0))))))
                have hs7_38 := hs7_34.ko hk38 (allc (.inr (by omega)) (allc (.inr (by omega)) (allc (.inr (by omega)) (allc (.inr (by omega)) (allc (.inr (by omega)) (allc (.inl (by omega)) all0))))))
                exfalso; omega
              · intro h21
                try simp only [Bool.not_eq_true', Bool.not_eq_false', decide_eq_true_eq, decide_eq_false_iff_not] at h21
                refine ⟨?_, ?_⟩
                · intro h22 w39 hb39 hk39 hc39_m45 hc39_m70 hc39_m45' hc39_m70' hc39_m45' hc39_m71
                  try simp only [Bool.not_eq_true', Bool.not_eq_false', decide_eq_true_eq, decide_eq_false_iff_not] at h22
                  have y39 := hb39.size
                  have z39 := hk39.size; have o39 := hk39.own
                  simp only [List.mem_cons, List.not_mem_nil, or_false, forall_eq_or_imp, forall_eq] at o39
                  have LP_39 := LP.ko hk39 (allc (.inr (by omega)) (allc (.inr (by omega)) (allc (.inr (by omega)) (allc (.inr (by omega)) (allc (.inr (by omega)) (allc (.inl (by omega)) all0))))))
                  have LF_39 := LF.ko hk39 (allc (.inr (by omega)) (allc (.inr (by omega)) (allc (.inr (by omega)) (allc (.inr (by omega)) (allc (.inr (by omega)) (allc (.inl (by omega)) all0))))))
                  have LG_39 := LG.ko hk39 (allc (.inr (by omega)) (allc (.inr (by omega)) (allc (.inr (by omega)) (allc (.inr (by omega)) (allc (.inl (by omega)) (allc (.inl (by omega)) all0))))))
                  have MM_39 := MM.ko hk39 (allc (by omega) (allc (by omega) (allc (by omega) (allc (by omega) (allc (by omega) (allc (by omega) all0))))))
                  have LQ_39 := LQ.ko hk39 (allc (.inr (by omega)) (allc (.inr (by omega)) (allc (.inr (by omega)) (allc (.inr (by omega)) (allc (.inl (by omega)) (allc (.inl (by omega)) all0))))))
                  have hs5_39 := hs5_34.ko hk39 (allc (.inr (by omega)) (allc (.inr (by omega)) (allc (.inr (by omega)) (allc (.inr (by omega)) (allc (.inr (by omega)) (allc (.inl (by omega)) all0))))))
                  have hs7_39 := hs7_34.ko hk39 (allc (.inr (by omega)) (allc (.inr (by omega)) (allc (.inr (by omega)) (allc (.inr (by omega)) (allc (.inr (by omega)) (allc (.inl (by omega)) all0))))))
                  exfalso; omega
                · intro h23
                  try simp only [Bool.not_eq_true', Bool.not_eq_false', decide_eq_true_eq, decide_eq_false_iff_not] at h23
                  refine ⟨?_, ?_⟩
                  · intro h24 w40 hb40 hk40 hc40_m45 hc40_m70 hc40_m45' hc40_m70' hc40_m45' hc40_m71 hc40_m45' hc40_m71'
                    try simp only [Bool.not_eq_true', Bool.not_eq_false', decide_eq_true_eq, decide_eq_false_iff_not] at h24
                    have y40 := hb40.size
                    have z40 := hk40.size; have o40 := hk40.own
                    simp only [List.mem_cons, List.not_mem_nil, or_false, forall_eq_or_imp, forall_eq] at o40
                    have LP_40 := LP.ko hk40 (allc (.inr (by omega)) (allc (.inr (by omega)) (allc (.inr (by omega)) (allc (.inr (by omega)) (allc (.inr (by omega)) (allc (.inl (by omega)) all0))))))
                    have LF_40 := LF.ko hk40 (allc (.inr (by omega)) (allc (.inr (by omega)) (allc (.inr (by omega)) (allc (.inr (by omega)) (allc (.inr (by omega)) (allc (.inl (by omega)) all0))))))
                    have LG_40 := LG.ko hk40 (allc (.inr (by omega)) (allc (.inr (by omega)) (allc (.inr (by omega)) (allc (.inr (by omega)) (allc (.inl (by omega)) (allc (.inl (by omega)) all0))))))
                    have MM_40 := MM.ko hk40 (allc (by omega) (allc (by omega) (allc (by omega) (allc (by omega) (allc (by omega) (allc (by omega) all0))))))
                    have LQ_40 := LQ.ko hk40 (allc (.inr (by omega)) (allc (.inr (by omega)) (allc (.inr (by omega)) (allc (.inr (by omega)) (allc (.inl (by omega)) (allc (.inl (by omega)) all0))))))
                    have hs5_40 := hs5_34.ko hk40 (allc (.inr (by omega)) (allc (.inr (by omega)) (allc (.inr (by omega)) (allc (.inr (by omega)) (allc (.inr (by omega)) (allc (.inl (by omega)) all0))))))
                    have hs7_40 := hs7_34.ko hk40 (allc (.inr (by omega)) (allc (.inr (by omega)) (allc (.inr (by omega)) (allc (.inr (by omega)) (allc (.inr (by omega)) (allc (.inl (by omega)) all0))))))
                    exfalso; omega
                  · intro h25
                    try simp only [Bool.not_eq_true', Bool.not_eq_false', decide_eq_true_eq, decide_eq_false_iff_not] at h25
                    refine ⟨?_, ?_⟩
                    · intro h26 w41 hb41 hk41 hc41_m45 hc41_m70 hc41_m45' hc41_m70' hc41_m45' hc41_m71 hc41_m45' hc41_m71' hc41_m63 hc41_m63' hc41_m63' hc41_m63'
                      try simp only [Bool.not_eq_true', Bool.not_eq_false', decide_eq_true_eq, decide_eq_false_iff_not] at h26
                      have y41 := hb41.size
                      have z41 := hk41.size; have o41 := hk41.own
                      simp only [List.mem_cons, List.not_mem_nil, or_false, forall_eq_or_imp, forall_eq] at o41
                      have LP_41 := LP.ko hk41 (allc (.inr (by omega)) (allc (.inr (by omega)) (allc (.inr (by omega)) (allc (.inr (by omega)) (allc (.inr (by omega)) (allc (.inl (by omega)) all0))))))
                      have LF_41 := LF.ko hk41 (allc (.inr (by omega)) (allc (.inr (by omega)) (allc (.inr (by omega)) (allc (.inr (by omega)) (allc (.inr (by omega)) (allc (.inl (by omega)) all0))))))
                      have LG_41 := LG.ko hk41 (allc (.inr (by omega)) (allc (.inr (by omega)) (allc (.inr (by omega)) (allc (.inr (by omega)) (allc (.inl (by omega)) (allc (.inl (by omega)) all0))))))
                      have MM_41 := MM.ko hk41 (allc (by omega) (allc (by omega) (allc (by omega) (allc (by omega) (allc (by omega) (allc (by omega) all0))))))
                      have LQ_41 := LQ.ko hk41 (allc (.inr (by omega)) (allc (.inr (by omega)) (allc (.inr (by omega)) (allc (.inr (by omega)) (allc (.inl (by omega)) (allc (.inl (by omega)) all0))))))
                      have hs5_41 := hs5_34.ko hk41 (allc (.inr (by omega)) (allc (.inr (by omega)) (allc (.inr (by omega)) (allc (.inr (by omega)) (allc (.inr (by omega)) (allc (.inl (by omega)) all0))))))
                      have hs7_41 := hs7_34.ko hk41 (allc (.inr (by omega)) (allc (.inr (by omega)) (allc (.inr (by omega)) (allc (.inr (by omega)) (allc (.inr (by omega)) (allc (.inl (by omega)) all0))))))
                      exact ⟨decide_eq_false (by omega), MM_41, by omega, LQ_41, ⟨⟨LP_41, LF_41, LG_41⟩, by omega⟩⟩
                    · intro h27 w42 hb42 hk42 hc42_m45 hc42_m70 hc42_m45' hc42_m70' hc42_m45' hc42_m71 hc42_m45' hc42_m71' hc42_m63 hc42_m63'
                      try simp only [Bool.not_eq_true', Bool.not_eq_false', decide_eq_true_eq, decide_eq_false_iff_not] at h27
                      have y42 := hb42.size
                      have z42 := hk42.size; have o42 := hk42.own
                      simp only [List.mem_cons, List.not_mem_nil, or_false, forall_eq_or_imp, forall_eq] at o42
                      have LP_42 := LP.ko hk42 (allc (.inr (by omega)) (allc (.inr (by omega)) (allc (.inr (by omega)) (allc (.inr (by omega)) (allc (.inr (by omega)) (allc (.inl (by omega)) all0))))))
                      have LF_42 := LF.ko hk42 (allc (.inr (by omega)) (allc (.inr (by omega)) (allc (.inr (by omega)) (allc (.inr (by omega)) (allc (.inr (by omega)) (allc (.inl (by omega)) all0))))))
                      have LG_42 := LG.ko hk42 (allc (.inr (by omega)) (allc (.inr (by omega)) (allc (.inr (by omega)) (allc (.inr (by omega)) (allc (.inl (by omega)) (allc (.inl (by omega)) all0))))))
                      have MM_42 := MM.ko hk42 (allc (by omega) (allc (by omega) (allc (by omega) (allc (by omega) (allc (by omega) (allc (by omega) all0))))))
                      have LQ_42 := LQ.ko hk42 (allc (.inr (by omega)) (allc (.inr (by omega)) (allc (.inr (by omega)) (allc (.inr (by omega)) (allc (.inl (by omega)) (allc (.inl (by omega)) all0))))))
                      have hs5_42 := hs5_34.ko hk42 (allc (.inr (by omega)) (allc (.inr (by omega)) (allc (.inr (by omega)) (allc (.inr (by omega)) (allc (.inr (by omega)) (allc (.inl (by omega)) all0))))))
                      have hs7_42 := hs7_34.ko hk42 (allc (.inr (by omega)) (allc (.inr (by omega)) (allc (.inr (by omega)) (allc (.inr (by omega)) (allc (.inr (by omega)) (allc (.inl (by omega)) all0))))))
                      exact ⟨rfl, MM_42, by omega, LQ_42, ⟨⟨LP_42, LF_42, LG_42⟩, by omega⟩⟩
          rintro t5 w43 hb43 ⟨rfl, MM, zW, LQ, ⟨⟨LP, LF, LG⟩, zH⟩⟩
          have y43 := hb43.size
          refine ⟨?_, ?_⟩
          · intro h28 w44 hb44 hk44
            try simp only [Bool.not_eq_true', Bool.not_eq_false', decide_eq_true_eq, decide_eq_false_iff_not] at h28
            have y44 := hb44.size
            have z44 := hk44.size; have o44 := hk44.own
            simp only [List.mem_cons, List.not_mem_nil, or_false, forall_eq_or_imp, forall_eq] at o44
            have LP_44 := LP.ko hk44 (allc (.inr (by omega)) (allc (.inr (by omega)) (allc (.inr (by omega)) (allc (.inr (by omega)) (allc (.inr (by omega)) (allc (.inl (by omega)) all0))))))
            have LF_44 := LF.ko hk44 (allc (.inr (by omega)) (allc (.inr (by omega)) (allc (.inr (by omega)) (allc (.inr (by omega)) (allc (.inr (by omega)) (allc (.inl (by omega)) all0))))))
            have LG_44 := LG.ko hk44 (allc (.inr (by omega)) (allc (.inr (by omega)) (allc (.inr (by omega)) (allc (.inr (by omega)) (allc (.inl (by omega)) (allc (.inl (by omega)) all0))))))
            have MM_44 := MM.ko hk44 (allc (by omega) (allc (by omega) (allc (by omega) (allc (by omega) (allc (by omega) (allc (by omega) all0))))))
            have LQ_44 := LQ.ko hk44 (allc (.inr (by omega)) (allc (.inr (by omega)) (allc (.inr (by omega)) (allc (.inr (by omega)) (allc (.inl (by omega)) (allc (.inl (by omega)) all0))))))
            exact ⟨by first | rfl | contradiction | (exfalso; omega) | simp_all, hb44⟩
          · intro h29
            try simp only [] at h29
            refine ⟨(by first | omega | (simp only; omega)), ?_⟩
            refine ⟨fun ls w' => match ls with | [.bool t] => t = false ∧ MapAt w8.heap.size (looseF W x6.toNat) w' ∧ w12.heap.size ≤ w'.heap.size ∧ LiesP B w12.heap.size w' a6 (allP W l m20) ∧ Held8 w1.heap.size w2.heap.size w5.heap.size w6.heap.size pa fa ga W w' | _ => False, ?_, ?_⟩
            · refine ⟨?_, ?_⟩
              · intro h30
                try simp only [Bool.not_eq_true', Bool.not_eq_false', decide_eq_true_eq, decide_eq_false_iff_not] at h30
                refine ⟨(by first | omega | (simp only; omega)), ?_, ?_⟩
                · intro h31 w46 hb46 hk46 hc46_m70 hc46_m71 hc46_m63 hc46_m63'
                  try simp only [Bool.not_eq_true', Bool.not_eq_false', decide_eq_true_eq, decide_eq_false_iff_not] at h31
                  have y46 := hb46.size
                  have z46 := hk46.size; have o46 := hk46.own
                  simp only [List.mem_cons, List.not_mem_nil, or_false, forall_eq_or_imp, forall_eq] at o46
                  have LP_46 := LP.ko hk46 (allc (.inr (by omega)) (allc (.inr (by omega)) (allc (.inr (by omega)) (allc (.inr (by omega)) (allc (.inr (by omega)) (allc (.inl (by omega)) all0))))))
                  have LF_46 := LF.ko hk46 (allc (.inr (by omega)) (allc (.inr (by omega)) (allc (.inr (by omega)) (allc (.inr (by omega)) (allc (.inr (by omega)) (allc (.inl (by omega)) all0))))))
                  have LG_46 := LG.ko hk46 (allc (.inr (by omega)) (allc (.inr (by omega)) (allc (.inr (by omega)) (allc (.inr (by omega)) (allc (.inl (by omega)) (allc (.inl (by omega)) all0))))))
                  have MM_46 := MM.ko hk46 (allc (by omega) (allc (by omega) (allc (by omega) (allc (by omega) (allc (by omega) (allc (by omega) all0))))))
                  have LQ_46 := LQ.ko hk46 (allc (.inr (by omega)) (allc (.inr (by omega)) (allc (.inr (by omega)) (allc (.inr (by omega)) (allc (.inl (by omega)) (allc (.inl (by omega)) all0))))))
                  exfalso; have h5 := hg5 (by omega); omega
                · intro h32
                  try simp only [Bool.not_eq_true', Bool.not_eq_false', decide_eq_true_eq, decide_eq_false_iff_not] at h32
                  refine ⟨(by first | omega | (simp only; omega)), ?_⟩
                  intro w47 hb47 hk47 hc47_m70 hc47_m71 hc47_m63 hc47_m63' hc47_m71' hc47_m63' hc47_m63'
                  have y47 := hb47.size
                  have z47 := hk47.size; have o47 := hk47.own
                  simp only [List.mem_cons, List.not_mem_nil, or_false, forall_eq_or_imp, forall_eq] at o47
                  have LP_47 := LP.ko hk47 (allc (.inr (by omega)) (allc (.inr (by omega)) (allc (.inr (by omega)) (allc (.inr (by omega)) (allc (.inr (by omega)) (allc (.inl (by omega)) all0))))))
                  have LF_47 := LF.ko hk47 (allc (.inr (by omega)) (allc (.inr (by omega)) (allc (.inr (by omega)) (allc (.inr (by omega)) (allc (.inr (by omega)) (allc (.inl (by omega)) all0))))))
                  have LG_47 := LG.ko hk47 (allc (.inr (by omega)) (allc (.inr (by omega)) (allc (.inr (by omega)) (allc (.inr (by omega)) (allc (.inl (by omega)) (allc (.inl (by omega)) all0))))))
                  have MM_47 := MM.ko hk47 (allc (by omega) (allc (by omega) (allc (by omega) (allc (by omega) (allc (by omega) (allc (by omega) all0))))))
                  have LQ_47 := LQ.ko hk47 (allc (.inr (by omega)) (allc (.inr (by omega)) (allc (.inr (by omega)) (allc (.inr (by omega)) (allc (.inl (by omega)) (allc (.inl (by omega)) all0))))))
                  exact ⟨decide_eq_false (by have h5 := hg5 (by omega); omega), MM_47, by omega, LQ_47, ⟨⟨LP_47, LF_47, LG_47⟩, by omega⟩⟩
              · intro h33 w48 hb48 hk48 hc48_m70
                try simp only [Bool.not_eq_true', Bool.not_eq_false', decide_eq_true_eq, decide_eq_false_iff_not] at h33
                have y48 := hb48.size
                have z48 := hk48.size; have o48 := hk48.own
                simp only [List.mem_cons, List.not_mem_nil, or_false, forall_eq_or_imp, forall_eq] at o48
                have LP_48 := LP.ko hk48 (allc (.inr (by omega)) (allc (.inr (by omega)) (allc (.inr (by omega)) (allc (.inr (by omega)) (allc (.inr (by omega)) (allc (.inl (by omega)) all0))))))
                have LF_48 := LF.ko hk48 (allc (.inr (by omega)) (allc (.inr (by omega)) (allc (.inr (by omega)) (allc (.inr (by omega)) (allc (.inr (by omega)) (allc (.inl (by omega)) all0))))))
                have LG_48 := LG.ko hk48 (allc (.inr (by omega)) (allc (.inr (by omega)) (allc (.inr (by omega)) (allc (.inr (by omega)) (allc (.inl (by omega)) (allc (.inl (by omega)) all0))))))
                have MM_48 := MM.ko hk48 (allc (by omega) (allc (by omega) (allc (by omega) (allc (by omega) (allc (by omega) (allc (by omega) all0))))))
                have LQ_48 := LQ.ko hk48 (allc (.inr (by omega)) (allc (.inr (by omega)) (allc (.inr (by omega)) (allc (.inr (by omega)) (allc (.inl (by omega)) (allc (.inl (by omega)) all0))))))
                exact ⟨rfl, MM_48, by omega, LQ_48, ⟨⟨LP_48, LF_48, LG_48⟩, by omega⟩⟩
            rintro t6 w49 hb49 ⟨rfl, MM, zW, LQ, ⟨⟨LP, LF, LG⟩, zH⟩⟩
            have y49 := hb49.size
            refine ⟨?_, ?_⟩
            · intro h34 w50 hb50 hk50
              try simp only [Bool.not_eq_true', Bool.not_eq_false', decide_eq_true_eq, decide_eq_false_iff_not] at h34
              have y50 := hb50.size
              have z50 := hk50.size; have o50 := hk50.own
              simp only [List.mem_cons, List.not_mem_nil, or_false, forall_eq_or_imp, forall_eq] at o50
              have LP_50 := LP.ko hk50 (allc (.inr (by omega)) (allc (.inr (by omega)) (allc (.inr (by omega)) (allc (.inr (by omega)) (allc (.inr (by omega)) (allc (.inl (by omega)) all0))))))
              have LF_50 := LF.ko hk50 (allc (.inr (by omega)) (allc (.inr (by omega)) (allc (.inr (by omega)) (allc (.inr (by omega)) (allc (.inr (by omega)) (allc (.inl (by omega)) all0))))))
              have LG_50 := LG.ko hk50 (allc (.inr (by omega)) (allc (.inr (by omega)) (allc (.inr (by omega)) (allc (.inr (by omega)) (allc (.inl (by omega)) (allc (.inl (by omega)) all0))))))
              have MM_50 := MM.ko hk50 (allc (by omega) (allc (by omega) (allc (by omega) (allc (by omega) (allc (by omega) (allc (by omega) all0))))))
              have LQ_50 := LQ.ko hk50 (allc (.inr (by omega)) (allc (.inr (by omega)) (allc (.inr (by omega)) (allc (.inr (by omega)) (allc (.inl (by omega)) (allc (.inl (by omega)) all0))))))
              exact ⟨by first | rfl | contradiction | (exfalso; omega) | simp_all, hb50⟩
            · intro h35 w51 hb51 hk51
              try simp only [] at h35
              have y51 := hb51.size
              have z51 := hk51.size; have o51 := hk51.own
              simp only [List.mem_cons, List.not_mem_nil, or_false, forall_eq_or_imp, forall_eq] at o51
              have LP_51 := LP.ko hk51 (allc (.inr (by omega)) (allc (.inr (by omega)) (allc (.inr (by omega)) (allc (.inr (by omega)) (allc (.inr (by omega)) (allc (.inl (by omega)) all0))))))
              have LF_51 := LF.ko hk51 (allc (.inr (by omega)) (allc (.inr (by omega)) (allc (.inr (by omega)) (allc (.inr (by omega)) (allc (.inr (by omega)) (allc (.inl (by omega)) all0))))))
              have LG_51 := LG.ko hk51 (allc (.inr (by omega)) (allc (.inr (by omega)) (allc (.inr (by omega)) (allc (.inr (by omega)) (allc (.inl (by omega)) (allc (.inl (by omega)) all0))))))
              have MM_51 := MM.ko hk51 (allc (by omega) (allc (by omega) (allc (by omega) (allc (by omega) (allc (by omega) (allc (by omega) all0))))))
              have LQ_51 := LQ.ko hk51 (allc (.inr (by omega)) (allc (.inr (by omega)) (allc (.inr (by omega)) (allc (.inr (by omega)) (allc (.inl (by omega)) (allc (.inl (by omega)) all0))))))
              refine map_add MM_51 (looseF_new hW (by omega)) fun w52 MM_52 c52 => ?_
              have z52 := c52.size
              have kx52 : KeepX true w.heap.size [m71, m70, m63, m45, m7, m1] (fun _ => False) w51 w52 := c52.own (fun x hx => ⟨hk51.own x hx, fun h => by simp only [List.mem_cons, List.not_mem_nil, or_false] at h hx; omega⟩) (by simp) (fun _ => ⟨hb51.size, fun x hx => by simp only [List.mem_singleton] at hx; omega⟩)
              have LP_52 := LP_51.out c52 (allc (by omega) all0)
              have LF_52 := LF_51.out c52 (allc (by omega) all0)
              have LG_52 := LG_51.out c52 (allc (by omega) all0)
              have LQ_52 := LQ_51.out c52 (allc (by omega) all0)
              refine ⟨kx52, (by first | omega | (simp only; omega)), ?_⟩
              intro w53 hb53 hk53
              have y53 := hb53.size
              have z53 := hk53.size; have o53 := hk53.own
              simp only [List.mem_cons, List.not_mem_nil, or_false, forall_eq_or_imp, forall_eq] at o53
              have LP_53 := LP_52.ko hk53 (allc (.inr (by omega)) (allc (.inr (by omega)) (allc (.inr (by omega)) (allc (.inr (by omega)) (allc (.inr (by omega)) (allc (.inl (by omega)) all0))))))
              have LF_53 := LF_52.ko hk53 (allc (.inr (by omega)) (allc (.inr (by omega)) (allc (.inr (by omega)) (allc (.inr (by omega)) (allc (.inr (by omega)) (allc (.inl (by omega)) all0))))))
              have LG_53 := LG_52.ko hk53 (allc (.inr (by omega)) (allc (.inr (by omega)) (allc (.inr (by omega)) (allc (.inr (by omega)) (allc (.inl (by omega)) (allc (.inl (by omega)) all0))))))
              have MM_53 := MM_52.ko hk53 (allc (by omega) (allc (by omega) (allc (by omega) (allc (by omega) (allc (by omega) (allc (by omega) all0))))))
              have LQ_53 := LQ_52.ko hk53 (allc (.inr (by omega)) (allc (.inr (by omega)) (allc (.inr (by omega)) (allc (.inr (by omega)) (allc (.inl (by omega)) (allc (.inl (by omega)) all0))))))
              refine ⟨?_, (by first | omega | (simp only; omega))⟩
              exact ⟨⟨by omega, by omega⟩, by rw [show (x6 + 1).toNat = x6.toNat + 1 by omega, looseF_succ (by omega)]; exact MM_53, by omega, LQ_53, ⟨⟨LP_53, LF_53, LG_53⟩, by omega⟩⟩
      · intro h36
        try simp only [Bool.not_eq_true', Bool.not_eq_false', decide_eq_true_eq, decide_eq_false_iff_not] at h36
        refine ⟨fun ls w' => match ls with | [.bool _, .int _ ii] => (0 ≤ ii ∧ ii ≤ W.fits.length) ∧ MapAt w8.heap.size (looseF W (LooseM W).length) w' ∧ w12.heap.size ≤ w'.heap.size ∧ LiesP B w12.heap.size w' a6 (allP W l m20) ∧ Held8 w1.heap.size w2.heap.size w5.heap.size w6.heap.size pa fa ga W w' | _ => False, fun ls => match ls with | [_, .int _ ii] => (W.fits.length - ii).toNat | _ => 0, ?_, ?_⟩
        · intro w55 hb55 hk55
          have y55 := hb55.size
          have z55 := hk55.size; have o55 := hk55.own
          simp only [List.mem_cons, List.not_mem_nil, or_false, forall_eq_or_imp, forall_eq] at o55
          have LP_55 := LP.ko hk55 (allc (.inr (by omega)) (allc (.inl (by omega)) all0))
          have LF_55 := LF.ko hk55 (allc (.inr (by omega)) (allc (.inl (by omega)) all0))
          have LG_55 := LG.ko hk55 (allc (.inl (by omega)) (allc (.inl (by omega)) all0))
          have MM_55 := MM.ko hk55 (allc (by omega) (allc (by omega) all0))
          have LQ_55 := LQ.ko hk55 (allc (.inl (by omega)) (allc (.inl (by omega)) all0))
          exact ⟨⟨by omega, by omega⟩, by rw [show (LooseM W).length = x6.toNat by omega]; exact MM_55, by omega, LQ_55, ⟨⟨LP_55, LF_55, LG_55⟩, by omega⟩⟩
        rintro t7 x24 w56 hb56 ⟨hx24, MM, zW, LQ, ⟨⟨LP, LF, LG⟩, zH⟩⟩
        have y56 := hb56.size
        refine ⟨?_, ?_⟩
        · intro h37
          try simp only [Bool.not_eq_true', Bool.not_eq_false', decide_eq_true_eq, decide_eq_false_iff_not] at h37
          refine load_fitL LF (by omega) fun m137 m138 hm9 => ?_
          have ho8 := fit_ok hW (i := x24) (by omega)
          have hoh := ho8.h
          have hos := ho8.s
          simp only [fit00] at hoh hos
          have p1 := allP_at hW hl (k := m20) (i := (W.fits.getD x24.toNat ⟨0, 0, 0, 0, (0, 0)⟩).hole) (by omega) (by omega)
          have p2 := allP_at hW hl (k := m20) (i := (W.fits.getD x24.toNat ⟨0, 0, 0, 0, (0, 0)⟩).shaft) (by omega) (by omega)
          have n1 := p1.1.n
          have n2 := p2.1.n
          unfold Wk.pat at n1 n2
          rw [p1.2] at n1
          rw [p2.2] at n2
          have z1 := size_in p1.1 (s := (W.fits.getD x24.toNat ⟨0, 0, 0, 0, (0, 0)⟩).hs) (by rw [p1.2]; exact hoh.2)
          have z2 := size_in p2.1 (s := (W.fits.getD x24.toNat ⟨0, 0, 0, 0, (0, 0)⟩).ss) (by rw [p2.2]; exact hos.2)
          rw [p1.2] at z1
          rw [p2.2] at z2
          have hfh := fit_hs hW ho8
          have hfs := fit_ss hW ho8
          simp only [fit00, fitHS, fitSS] at hfh hfs
          refine ⟨(by first | omega | (simp only; omega)), ?_⟩
          intro m139 g_m139
          refine load_pieceN_1 allP_len LQ (by omega) fun m140 m141 hm10 a15 m143 hs10 => ?_
          have hs10_56 := hs10
          refine ⟨(by first | omega | (simp only; omega)), ?_⟩
          refine load_intL hs10_56 (by omega) fun m144 m145 hm11 => ?_
          refine ⟨(by first | omega | (simp only; omega)), ?_⟩
          refine load_pieceN_1 allP_len LQ (by omega) fun m146 m147 hm12 a16 m149 hs12 => ?_
          have hs12_56 := hs12
          refine ⟨(by first | omega | (simp only; omega)), ?_⟩
          refine load_intL hs12_56 (by omega) fun m150 m151 hm13 => ?_
          refine ⟨(by first | omega | (simp only; omega)), (by first | omega | (simp only; omega)), ?_⟩
          refine ⟨fun ls w' => match ls with | [.bool t] => t = false ∧ MapAt w8.heap.size (looseF W (LooseM W).length) w' ∧ w12.heap.size ≤ w'.heap.size ∧ LiesP B w12.heap.size w' a6 (allP W l m20) ∧ Held8 w1.heap.size w2.heap.size w5.heap.size w6.heap.size pa fa ga W w' | _ => False, ?_, ?_⟩
          · intro w58 hb58 hk58
            have y58 := hb58.size
            have z58 := hk58.size; have o58 := hk58.own
            simp only [List.mem_cons, List.not_mem_nil, or_false, forall_eq_or_imp, forall_eq] at o58
            have LP_58 := LP.ko hk58 (allc (.inr (by omega)) (allc (.inr (by omega)) (allc (.inl (by omega)) all0)))
            have LF_58 := LF.ko hk58 (allc (.inr (by omega)) (allc (.inr (by omega)) (allc (.inl (by omega)) all0)))
            have LG_58 := LG.ko hk58 (allc (.inr (by omega)) (allc (.inl (by omega)) (allc (.inl (by omega)) all0)))
            have MM_58 := MM.ko hk58 (allc (by omega) (allc (by omega) (allc (by omega) all0)))
            have LQ_58 := LQ.ko hk58 (allc (.inr (by omega)) (allc (.inl (by omega)) (allc (.inl (by omega)) all0)))
            have hs10_58 := hs10_56.ko hk58 (allc (.inr (by omega)) (allc (.inl (by omega)) (allc (.inl (by omega)) all0)))
            have hs12_58 := hs12_56.ko hk58 (allc (.inr (by omega)) (allc (.inl (by omega)) (allc (.inl (by omega)) all0)))
            refine map_has MM_58 ?_
            refine ⟨_, rfl, .all (.refl _ _), ?_, ?_⟩
            · intro h38
              try simp only [Bool.not_eq_true', decide_eq_false_iff_not] at h38
              refine ⟨?_, ?_⟩
              · intro h39 w60 hb60 hk60 hc60_m139 hc60_m139'
                try simp only [Bool.not_eq_true', Bool.not_eq_false', decide_eq_true_eq, decide_eq_false_iff_not] at h39
                have y60 := hb60.size
                have z60 := hk60.size; have o60 := hk60.own
                simp only [List.mem_cons, List.not_mem_nil, or_false, forall_eq_or_imp, forall_eq] at o60
                have LP_60 := LP_58.ko hk60 (allc (.inr (by omega)) (allc (.inr (by omega)) (allc (.inl (by omega)) all0)))
                have LF_60 := LF_58.ko hk60 (allc (.inr (by omega)) (allc (.inr (by omega)) (allc (.inl (by omega)) all0)))
                have LG_60 := LG_58.ko hk60 (allc (.inr (by omega)) (allc (.inl (by omega)) (allc (.inl (by omega)) all0)))
                have MM_60 := MM_58.ko hk60 (allc (by omega) (allc (by omega) (allc (by omega) all0)))
                have LQ_60 := LQ_58.ko hk60 (allc (.inr (by omega)) (allc (.inl (by omega)) (allc (.inl (by omega)) all0)))
                have hs10_60 := hs10_58.ko hk60 (allc (.inr (by omega)) (allc (.inl (by omega)) (allc (.inl (by omega)) all0)))
                have hs12_60 := hs12_58.ko hk60 (allc (.inr (by omega)) (allc (.inl (by omega)) (allc (.inl (by omega)) all0)))
                exfalso; have hsu := good_fit hW ho8 (not_loose hW (by omega) (by assumption)) p1.1 p2.1 p1.2 p2.2; unfold isF at hsu; simp only [fit00] at hsu; omega
              · intro h40 w61 hb61 hk61 hc61_m139 hc61_m139' hc61_m139' hc61_m139'
                try simp only [Bool.not_eq_true', Bool.not_eq_false', decide_eq_true_eq, decide_eq_false_iff_not] at h40
                have y61 := hb61.size
                have z61 := hk61.size; have o61 := hk61.own
                simp only [List.mem_cons, List.not_mem_nil, or_false, forall_eq_or_imp, forall_eq] at o61
                have LP_61 := LP_58.ko hk61 (allc (.inr (by omega)) (allc (.inr (by omega)) (allc (.inl (by omega)) all0)))
                have LF_61 := LF_58.ko hk61 (allc (.inr (by omega)) (allc (.inr (by omega)) (allc (.inl (by omega)) all0)))
                have LG_61 := LG_58.ko hk61 (allc (.inr (by omega)) (allc (.inl (by omega)) (allc (.inl (by omega)) all0)))
                have MM_61 := MM_58.ko hk61 (allc (by omega) (allc (by omega) (allc (by omega) all0)))
                have LQ_61 := LQ_58.ko hk61 (allc (.inr (by omega)) (allc (.inl (by omega)) (allc (.inl (by omega)) all0)))
                have hs10_61 := hs10_58.ko hk61 (allc (.inr (by omega)) (allc (.inl (by omega)) (allc (.inl (by omega)) all0)))
                have hs12_61 := hs12_58.ko hk61 (allc (.inr (by omega)) (allc (.inl (by omega)) (allc (.inl (by omega)) all0)))
                exact ⟨decide_eq_false (by have hsu := good_fit hW ho8 (not_loose hW (by omega) (by assumption)) p1.1 p2.1 p1.2 p2.2; unfold isF at hsu; simp only [fit00] at hsu; omega), MM_61, by omega, LQ_61, ⟨⟨LP_61, LF_61, LG_61⟩, by omega⟩⟩
            · intro h41 w62 hb62 hk62
              try simp only [Bool.not_eq_false', decide_eq_true_eq] at h41
              have y62 := hb62.size
              have z62 := hk62.size; have o62 := hk62.own
              simp only [List.mem_cons, List.not_mem_nil, or_false, forall_eq_or_imp, forall_eq] at o62
              have LP_62 := LP_58.ko hk62 (allc (.inr (by omega)) (allc (.inr (by omega)) (allc (.inl (by omega)) all0)))
              have LF_62 := LF_58.ko hk62 (allc (.inr (by omega)) (allc (.inr (by omega)) (allc (.inl (by omega)) all0)))
              have LG_62 := LG_58.ko hk62 (allc (.inr (by omega)) (allc (.inl (by omega)) (allc (.inl (by omega)) all0)))
              have MM_62 := MM_58.ko hk62 (allc (by omega) (allc (by omega) (allc (by omega) all0)))
              have LQ_62 := LQ_58.ko hk62 (allc (.inr (by omega)) (allc (.inl (by omega)) (allc (.inl (by omega)) all0)))
              have hs10_62 := hs10_58.ko hk62 (allc (.inr (by omega)) (allc (.inl (by omega)) (allc (.inl (by omega)) all0)))
              have hs12_62 := hs12_58.ko hk62 (allc (.inr (by omega)) (allc (.inl (by omega)) (allc (.inl (by omega)) all0)))
              exact ⟨rfl, MM_62, by omega, LQ_62, ⟨⟨LP_62, LF_62, LG_62⟩, by omega⟩⟩
          rintro t9 w63 hb63 ⟨rfl, MM, zW, LQ, ⟨⟨LP, LF, LG⟩, zH⟩⟩
          have y63 := hb63.size
          refine ⟨?_, ?_⟩
          · intro h42 w64 hb64 hk64
            try simp only [Bool.not_eq_true', Bool.not_eq_false', decide_eq_true_eq, decide_eq_false_iff_not] at h42
            have y64 := hb64.size
            have z64 := hk64.size; have o64 := hk64.own
            simp only [List.mem_cons, List.not_mem_nil, or_false, forall_eq_or_imp, forall_eq] at o64
            have LP_64 := LP.ko hk64 (allc (.inr (by omega)) (allc (.inr (by omega)) (allc (.inl (by omega)) all0)))
            have LF_64 := LF.ko hk64 (allc (.inr (by omega)) (allc (.inr (by omega)) (allc (.inl (by omega)) all0)))
            have LG_64 := LG.ko hk64 (allc (.inr (by omega)) (allc (.inl (by omega)) (allc (.inl (by omega)) all0)))
            have MM_64 := MM.ko hk64 (allc (by omega) (allc (by omega) (allc (by omega) all0)))
            have LQ_64 := LQ.ko hk64 (allc (.inr (by omega)) (allc (.inl (by omega)) (allc (.inl (by omega)) all0)))
            exact ⟨by first | rfl | contradiction | (exfalso; omega) | simp_all, hb64⟩
          · intro h43
            try simp only [] at h43
            refine ⟨(by first | omega | (simp only; omega)), ?_⟩
            intro w65 hb65 hk65
            have y65 := hb65.size
            have z65 := hk65.size; have o65 := hk65.own
            simp only [List.mem_cons, List.not_mem_nil, or_false, forall_eq_or_imp, forall_eq] at o65
            have LP_65 := LP.ko hk65 (allc (.inr (by omega)) (allc (.inr (by omega)) (allc (.inl (by omega)) all0)))
            have LF_65 := LF.ko hk65 (allc (.inr (by omega)) (allc (.inr (by omega)) (allc (.inl (by omega)) all0)))
            have LG_65 := LG.ko hk65 (allc (.inr (by omega)) (allc (.inl (by omega)) (allc (.inl (by omega)) all0)))
            have MM_65 := MM.ko hk65 (allc (by omega) (allc (by omega) (allc (by omega) all0)))
            have LQ_65 := LQ.ko hk65 (allc (.inr (by omega)) (allc (.inl (by omega)) (allc (.inl (by omega)) all0)))
            refine ⟨?_, (by first | omega | (simp only; omega))⟩
            exact ⟨⟨by omega, by omega⟩, MM_65, by omega, LQ_65, ⟨⟨LP_65, LF_65, LG_65⟩, by omega⟩⟩
        · intro h44
          try simp only [Bool.not_eq_true', Bool.not_eq_false', decide_eq_true_eq, decide_eq_false_iff_not] at h44
          refine ⟨fun ls w' => match ls with | [.bool _, .int _ ii] => (0 ≤ ii ∧ ii ≤ W.pats.length) ∧ w12.heap.size ≤ w'.heap.size ∧ LiesP B w12.heap.size w' a6 (allP W l m20) ∧ Held8 w1.heap.size w2.heap.size w5.heap.size w6.heap.size pa fa ga W w' | _ => False, fun ls => match ls with | [_, .int _ ii] => (W.pats.length - ii).toNat | _ => 0, ?_, ?_⟩
          · intro w67 hb67 hk67
            have y67 := hb67.size
            have z67 := hk67.size; have o67 := hk67.own
            simp only [List.mem_cons, List.not_mem_nil, or_false, forall_eq_or_imp, forall_eq] at o67
            have LP_67 := LP.ko hk67 (allc (.inr (by omega)) (allc (.inl (by omega)) all0))
            have LF_67 := LF.ko hk67 (allc (.inr (by omega)) (allc (.inl (by omega)) all0))
            have LG_67 := LG.ko hk67 (allc (.inl (by omega)) (allc (.inl (by omega)) all0))
            have MM_67 := MM.ko hk67 (allc (by omega) (allc (by omega) all0))
            have LQ_67 := LQ.ko hk67 (allc (.inl (by omega)) (allc (.inl (by omega)) all0))
            exact ⟨⟨by omega, by omega⟩, by omega, LQ_67, ⟨⟨LP_67, LF_67, LG_67⟩, by omega⟩⟩
          rintro t10 x34 w68 hb68 ⟨hx34, zW, LQ, ⟨⟨LP, LF, LG⟩, zH⟩⟩
          have y68 := hb68.size
          have qm := tmod_bd (a := x34 + 1) (b := (m20 : Int)) (by omega) (by omega)
          refine ⟨?_, ?_⟩
          · intro h45
            try simp only [Bool.not_eq_true', Bool.not_eq_false', decide_eq_true_eq, decide_eq_false_iff_not] at h45
            refine ⟨(by first | omega | (simp only; omega)), ?_⟩
            intro w69 hb69 hk69
            have y69 := hb69.size
            have z69 := hk69.size; have o69 := hk69.own
            simp only [List.mem_cons, List.not_mem_nil, or_false, forall_eq_or_imp, forall_eq] at o69
            have LP_69 := LP.kio hk69 (allc (.inr (by omega)) (allc (.inl (by omega)) all0)) ⟨(0, w68.heap.size), by simp, by simp only; omega, by simp only; omega⟩
            have LF_69 := LF.kio hk69 (allc (.inr (by omega)) (allc (.inl (by omega)) all0)) ⟨(0, w68.heap.size), by simp, by simp only; omega, by simp only; omega⟩
            have LG_69 := LG.kio hk69 (allc (.inl (by omega)) (allc (.inl (by omega)) all0)) ⟨(0, w68.heap.size), by simp, by simp only; omega, by simp only; omega⟩
            have LQ_69 := LQ.kio hk69 (allc (.inl (by omega)) (allc (.inl (by omega)) all0)) ⟨(0, w68.heap.size), by simp, by simp only; omega, by simp only; omega⟩
            refine (piece_p LP_69.cells hW (by omega) (hc.keep hb69) hl (by omega)).mono fun e70 w70 he => ?_
            obtain ⟨a70, c70, rfl, hd70, LY70_70⟩ := he
            have hb70 := hb69.trans (hd70.mono hb69.size)
            have z70 := hd70.size
            have LP_70 := LP_69.below hd70
            have LF_70 := LF_69.below hd70
            have LG_70 := LG_69.below hd70
            have LQ_70 := LQ_69.below hd70
            refine ⟨_, _, _, _, rfl, hd70, (by first | omega | (simp only; omega)), (by first | omega | (simp only; omega)), ?_⟩
            intro w71 hb71 hk71
            have y71 := hb71.size
            have z71 := hk71.size; have o71 := hk71.own
            simp only [List.mem_cons, List.not_mem_nil, or_false, forall_eq_or_imp, forall_eq] at o71
            have LP_71 := LP_70.kio hk71 (allc (.inr (by omega)) (allc (.inl (by omega)) all0)) ⟨(0, w68.heap.size), by simp, by simp only; omega, by simp only; omega⟩
            have LF_71 := LF_70.kio hk71 (allc (.inr (by omega)) (allc (.inl (by omega)) all0)) ⟨(0, w68.heap.size), by simp, by simp only; omega, by simp only; omega⟩
            have LG_71 := LG_70.kio hk71 (allc (.inl (by omega)) (allc (.inl (by omega)) all0)) ⟨(0, w68.heap.size), by simp, by simp only; omega, by simp only; omega⟩
            have LQ_71 := LQ_70.kio hk71 (allc (.inl (by omega)) (allc (.inl (by omega)) all0)) ⟨(0, w68.heap.size), by simp, by simp only; omega, by simp only; omega⟩
            have LY70_71 := LY70_70.kio hk71 (allc (.inl (by omega)) (allc (.inl (by omega)) all0)) ⟨(w69.heap.size, w70.heap.size), by simp, by simp only; omega, by simp only; omega⟩
            refine (piece_p LP_71.cells hW (by omega) (hc.keep hb71) hl (by omega)).mono fun e72 w72 he => ?_
            obtain ⟨a72, c72, rfl, hd72, LZ72_72⟩ := he
            have hb72 := hb71.trans (hd72.mono hb71.size)
            have z72 := hd72.size
            have LP_72 := LP_71.below hd72
            have LF_72 := LF_71.below hd72
            have LG_72 := LG_71.below hd72
            have LQ_72 := LQ_71.below hd72
            have LY70_72 := LY70_71.below hd72
            refine ⟨_, _, _, _, rfl, hd72, (by first | omega | (simp only; omega)), (by first | omega | (simp only; omega)), ?_⟩
            refine load_pieceN allP_len LQ (by omega) fun m165 m166 hm14 a19 m168 hs14 => ?_
            have hs14_68 := hs14
            have hs14_69 := hs14_68.kio hk69 (allc (.inl (by omega)) (allc (.inl (by omega)) all0)) ⟨(0, w68.heap.size), by simp, by simp only; omega, by simp only; omega⟩
            have hs14_70 := hs14_69.below hd70
            have hs14_71 := hs14_70.kio hk71 (allc (.inl (by omega)) (allc (.inl (by omega)) all0)) ⟨(0, w68.heap.size), by simp, by simp only; omega, by simp only; omega⟩
            have hs14_72 := hs14_71.below hd72
            refine ⟨(by first | omega | (simp only; omega)), ?_⟩
            intro m169 g_m169 d0_m169 d1_m169 w73 hb73 hk73
            have y73 := hb73.size
            have z73 := hk73.size; have o73 := hk73.own
            simp only [List.mem_cons, List.not_mem_nil, or_false, forall_eq_or_imp, forall_eq] at o73
            have LP_73 := LP_72.ko hk73 (allc (.inr (by omega)) (allc (.inr (by omega)) (allc (.inl (by omega)) all0)))
            have LF_73 := LF_72.ko hk73 (allc (.inr (by omega)) (allc (.inr (by omega)) (allc (.inl (by omega)) all0)))
            have LG_73 := LG_72.ko hk73 (allc (.inr (by omega)) (allc (.inl (by omega)) (allc (.inl (by omega)) all0)))
            have LQ_73 := LQ_72.ko hk73 (allc (.inr (by omega)) (allc (.inl (by omega)) (allc (.inl (by omega)) all0)))
            have LY70_73 := LY70_72.ko hk73 (allc d1_m169 (allc (.inl (by omega)) (allc (.inl (by omega)) all0)))
            have LZ72_73 := LZ72_72.ko hk73 (allc d0_m169 (allc (.inl (by omega)) (allc (.inl (by omega)) all0)))
            have hs14_73 := hs14_72.ko hk73 (allc (.inr (by omega)) (allc (.inl (by omega)) (allc (.inl (by omega)) all0)))
            refine (works_l LP_73.cells LF_73.cells hW.small).mono fun e74 w74 he => ?_
            obtain ⟨pa74, pc74, fa74, fc74, rfl, hd74, LV74_74, LU74_74⟩ := he
            have hb74 := hb73.trans (hd74.mono hb73.size)
            have z74 := hd74.size
            have LP_74 := LP_73.below hd74
            have LF_74 := LF_73.below hd74
            have LG_74 := LG_73.below hd74
            have LQ_74 := LQ_73.below hd74
            have LY70_74 := LY70_73.below hd74
            have LZ72_74 := LZ72_73.below hd74
            have hs14_74 := hs14_73.below hd74
            refine ⟨_, _, _, _, _, _, rfl, .all hd74, ?_⟩
            intro w75 hb75 hk75
            have y75 := hb75.size
            have z75 := hk75.size; have o75 := hk75.own
            simp only [List.mem_cons, List.not_mem_nil, or_false, forall_eq_or_imp, forall_eq] at o75
            have LP_75 := LP_74.ko hk75 (allc (.inr (by omega)) (allc (.inr (by omega)) (allc (.inl (by omega)) all0)))
            have LF_75 := LF_74.ko hk75 (allc (.inr (by omega)) (allc (.inr (by omega)) (allc (.inl (by omega)) all0)))
            have LG_75 := LG_74.ko hk75 (allc (.inr (by omega)) (allc (.inl (by omega)) (allc (.inl (by omega)) all0)))
            have LQ_75 := LQ_74.ko hk75 (allc (.inr (by omega)) (allc (.inl (by omega)) (allc (.inl (by omega)) all0)))
            have LY70_75 := LY70_74.ko hk75 (allc d1_m169 (allc (.inl (by omega)) (allc (.inl (by omega)) all0)))
            have LZ72_75 := LZ72_74.ko hk75 (allc d0_m169 (allc (.inl (by omega)) (allc (.inl (by omega)) all0)))
            have hs14_75 := hs14_74.ko hk75 (allc (.inr (by omega)) (allc (.inl (by omega)) (allc (.inl (by omega)) all0)))
            have LV74_75 := LV74_74.ko hk75 (allc (.inl (by omega)) (allc (.inl (by omega)) (allc (.inl (by omega)) all0)))
            have LU74_75 := LU74_74.ko hk75 (allc (.inl (by omega)) (allc (.inl (by omega)) (allc (.inl (by omega)) all0)))
            refine (pieces_n allP_len LQ_75.cells (by omega) (fun x hx => by have := (allP_good hW hl (by omega) x hx).len hW; omega)).mono fun e76 w76 he => ?_
            obtain ⟨a76, c76, rfl, hd76, LK76_76⟩ := he
            have hb76 := hb75.trans (hd76.mono hb75.size)
            have z76 := hd76.size
            have LP_76 := LP_75.below hd76
            have LF_76 := LF_75.below hd76
            have LG_76 := LG_75.below hd76
            have LQ_76 := LQ_75.below hd76
            have LY70_76 := LY70_75.below hd76
            have LZ72_76 := LZ72_75.below hd76
            have hs14_76 := hs14_75.below hd76
            have LV74_76 := LV74_75.below hd76
            have LU74_76 := LU74_75.below hd76
            refine ⟨_, _, _, rfl, .all hd76, ?_⟩
            intro w77 hb77 hk77 hc77_m169
            have y77 := hb77.size
            have z77 := hk77.size; have o77 := hk77.own
            simp only [List.mem_cons, List.not_mem_nil, or_false, forall_eq_or_imp, forall_eq] at o77
            have LP_77 := LP_76.ko hk77 (allc (.inr (by omega)) (allc (.inr (by omega)) (allc (.inl (by omega)) all0)))
            have LF_77 := LF_76.ko hk77 (allc (.inr (by omega)) (allc (.inr (by omega)) (allc (.inl (by omega)) all0)))
            have LG_77 := LG_76.ko hk77 (allc (.inr (by omega)) (allc (.inl (by omega)) (allc (.inl (by omega)) all0)))
            have LQ_77 := LQ_76.ko hk77 (allc (.inr (by omega)) (allc (.inl (by omega)) (allc (.inl (by omega)) all0)))
            have LY70_77 := LY70_76.ko hk77 (allc d1_m169 (allc (.inl (by omega)) (allc (.inl (by omega)) all0)))
            have LZ72_77 := LZ72_76.ko hk77 (allc d0_m169 (allc (.inl (by omega)) (allc (.inl (by omega)) all0)))
            have hs14_77 := hs14_76.ko hk77 (allc (.inr (by omega)) (allc (.inl (by omega)) (allc (.inl (by omega)) all0)))
            have LV74_77 := LV74_76.ko hk77 (allc (.inl (by omega)) (allc (.inl (by omega)) (allc (.inl (by omega)) all0)))
            have LU74_77 := LU74_76.ko hk77 (allc (.inl (by omega)) (allc (.inl (by omega)) (allc (.inl (by omega)) all0)))
            have LK76_77 := LK76_76.ko hk77 (allc (.inl (by omega)) (allc (.inl (by omega)) (allc (.inl (by omega)) all0)))
            refine (pieces_n (l := [byP W l x34 (40 + x34), byP W l x34 (50 + 2 * x34), (allP W l m20).getD ((x34 + 1).tmod (m20 : Int)).toNat ⟨0, []⟩]) (n := 3) rfl (cellsP_three hc77_m169 LY70_77.cells LZ72_77.cells hs14_77.cells) (by omega) (fun x hx => by
              simp only [List.mem_cons, List.not_mem_nil, or_false] at hx
              rcases hx with rfl | rfl | rfl
              · have := (byP_good hW hl (i := x34) (k := 40 + x34) (by omega)).len hW; omega
              · have := (byP_good hW hl (i := x34) (k := 50 + 2 * x34) (by omega)).len hW; omega
              · have := (allP_at hW hl (k := m20) (by omega) qm).1.len hW; omega)).mono fun e78 w78 he => ?_
            obtain ⟨a78, c78, rfl, hd78, LK78_78⟩ := he
            have hb78 := hb77.trans (hd78.mono hb77.size)
            have z78 := hd78.size
            have LP_78 := LP_77.below hd78
            have LF_78 := LF_77.below hd78
            have LG_78 := LG_77.below hd78
            have LQ_78 := LQ_77.below hd78
            have LY70_78 := LY70_77.below hd78
            have LZ72_78 := LZ72_77.below hd78
            have hs14_78 := hs14_77.below hd78
            have LV74_78 := LV74_77.below hd78
            have LU74_78 := LU74_77.below hd78
            have LK76_78 := LK76_77.below hd78
            refine ⟨_, _, _, rfl, .all hd78, ?_⟩
            intro w79 hb79 hk79
            have y79 := hb79.size
            have z79 := hk79.size; have o79 := hk79.own
            simp only [List.mem_cons, List.not_mem_nil, or_false, forall_eq_or_imp, forall_eq] at o79
            have LP_79 := LP_78.ko hk79 (allc (.inr (by omega)) (allc (.inr (by omega)) (allc (.inl (by omega)) all0)))
            have LF_79 := LF_78.ko hk79 (allc (.inr (by omega)) (allc (.inr (by omega)) (allc (.inl (by omega)) all0)))
            have LG_79 := LG_78.ko hk79 (allc (.inr (by omega)) (allc (.inl (by omega)) (allc (.inl (by omega)) all0)))
            have LQ_79 := LQ_78.ko hk79 (allc (.inr (by omega)) (allc (.inl (by omega)) (allc (.inl (by omega)) all0)))
            have LY70_79 := LY70_78.ko hk79 (allc d1_m169 (allc (.inl (by omega)) (allc (.inl (by omega)) all0)))
            have LZ72_79 := LZ72_78.ko hk79 (allc d0_m169 (allc (.inl (by omega)) (allc (.inl (by omega)) all0)))
            have hs14_79 := hs14_78.ko hk79 (allc (.inr (by omega)) (allc (.inl (by omega)) (allc (.inl (by omega)) all0)))
            have LV74_79 := LV74_78.ko hk79 (allc (.inl (by omega)) (allc (.inl (by omega)) (allc (.inl (by omega)) all0)))
            have LU74_79 := LU74_78.ko hk79 (allc (.inl (by omega)) (allc (.inl (by omega)) (allc (.inl (by omega)) all0)))
            have LK76_79 := LK76_78.ko hk79 (allc (.inl (by omega)) (allc (.inl (by omega)) (allc (.inl (by omega)) all0)))
            have LK78_79 := LK78_78.ko hk79 (allc (.inl (by omega)) (allc (.inl (by omega)) (allc (.inl (by omega)) all0)))
            refine (choose_p (p := x34) LV74_79.cells LU74_79.cells hW LK76_79.cells LK78_79.cells (by omega) (byP_good hW hl (by omega)) (byP_good hW hl (by omega)) (allP_at hW hl (k := m20) (by omega) qm).1 rfl rfl (by rw [(allP_at hW hl (k := m20) (by omega) qm).2]; have := succ_mod (x := x34) (n := (m20 : Int)) (by omega) (by omega); exact this) (allP_good hW hl (by omega)) allP_len (by omega) allP_nodup).mono fun e80 w80 he => ?_
            obtain ⟨a80, c80, L, rfl, hd80, LC80_80, hLn, hL0⟩ := he
            have hb80 := hb79.trans (hd80.mono hb79.size)
            have z80 := hd80.size
            have LP_80 := LP_79.below hd80
            have LF_80 := LF_79.below hd80
            have LG_80 := LG_79.below hd80
            have LQ_80 := LQ_79.below hd80
            have LY70_80 := LY70_79.below hd80
            have LZ72_80 := LZ72_79.below hd80
            have hs14_80 := hs14_79.below hd80
            have LV74_80 := LV74_79.below hd80
            have LU74_80 := LU74_79.below hd80
            have LK76_80 := LK76_79.below hd80
            have LK78_80 := LK78_79.below hd80
            refine ⟨_, _, _, _, rfl, .all hd80, ?_⟩
            refine ⟨fun ls w' => match ls with | [.bool t] => t = false ∧ w12.heap.size ≤ w'.heap.size ∧ LiesP B w12.heap.size w' a6 (allP W l m20) ∧ Held8 w1.heap.size w2.heap.size w5.heap.size w6.heap.size pa fa ga W w' | _ => False, ?_, ?_⟩
            · refine ⟨?_, ?_⟩
              · intro h46 w82 hb82 hk82
                try simp only [Bool.not_eq_true', Bool.not_eq_false', decide_eq_true_eq, decide_eq_false_iff_not] at h46
                have y82 := hb82.size
                have z82 := hk82.size; have o82 := hk82.own
                simp only [List.mem_cons, List.not_mem_nil, or_false, forall_eq_or_imp, forall_eq] at o82
                have LP_82 := LP_80.ko hk82 (allc (.inr (by omega)) (allc (.inr (by omega)) (allc (.inl (by omega)) all0)))
                have LF_82 := LF_80.ko hk82 (allc (.inr (by omega)) (allc (.inr (by omega)) (allc (.inl (by omega)) all0)))
                have LG_82 := LG_80.ko hk82 (allc (.inr (by omega)) (allc (.inl (by omega)) (allc (.inl (by omega)) all0)))
                have LQ_82 := LQ_80.ko hk82 (allc (.inr (by omega)) (allc (.inl (by omega)) (allc (.inl (by omega)) all0)))
                have LY70_82 := LY70_80.ko hk82 (allc d1_m169 (allc (.inl (by omega)) (allc (.inl (by omega)) all0)))
                have LZ72_82 := LZ72_80.ko hk82 (allc d0_m169 (allc (.inl (by omega)) (allc (.inl (by omega)) all0)))
                have hs14_82 := hs14_80.ko hk82 (allc (.inr (by omega)) (allc (.inl (by omega)) (allc (.inl (by omega)) all0)))
                have LV74_82 := LV74_80.ko hk82 (allc (.inl (by omega)) (allc (.inl (by omega)) (allc (.inl (by omega)) all0)))
                have LU74_82 := LU74_80.ko hk82 (allc (.inl (by omega)) (allc (.inl (by omega)) (allc (.inl (by omega)) all0)))
                have LK76_82 := LK76_80.ko hk82 (allc (.inl (by omega)) (allc (.inl (by omega)) (allc (.inl (by omega)) all0)))
                have LK78_82 := LK78_80.ko hk82 (allc (.inl (by omega)) (allc (.inl (by omega)) (allc (.inl (by omega)) all0)))
                have LC80_82 := LC80_80.ko hk82 (allc (.inl (by omega)) (allc (.inl (by omega)) (allc (.inl (by omega)) all0)))
                exfalso; omega
              · intro h47
                try simp only [] at h47
                refine ⟨?_, ?_⟩
                · intro h48 w83 hb83 hk83
                  try simp only [Bool.not_eq_true', Bool.not_eq_false', decide_eq_true_eq, decide_eq_false_iff_not] at h48
                  have y83 := hb83.size
                  have z83 := hk83.size; have o83 := hk83.own
                  simp only [List.mem_cons, List.not_mem_nil, or_false, forall_eq_or_imp, forall_eq] at o83
                  have LP_83 := LP_80.ko hk83 (allc (.inr (by omega)) (allc (.inr (by omega)) (allc (.inl (by omega)) all0)))
                  have LF_83 := LF_80.ko hk83 (allc (.inr (by omega)) (allc (.inr (by omega)) (allc (.inl (by omega)) all0)))
                  have LG_83 := LG_80.ko hk83 (allc (.inr (by omega)) (allc (.inl (by omega)) (allc (.inl (by omega)) all0)))
                  have LQ_83 := LQ_80.ko hk83 (allc (.inr (by omega)) (allc (.inl (by omega)) (allc (.inl (by omega)) all0)))
                  have LY70_83 := LY70_80.ko hk83 (allc d1_m169 (allc (.inl (by omega)) (allc (.inl (by omega)) all0)))
                  have LZ72_83 := LZ72_80.ko hk83 (allc d0_m169 (allc (.inl (by omega)) (allc (.inl (by omega)) all0)))
                  have hs14_83 := hs14_80.ko hk83 (allc (.inr (by omega)) (allc (.inl (by omega)) (allc (.inl (by omega)) all0)))
                  have LV74_83 := LV74_80.ko hk83 (allc (.inl (by omega)) (allc (.inl (by omega)) (allc (.inl (by omega)) all0)))
                  have LU74_83 := LU74_80.ko hk83 (allc (.inl (by omega)) (allc (.inl (by omega)) (allc (.inl (by omega)) all0)))
                  have LK76_83 := LK76_80.ko hk83 (allc (.inl (by omega)) (allc (.inl (by omega)) (allc (.inl (by omega)) all0)))
                  have LK78_83 := LK78_80.ko hk83 (allc (.inl (by omega)) (allc (.inl (by omega)) (allc (.inl (by omega)) all0)))
                  have LC80_83 := LC80_80.ko hk83 (allc (.inl (by omega)) (allc (.inl (by omega)) (allc (.inl (by omega)) all0)))
                  exfalso; omega
                · intro h49
                  try simp only [Bool.not_eq_true', Bool.not_eq_false', decide_eq_true_eq, decide_eq_false_iff_not] at h49
                  refine ⟨?_, ?_⟩
                  · intro h50
                    try simp only [Bool.not_eq_true', Bool.not_eq_false', decide_eq_true_eq, decide_eq_false_iff_not] at h50
                    refine ⟨?_, ?_⟩
                    · intro h51 w84 hb84 hk84
                      try simp only [Bool.not_eq_true', Bool.not_eq_false', decide_eq_true_eq, decide_eq_false_iff_not] at h51
                      have y84 := hb84.size
                      have z84 := hk84.size; have o84 := hk84.own
                      simp only [List.mem_cons, List.not_mem_nil, or_false, forall_eq_or_imp, forall_eq] at o84
                      have LP_84 := LP_80.ko hk84 (allc (.inr (by omega)) (allc (.inr (by omega)) (allc (.inl (by omega)) all0)))
                      have LF_84 := LF_80.ko hk84 (allc (.inr (by omega)) (allc (.inr (by omega)) (allc (.inl (by omega)) all0)))
                      have LG_84 := LG_80.ko hk84 (allc (.inr (by omega)) (allc (.inl (by omega)) (allc (.inl (by omega)) all0)))
                      have LQ_84 := LQ_80.ko hk84 (allc (.inr (by omega)) (allc (.inl (by omega)) (allc (.inl (by omega)) all0)))
                      have LY70_84 := LY70_80.ko hk84 (allc d1_m169 (allc (.inl (by omega)) (allc (.inl (by omega)) all0)))
                      have LZ72_84 := LZ72_80.ko hk84 (allc d0_m169 (allc (.inl (by omega)) (allc (.inl (by omega)) all0)))
                      have hs14_84 := hs14_80.ko hk84 (allc (.inr (by omega)) (allc (.inl (by omega)) (allc (.inl (by omega)) all0)))
                      have LV74_84 := LV74_80.ko hk84 (allc (.inl (by omega)) (allc (.inl (by omega)) (allc (.inl (by omega)) all0)))
                      have LU74_84 := LU74_80.ko hk84 (allc (.inl (by omega)) (allc (.inl (by omega)) (allc (.inl (by omega)) all0)))
                      have LK76_84 := LK76_80.ko hk84 (allc (.inl (by omega)) (allc (.inl (by omega)) (allc (.inl (by omega)) all0)))
                      have LK78_84 := LK78_80.ko hk84 (allc (.inl (by omega)) (allc (.inl (by omega)) (allc (.inl (by omega)) all0)))
                      have LC80_84 := LC80_80.ko hk84 (allc (.inl (by omega)) (allc (.inl (by omega)) (allc (.inl (by omega)) all0)))
                      exfalso
                      have h0 := hL0 (List.length_eq_zero_iff.1 (by omega))
                      have h1 : L.length = 2 := by rw [h0]; rfl
                      have h2 : L.getD (Int.toNat 0) 0 = 0 := by rw [h0]; rfl
                      omega
                    · intro h52
                      try simp only [Bool.not_eq_true', Bool.not_eq_false', decide_eq_true_eq, decide_eq_false_iff_not] at h52
                      refine load_intL LC80_80 (by omega) fun m185 m186 hm15 => ?_
                      refine ⟨(by first | omega | (simp only; omega)), ?_, ?_⟩
                      · intro h53 w85 hb85 hk85
                        try simp only [Bool.not_eq_true', Bool.not_eq_false', decide_eq_true_eq, decide_eq_false_iff_not] at h53
                        have y85 := hb85.size
                        have z85 := hk85.size; have o85 := hk85.own
                        simp only [List.mem_cons, List.not_mem_nil, or_false, forall_eq_or_imp, forall_eq] at o85
                        have LP_85 := LP_80.ko hk85 (allc (.inr (by omega)) (allc (.inr (by omega)) (allc (.inl (by omega)) all0)))
                        have LF_85 := LF_80.ko hk85 (allc (.inr (by omega)) (allc (.inr (by omega)) (allc (.inl (by omega)) all0)))
                        have LG_85 := LG_80.ko hk85 (allc (.inr (by omega)) (allc (.inl (by omega)) (allc (.inl (by omega)) all0)))
                        have LQ_85 := LQ_80.ko hk85 (allc (.inr (by omega)) (allc (.inl (by omega)) (allc (.inl (by omega)) all0)))
                        have LY70_85 := LY70_80.ko hk85 (allc d1_m169 (allc (.inl (by omega)) (allc (.inl (by omega)) all0)))
                        have LZ72_85 := LZ72_80.ko hk85 (allc d0_m169 (allc (.inl (by omega)) (allc (.inl (by omega)) all0)))
                        have hs14_85 := hs14_80.ko hk85 (allc (.inr (by omega)) (allc (.inl (by omega)) (allc (.inl (by omega)) all0)))
                        have LV74_85 := LV74_80.ko hk85 (allc (.inl (by omega)) (allc (.inl (by omega)) (allc (.inl (by omega)) all0)))
                        have LU74_85 := LU74_80.ko hk85 (allc (.inl (by omega)) (allc (.inl (by omega)) (allc (.inl (by omega)) all0)))
                        have LK76_85 := LK76_80.ko hk85 (allc (.inl (by omega)) (allc (.inl (by omega)) (allc (.inl (by omega)) all0)))
                        have LK78_85 := LK78_80.ko hk85 (allc (.inl (by omega)) (allc (.inl (by omega)) (allc (.inl (by omega)) all0)))
                        have LC80_85 := LC80_80.ko hk85 (allc (.inl (by omega)) (allc (.inl (by omega)) (allc (.inl (by omega)) all0)))
                        exfalso
                        have h0 := hL0 (List.length_eq_zero_iff.1 (by omega))
                        have h1 : L.length = 2 := by rw [h0]; rfl
                        have h2 : L.getD (Int.toNat 0) 0 = 0 := by rw [h0]; rfl
                        omega
                      · intro h54
                        try simp only [Bool.not_eq_true', Bool.not_eq_false', decide_eq_true_eq, decide_eq_false_iff_not] at h54
                        refine load_intL LC80_80 (by omega) fun m187 m188 hm16 => ?_
                        refine ⟨(by first | omega | (simp only; omega)), ?_⟩
                        intro w86 hb86 hk86
                        have y86 := hb86.size
                        have z86 := hk86.size; have o86 := hk86.own
                        simp only [List.mem_cons, List.not_mem_nil, or_false, forall_eq_or_imp, forall_eq] at o86
                        have LP_86 := LP_80.ko hk86 (allc (.inr (by omega)) (allc (.inr (by omega)) (allc (.inl (by omega)) all0)))
                        have LF_86 := LF_80.ko hk86 (allc (.inr (by omega)) (allc (.inr (by omega)) (allc (.inl (by omega)) all0)))
                        have LG_86 := LG_80.ko hk86 (allc (.inr (by omega)) (allc (.inl (by omega)) (allc (.inl (by omega)) all0)))
                        have LQ_86 := LQ_80.ko hk86 (allc (.inr (by omega)) (allc (.inl (by omega)) (allc (.inl (by omega)) all0)))
                        have LY70_86 := LY70_80.ko hk86 (allc d1_m169 (allc (.inl (by omega)) (allc (.inl (by omega)) all0)))
                        have LZ72_86 := LZ72_80.ko hk86 (allc d0_m169 (allc (.inl (by omega)) (allc (.inl (by omega)) all0)))
                        have hs14_86 := hs14_80.ko hk86 (allc (.inr (by omega)) (allc (.inl (by omega)) (allc (.inl (by omega)) all0)))
                        have LV74_86 := LV74_80.ko hk86 (allc (.inl (by omega)) (allc (.inl (by omega)) (allc (.inl (by omega)) all0)))
                        have LU74_86 := LU74_80.ko hk86 (allc (.inl (by omega)) (allc (.inl (by omega)) (allc (.inl (by omega)) all0)))
                        have LK76_86 := LK76_80.ko hk86 (allc (.inl (by omega)) (allc (.inl (by omega)) (allc (.inl (by omega)) all0)))
                        have LK78_86 := LK78_80.ko hk86 (allc (.inl (by omega)) (allc (.inl (by omega)) (allc (.inl (by omega)) all0)))
                        have LC80_86 := LC80_80.ko hk86 (allc (.inl (by omega)) (allc (.inl (by omega)) (allc (.inl (by omega)) all0)))
                        exact ⟨by rw [hL0 (List.length_eq_zero_iff.1 (by omega))]; rfl, by omega, LQ_86, ⟨⟨LP_86, LF_86, LG_86⟩, by omega⟩⟩
                  · intro h55 w87 hb87 hk87
                    try simp only [Bool.not_eq_true', Bool.not_eq_false', decide_eq_true_eq, decide_eq_false_iff_not] at h55
                    have y87 := hb87.size
                    have z87 := hk87.size; have o87 := hk87.own
                    simp only [List.mem_cons, List.not_mem_nil, or_false, forall_eq_or_imp, forall_eq] at o87
                    have LP_87 := LP_80.ko hk87 (allc (.inr (by omega)) (allc (.inr (by omega)) (allc (.inl (by omega)) all0)))
                    have LF_87 := LF_80.ko hk87 (allc (.inr (by omega)) (allc (.inr (by omega)) (allc (.inl (by omega)) all0)))
                    have LG_87 := LG_80.ko hk87 (allc (.inr (by omega)) (allc (.inl (by omega)) (allc (.inl (by omega)) all0)))
                    have LQ_87 := LQ_80.ko hk87 (allc (.inr (by omega)) (allc (.inl (by omega)) (allc (.inl (by omega)) all0)))
                    have LY70_87 := LY70_80.ko hk87 (allc d1_m169 (allc (.inl (by omega)) (allc (.inl (by omega)) all0)))
                    have LZ72_87 := LZ72_80.ko hk87 (allc d0_m169 (allc (.inl (by omega)) (allc (.inl (by omega)) all0)))
                    have hs14_87 := hs14_80.ko hk87 (allc (.inr (by omega)) (allc (.inl (by omega)) (allc (.inl (by omega)) all0)))
                    have LV74_87 := LV74_80.ko hk87 (allc (.inl (by omega)) (allc (.inl (by omega)) (allc (.inl (by omega)) all0)))
                    have LU74_87 := LU74_80.ko hk87 (allc (.inl (by omega)) (allc (.inl (by omega)) (allc (.inl (by omega)) all0)))
                    have LK76_87 := LK76_80.ko hk87 (allc (.inl (by omega)) (allc (.inl (by omega)) (allc (.inl (by omega)) all0)))
                    have LK78_87 := LK78_80.ko hk87 (allc (.inl (by omega)) (allc (.inl (by omega)) (allc (.inl (by omega)) all0)))
                    have LC80_87 := LC80_80.ko hk87 (allc (.inl (by omega)) (allc (.inl (by omega)) (allc (.inl (by omega)) all0)))
                    exact ⟨rfl, by omega, LQ_87, ⟨⟨LP_87, LF_87, LG_87⟩, by omega⟩⟩
            rintro t11 w88 hb88 ⟨rfl, zW, LQ, ⟨⟨LP, LF, LG⟩, zH⟩⟩
            have y88 := hb88.size
            refine ⟨?_, ?_⟩
            · intro h56 w89 hb89 hk89
              try simp only [Bool.not_eq_true', Bool.not_eq_false', decide_eq_true_eq, decide_eq_false_iff_not] at h56
              have y89 := hb89.size
              have z89 := hk89.size; have o89 := hk89.own
              simp only [List.mem_cons, List.not_mem_nil, or_false, forall_eq_or_imp, forall_eq] at o89
              have LP_89 := LP.ko hk89 (allc (.inr (by omega)) (allc (.inr (by omega)) (allc (.inl (by omega)) all0)))
              have LF_89 := LF.ko hk89 (allc (.inr (by omega)) (allc (.inr (by omega)) (allc (.inl (by omega)) all0)))
              have LG_89 := LG.ko hk89 (allc (.inr (by omega)) (allc (.inl (by omega)) (allc (.inl (by omega)) all0)))
              have LQ_89 := LQ.ko hk89 (allc (.inr (by omega)) (allc (.inl (by omega)) (allc (.inl (by omega)) all0)))
              exact ⟨by first | rfl | contradiction | (exfalso; omega) | simp_all, hb89⟩
            · intro h57
              try simp only [] at h57
              refine ⟨(by first | omega | (simp only; omega)), ?_⟩
              intro w90 hb90 hk90
              have y90 := hb90.size
              have z90 := hk90.size; have o90 := hk90.own
              simp only [List.mem_cons, List.not_mem_nil, or_false, forall_eq_or_imp, forall_eq] at o90
              have LP_90 := LP.ko hk90 (allc (.inr (by omega)) (allc (.inr (by omega)) (allc (.inl (by omega)) all0)))
              have LF_90 := LF.ko hk90 (allc (.inr (by omega)) (allc (.inr (by omega)) (allc (.inl (by omega)) all0)))
              have LG_90 := LG.ko hk90 (allc (.inr (by omega)) (allc (.inl (by omega)) (allc (.inl (by omega)) all0)))
              have LQ_90 := LQ.ko hk90 (allc (.inr (by omega)) (allc (.inl (by omega)) (allc (.inl (by omega)) all0)))
              refine ⟨?_, (by first | omega | (simp only; omega))⟩
              exact ⟨⟨by omega, by omega⟩, by omega, LQ_90, ⟨⟨LP_90, LF_90, LG_90⟩, by omega⟩⟩
          · intro h58 w91 hb91 hk91
            try simp only [Bool.not_eq_true', Bool.not_eq_false', decide_eq_true_eq, decide_eq_false_iff_not] at h58
            have y91 := hb91.size
            have z91 := hk91.size; have o91 := hk91.own
            simp only [List.mem_cons, List.not_mem_nil, or_false, forall_eq_or_imp, forall_eq] at o91
            have LP_91 := LP.ko hk91 (allc (.inr (by omega)) (allc (.inl (by omega)) all0))
            have LF_91 := LF.ko hk91 (allc (.inr (by omega)) (allc (.inl (by omega)) all0))
            have LG_91 := LG.ko hk91 (allc (.inl (by omega)) (allc (.inl (by omega)) all0))
            have LQ_91 := LQ.ko hk91 (allc (.inl (by omega)) (allc (.inl (by omega)) all0))
            refine Pure.calls (known_any) fun w92 hd92 => ?_
            have hb92 := hb91.trans (hd92.mono hb91.size)
            have z92 := hd92.size
            have LP_92 := LP_91.below hd92
            have LF_92 := LF_91.below hd92
            have LG_92 := LG_91.below hd92
            have LQ_92 := LQ_91.below hd92
            refine ⟨_, rfl, .all hd92, ?_⟩
            intro w93 hb93 hk93
            have y93 := hb93.size
            have z93 := hk93.size; have o93 := hk93.own
            simp only [List.mem_cons, List.not_mem_nil, or_false, forall_eq_or_imp, forall_eq] at o93
            have LP_93 := LP_92.ko hk93 (allc (.inr (by omega)) (allc (.inl (by omega)) all0))
            have LF_93 := LF_92.ko hk93 (allc (.inr (by omega)) (allc (.inl (by omega)) all0))
            have LG_93 := LG_92.ko hk93 (allc (.inl (by omega)) (allc (.inl (by omega)) all0))
            have LQ_93 := LQ_92.ko hk93 (allc (.inl (by omega)) (allc (.inl (by omega)) all0))
            exact ⟨by first | rfl | contradiction | (exfalso; omega) | simp_all, hb93⟩
end Go.Proofs.R12
end
