/- Part 7: own lemmas, and the conditions of the functions. -/
import Derived.Test.YtjljemboankbeaaProg
import Derived.DeepKeys
import Derived.Test.YtjljemboankbeaaP06
section
/- The conditions of the functions, printed by program; each is what the generator reckons (kernel_rfl). -/
namespace Go.Proofs
open Go.Vc
set_option maxRecDepth 100000 in
set_option maxHeartbeats 2000000 in
theorem vc34 (f0 : Int) (f1 : Int) (f2 : Int) (f3 : Int) (f4 : Int) (f5 : Int) (holesa : Option Addr) (holesn : Nat) (holesc : Nat) (shaftsa : Option Addr) (shaftsn : Nat) (shaftsc
    : Nat) (w : World) (R : Ending → World → Prop) (h : ∀ (m1 : Nat), w.heap.size ≤ m1 → ∃ (F1 : List Lf → World → Prop), ((∀ (w2 : World), RowKit.Below w.heap.size w w2 → KeptIn
    [(0, w.heap.size)] [m1] w w2 → RunsTo Try.prog (Instr.makeSlice 135 (Value.int IntKind.i64 (↑shaftsn : Int)) (Value.int IntKind.i64 (↑shaftsn : Int))) w2 fun (v1 : Value) (w3 :
    World) => ∃ (a1 : Option Addr), ∃ (m2 : Nat), ∃ (m3 : Nat), v1 = Value.slice a1 m2 m3 ∧ RowKit.Below w2.heap.size w2 w3 ∧ ∀ (w4 : World), RowKit.Below w.heap.size w w4 → KeptIn
    [(0, w.heap.size), (w2.heap.size, w3.heap.size)] [m1] w3 w4 → RunsTo Try.prog (Instr.makeSlice 135 (Value.int IntKind.i64 (↑holesn : Int)) (Value.int IntKind.i64 (↑holesn :
    Int))) w4 fun (v2 : Value) (w5 : World) => ∃ (a2 : Option Addr), ∃ (m4 : Nat), ∃ (m5 : Nat), v2 = Value.slice a2 m4 m5 ∧ RowKit.Below w4.heap.size w4 w5 ∧ ∀ (m6 : Nat),
    w.heap.size ≤ m6 → m6 < w4.heap.size ∨ w5.heap.size ≤ m6 → m6 < w2.heap.size ∨ w3.heap.size ≤ m6 → ∀ (w6 : World), RowKit.Below w.heap.size w w6 → Kept [m6, m1] w5 w6 →
    w6.heap[m6]? = some (Obj.cells #[] 3) → w6.heap[m6]? = some (Obj.cells #[] 3) → F1 [Lf.sl (some { block := m6, off := 0 }) 0 0, Lf.sl a1 m2 m3, Lf.sl a2 m4 m5] w6) ∧ ∀ (w7 :
    World), RowKit.Below w.heap.size w w7 → KeptIn [(0, w.heap.size)] [m1] w w7 → RunsTo Try.prog (Instr.makeSlice 135 (Value.int IntKind.i64 (↑holesn : Int)) (Value.int
    IntKind.i64 (↑holesn : Int))) w7 fun (v3 : Value) (w8 : World) => ∃ (a3 : Option Addr), ∃ (m9 : Nat), ∃ (m10 : Nat), v3 = Value.slice a3 m9 m10 ∧ RowKit.Below w7.heap.size w7
    w8 ∧ ∀ (w9 : World), RowKit.Below w.heap.size w w9 → KeptIn [(0, w.heap.size), (w7.heap.size, w8.heap.size)] [m1] w8 w9 → RunsTo Try.prog (Instr.makeSlice 135 (Value.int
    IntKind.i64 (↑shaftsn : Int)) (Value.int IntKind.i64 (↑shaftsn : Int))) w9 fun (v4 : Value) (w10 : World) => ∃ (a4 : Option Addr), ∃ (m11 : Nat), ∃ (m12 : Nat), v4 =
    Value.slice a4 m11 m12 ∧ RowKit.Below w9.heap.size w9 w10 ∧ ∀ (m13 : Nat), w.heap.size ≤ m13 → m13 < w9.heap.size ∨ w10.heap.size ≤ m13 → m13 < w7.heap.size ∨ w8.heap.size ≤
    m13 → ∀ (w11 : World), RowKit.Below w.heap.size w w11 → Kept [m13, m1] w10 w11 → w11.heap[m13]? = some (Obj.cells #[] 3) → w11.heap[m13]? = some (Obj.cells #[] 3) → F1 [Lf.sl
    (some { block := m13, off := 0 }) 0 0, Lf.sl a4 m11 m12, Lf.sl a3 m9 m10] w11) ∧ ∀ (a5 : Option Addr) (m16 m17 : Nat) (a6 : Option Addr) (m18 m19 : Nat) (a7 : Option Addr) (m20
    m21 : Nat) (w12 : World), RowKit.Below w.heap.size w w12 → F1 [Lf.sl a5 m16 m17, Lf.sl a6 m18 m19, Lf.sl a7 m20 m21] w12 → ∃ (F2 : List Lf → World → Prop), ∃ (F3 : List Lf →
    Nat), (∀ (w14 : World), RowKit.Below w.heap.size w w14 → Kept [m1] w12 w14 → F2 [Lf.sl a5 m16 m17, Lf.int IntKind.i64 0] w14) ∧ ∀ (a8 : Option Addr) (m22 m23 : Nat) (x1 : Int)
    (w15 : World), RowKit.Below w.heap.size w w15 → F2 [Lf.sl a8 m22 m23, Lf.int IntKind.i64 x1] w15 → (x1 < (↑shaftsn : Int) → ∀ (m24 : Nat), w15.heap.size ≤ m24 → ∀ (w16 :
    World), RowKit.Below w.heap.size w w16 → Kept [m24, m1] w15 w16 → w16.heap[m24]? = some (Obj.cells #[Value.int IntKind.i64 (-1)] 3) → RunsTo Try.prog (Builtin.append_ #[38, 38]
    38 #[Value.slice a8 m22 m23, Value.slice (some { block := m24, off := 0 }) 1 1]) w16 fun (v5 : Value) (w17 : World) => ∃ (a9 : Option Addr), ∃ (m26 : Nat), ∃ (m27 : Nat), v5 =
    Value.slice a9 m26 m27 ∧ KeepX true w.heap.size [m24, m1] (fun _ => False) w16 w17 ∧ (-9223372036854775808 ≤ x1 + 1 ∧ x1 + (1 : Int) ≤ 9223372036854775807) ∧ ∀ (w18 : World),
    RowKit.Below w.heap.size w w18 → Kept [m24, m1] w17 w18 → F2 [Lf.sl a9 m26 m27, Lf.int IntKind.i64 (x1 + 1)] w18 ∧ F3 [Lf.sl a9 m26 m27, Lf.int IntKind.i64 (x1 + 1)] < F3
    [Lf.sl a8 m22 m23, Lf.int IntKind.i64 x1]) ∧ ((↑shaftsn : Int) ≤ x1 → ∃ (F4 : List Lf → World → Prop), ∃ (F5 : List Lf → Nat), (∀ (w20 : World), RowKit.Below w.heap.size w w20
    → Kept [m1] w15 w20 → F4 [Lf.int IntKind.i64 0] w20) ∧ ∀ (x2 : Int) (w21 : World), RowKit.Below w.heap.size w w21 → F4 [Lf.int IntKind.i64 x2] w21 → (x2 < (↑holesn : Int) → ∃
    (m29 : Nat), ∃ (m30 : Nat), a7 = some { block := m29, off := m30 } ∧ (0 ≤ x2 ∧ x2 < (↑m20 : Int)) ∧ ∀ (w22 : World), RowKit.Below w.heap.size w w22 → Kept [m1] w21 w22 → RunsTo
    Try.prog ((Instr.storeAt 4 (Value.pointer (some { block := m29, off := m30 + x2.toNat * 1 })) (Value.bool true)) >>= fun _ => pure (Value.tuple #[])) w22 fun (v6 : Value) (w23
    : World) => KeepX true w.heap.size [m1] (fun _ => False) w22 w23 ∧ (-9223372036854775808 ≤ x2 + 1 ∧ x2 + (1 : Int) ≤ 9223372036854775807) ∧ ∀ (w24 : World), RowKit.Below
    w.heap.size w w24 → Kept [m1] w23 w24 → F4 [Lf.int IntKind.i64 (x2 + 1)] w24 ∧ F5 [Lf.int IntKind.i64 (x2 + 1)] < F5 [Lf.int IntKind.i64 x2]) ∧ ((↑holesn : Int) ≤ x2 → ∃ (F6 :
    List Lf → World → Prop), ∃ (F7 : List Lf → Nat), (∀ (w26 : World), RowKit.Below w.heap.size w w26 → Kept [m1] w21 w26 → F6 [Lf.int IntKind.i64 0] w26) ∧ ∀ (x3 : Int) (w27 :
    World), RowKit.Below w.heap.size w w27 → F6 [Lf.int IntKind.i64 x3] w27 → (x3 < (↑shaftsn : Int) → ∃ (F8 : List Lf → World → Prop), ∃ (F9 : List Lf → Nat), (∀ (w29 : World),
    RowKit.Below w.heap.size w w29 → Kept [m1] w27 w29 → F8 [Lf.int IntKind.i64 (-1), Lf.int IntKind.i64 0] w29) ∧ ∀ (x4 x5 : Int) (w30 : World), RowKit.Below w.heap.size w w30 →
    F8 [Lf.int IntKind.i64 x4, Lf.int IntKind.i64 x5] w30 → (x5 < (↑shaftsn : Int) → ∃ (m32 : Nat), ∃ (m33 : Nat), a6 = some { block := m32, off := m33 } ∧ (0 ≤ x5 ∧ x5 < (↑m18 :
    Int)) ∧ ∃ (t1 : Bool), w30.cell? { block := m32, off := m33 + x5.toNat * 1 } = some (Value.bool t1) ∧ (m32 < w.heap.size ∨ m32 ≠ m1) ∧ ((!t1) = true → (x4 < 0 →
    (-9223372036854775808 ≤ x5 + 1 ∧ x5 + (1 : Int) ≤ 9223372036854775807) ∧ ∀ (w31 : World), RowKit.Below w.heap.size w w31 → Kept [m1] w30 w31 → F8 [Lf.int IntKind.i64 x5, Lf.int
    IntKind.i64 (x5 + 1)] w31 ∧ F9 [Lf.int IntKind.i64 x5, Lf.int IntKind.i64 (x5 + 1)] < F9 [Lf.int IntKind.i64 x4, Lf.int IntKind.i64 x5]) ∧ (0 ≤ x4 → ∃ (m34 : Nat), ∃ (m35 :
    Nat), shaftsa = some { block := m34, off := m35 } ∧ (0 ≤ x5 ∧ x5 < (↑shaftsn : Int)) ∧ ∃ (x6 : Int), w30.cell? { block := m34, off := m35 + x5.toNat * 1 } = some (Value.int
    IntKind.i64 x6) ∧ (m34 < w.heap.size ∨ m34 ≠ m1) ∧ ∃ (m36 : Nat), ∃ (m37 : Nat), shaftsa = some { block := m36, off := m37 } ∧ (0 ≤ x4 ∧ x4 < (↑shaftsn : Int)) ∧ ∃ (x7 : Int),
    w30.cell? { block := m36, off := m37 + x4.toNat * 1 } = some (Value.int IntKind.i64 x7) ∧ (m36 < w.heap.size ∨ m36 ≠ m1) ∧ (x6 < x7 → (-9223372036854775808 ≤ x5 + 1 ∧ x5 + (1 :
    Int) ≤ 9223372036854775807) ∧ ∀ (w32 : World), RowKit.Below w.heap.size w w32 → Kept [m1] w30 w32 → F8 [Lf.int IntKind.i64 x5, Lf.int IntKind.i64 (x5 + 1)] w32 ∧ F9 [Lf.int
    IntKind.i64 x5, Lf.int IntKind.i64 (x5 + 1)] < F9 [Lf.int IntKind.i64 x4, Lf.int IntKind.i64 x5]) ∧ (x7 ≤ x6 → (-9223372036854775808 ≤ x5 + 1 ∧ x5 + (1 : Int) ≤
    9223372036854775807) ∧ ∀ (w33 : World), RowKit.Below w.heap.size w w33 → Kept [m1] w30 w33 → F8 [Lf.int IntKind.i64 x4, Lf.int IntKind.i64 (x5 + 1)] w33 ∧ F9 [Lf.int
    IntKind.i64 x4, Lf.int IntKind.i64 (x5 + 1)] < F9 [Lf.int IntKind.i64 x4, Lf.int IntKind.i64 x5]))) ∧ ((!t1) = false → (-9223372036854775808 ≤ x5 + 1 ∧ x5 + (1 : Int) ≤
    9223372036854775807) ∧ ∀ (w34 : World), RowKit.Below w.heap.size w w34 → Kept [m1] w30 w34 → F8 [Lf.int IntKind.i64 x4, Lf.int IntKind.i64 (x5 + 1)] w34 ∧ F9 [Lf.int
    IntKind.i64 x4, Lf.int IntKind.i64 (x5 + 1)] < F9 [Lf.int IntKind.i64 x4, Lf.int IntKind.i64 x5])) ∧ ((↑shaftsn : Int) ≤ x5 → ∃ (m38 : Nat), ∃ (m39 : Nat), a6 = some
    { block := m38, off := m39 } ∧ (0 ≤ x4 ∧ x4 < (↑m18 : Int)) ∧ ∀ (w35 : World), RowKit.Below w.heap.size w w35 → Kept [m1] w30 w35 → RunsTo Try.prog ((Instr.storeAt 4
    (Value.pointer (some { block := m38, off := m39 + x4.toNat * 1 })) (Value.bool true)) >>= fun _ => pure (Value.tuple #[])) w35 fun (v7 : Value) (w36 : World) => KeepX true
    w.heap.size [m1] (fun _ => False) w35 w36 ∧ ∃ (F10 : List Lf → World → Prop), ∃ (F11 : List Lf → Nat), (∀ (w38 : World), RowKit.Below w.heap.size w w38 → Kept [m1] w36 w38 →
    F10 [Lf.int IntKind.i64 0] w38) ∧ ∀ (x8 : Int) (w39 : World), RowKit.Below w.heap.size w w39 → F10 [Lf.int IntKind.i64 x8] w39 → (x8 < (↑holesn : Int) → ∃ (m41 : Nat), ∃ (m42 :
    Nat), a7 = some { block := m41, off := m42 } ∧ (0 ≤ x8 ∧ x8 < (↑m20 : Int)) ∧ ∃ (t2 : Bool), w39.cell? { block := m41, off := m42 + x8.toNat * 1 } = some (Value.bool t2) ∧ (m41
    < w.heap.size ∨ m41 ≠ m1) ∧ (t2 = true → ∃ (m43 : Nat), ∃ (m44 : Nat), holesa = some { block := m43, off := m44 } ∧ (0 ≤ x8 ∧ x8 < (↑holesn : Int)) ∧ ∃ (x9 : Int), w39.cell?
    { block := m43, off := m44 + x8.toNat * 1 } = some (Value.int IntKind.i64 x9) ∧ (m43 < w.heap.size ∨ m43 ≠ m1) ∧ ∃ (m45 : Nat), ∃ (m46 : Nat), shaftsa = some
    { block := m45, off := m46 } ∧ (0 ≤ x4 ∧ x4 < (↑shaftsn : Int)) ∧ ∃ (x10 : Int), w39.cell? { block := m45, off := m46 + x4.toNat * 1 } = some (Value.int IntKind.i64 x10) ∧ (m45
    < w.heap.size ∨ m45 ≠ m1) ∧ ∀ (w40 : World), RowKit.Below w.heap.size w w40 → KeptIn [(0, w39.heap.size)] [m1] w39 w40 → Calls Try.prog 66 #[Value.agg #[Value.int IntKind.i64
    f0, Value.int IntKind.i64 f1, Value.int IntKind.i64 f2, Value.int IntKind.i64 f3, Value.int IntKind.i64 f4, Value.int IntKind.i64 f5], Value.int IntKind.i64 x9, Value.int
    IntKind.i64 x10] w40 fun (e1 : Ending) (w41 : World) => ∃ (t3 : Bool), e1 = Ending.returned (Value.bool t3) ∧ KeepX true w.heap.size [m1] (fun _ => False) w40 w41 ∧ (t3 = true
    → ∃ (m48 : Nat), ∃ (m49 : Nat), a8 = some { block := m48, off := m49 } ∧ (0 ≤ x4 ∧ x4 < (↑m22 : Int)) ∧ ∃ (x11 : Int), w41.cell? { block := m48, off := m49 + x4.toNat * 1 } =
    some (Value.int IntKind.i64 x11) ∧ (m48 < w.heap.size ∨ m48 ≠ m1) ∧ (x11 < 0 → ∃ (m50 : Nat), ∃ (m51 : Nat), a8 = some { block := m50, off := m51 } ∧ (0 ≤ x4 ∧ x4 < (↑m22 :
    Int)) ∧ ∀ (w42 : World), RowKit.Below w.heap.size w w42 → Kept [m1] w41 w42 → RunsTo Try.prog ((Instr.storeAt 3 (Value.pointer (some
    { block := m50, off := m51 + x4.toNat * 1 })) (Value.int IntKind.i64 x8)) >>= fun _ => pure (Value.tuple #[])) w42 fun (v8 : Value) (w43 : World) => KeepX true w.heap.size [m1]
    (fun _ => False) w42 w43 ∧ (-9223372036854775808 ≤ x8 + 1 ∧ x8 + (1 : Int) ≤ 9223372036854775807) ∧ ∀ (w44 : World), RowKit.Below w.heap.size w w44 → Kept [m1] w43 w44 → F10
    [Lf.int IntKind.i64 (x8 + 1)] w44 ∧ F11 [Lf.int IntKind.i64 (x8 + 1)] < F11 [Lf.int IntKind.i64 x8]) ∧ (0 ≤ x11 → ∃ (m53 : Nat), ∃ (m54 : Nat), holesa = some
    { block := m53, off := m54 } ∧ (0 ≤ x8 ∧ x8 < (↑holesn : Int)) ∧ ∃ (x12 : Int), w41.cell? { block := m53, off := m54 + x8.toNat * 1 } = some (Value.int IntKind.i64 x12) ∧ (m53
    < w.heap.size ∨ m53 ≠ m1) ∧ ∃ (m55 : Nat), ∃ (m56 : Nat), a8 = some { block := m55, off := m56 } ∧ (0 ≤ x4 ∧ x4 < (↑m22 : Int)) ∧ ∃ (x13 : Int), w41.cell?
    { block := m55, off := m56 + x4.toNat * 1 } = some (Value.int IntKind.i64 x13) ∧ (m55 < w.heap.size ∨ m55 ≠ m1) ∧ ∃ (m57 : Nat), ∃ (m58 : Nat), holesa = some
    { block := m57, off := m58 } ∧ (0 ≤ x13 ∧ x13 < (↑holesn : Int)) ∧ ∃ (x14 : Int), w41.cell? { block := m57, off := m58 + x13.toNat * 1 } = some (Value.int IntKind.i64 x14) ∧
    (m57 < w.heap.size ∨ m57 ≠ m1) ∧ (x12 < x14 → ∃ (m59 : Nat), ∃ (m60 : Nat), a8 = some { block := m59, off := m60 } ∧ (0 ≤ x4 ∧ x4 < (↑m22 : Int)) ∧ ∀ (w45 : World),
    RowKit.Below w.heap.size w w45 → Kept [m1] w41 w45 → RunsTo Try.prog ((Instr.storeAt 3 (Value.pointer (some { block := m59, off := m60 + x4.toNat * 1 })) (Value.int IntKind.i64
    x8)) >>= fun _ => pure (Value.tuple #[])) w45 fun (v9 : Value) (w46 : World) => KeepX true w.heap.size [m1] (fun _ => False) w45 w46 ∧ (-9223372036854775808 ≤ x8 + 1 ∧ x8 + (1
    : Int) ≤ 9223372036854775807) ∧ ∀ (w47 : World), RowKit.Below w.heap.size w w47 → Kept [m1] w46 w47 → F10 [Lf.int IntKind.i64 (x8 + 1)] w47 ∧ F11 [Lf.int IntKind.i64 (x8 + 1)]
    < F11 [Lf.int IntKind.i64 x8]) ∧ (x14 ≤ x12 → (-9223372036854775808 ≤ x8 + 1 ∧ x8 + (1 : Int) ≤ 9223372036854775807) ∧ ∀ (w48 : World), RowKit.Below w.heap.size w w48 → Kept
    [m1] w41 w48 → F10 [Lf.int IntKind.i64 (x8 + 1)] w48 ∧ F11 [Lf.int IntKind.i64 (x8 + 1)] < F11 [Lf.int IntKind.i64 x8]))) ∧ (t3 = false → (-9223372036854775808 ≤ x8 + 1 ∧ x8 +
    (1 : Int) ≤ 9223372036854775807) ∧ ∀ (w49 : World), RowKit.Below w.heap.size w w49 → Kept [m1] w41 w49 → F10 [Lf.int IntKind.i64 (x8 + 1)] w49 ∧ F11 [Lf.int IntKind.i64 (x8 +
    1)] < F11 [Lf.int IntKind.i64 x8])) ∧ (t2 = false → (-9223372036854775808 ≤ x8 + 1 ∧ x8 + (1 : Int) ≤ 9223372036854775807) ∧ ∀ (w50 : World), RowKit.Below w.heap.size w w50 →
    Kept [m1] w39 w50 → F10 [Lf.int IntKind.i64 (x8 + 1)] w50 ∧ F11 [Lf.int IntKind.i64 (x8 + 1)] < F11 [Lf.int IntKind.i64 x8])) ∧ ((↑holesn : Int) ≤ x8 → ∃ (m62 : Nat), ∃ (m63 :
    Nat), a8 = some { block := m62, off := m63 } ∧ (0 ≤ x4 ∧ x4 < (↑m22 : Int)) ∧ ∃ (x15 : Int), w39.cell? { block := m62, off := m63 + x4.toNat * 1 } = some (Value.int IntKind.i64
    x15) ∧ (m62 < w.heap.size ∨ m62 ≠ m1) ∧ (0 ≤ x15 → ∃ (m64 : Nat), ∃ (m65 : Nat), a8 = some { block := m64, off := m65 } ∧ (0 ≤ x4 ∧ x4 < (↑m22 : Int)) ∧ ∃ (x16 : Int),
    w39.cell? { block := m64, off := m65 + x4.toNat * 1 } = some (Value.int IntKind.i64 x16) ∧ (m64 < w.heap.size ∨ m64 ≠ m1) ∧ ∃ (m66 : Nat), ∃ (m67 : Nat), a7 = some
    { block := m66, off := m67 } ∧ (0 ≤ x16 ∧ x16 < (↑m20 : Int)) ∧ ∀ (w51 : World), RowKit.Below w.heap.size w w51 → Kept [m1] w39 w51 → RunsTo Try.prog ((Instr.storeAt 4
    (Value.pointer (some { block := m66, off := m67 + x16.toNat * 1 })) (Value.bool false)) >>= fun _ => pure (Value.tuple #[])) w51 fun (v10 : Value) (w52 : World) => KeepX true
    w.heap.size [m1] (fun _ => False) w51 w52 ∧ (-9223372036854775808 ≤ x3 + 1 ∧ x3 + (1 : Int) ≤ 9223372036854775807) ∧ ∀ (w53 : World), RowKit.Below w.heap.size w w53 → Kept [m1]
    w52 w53 → F6 [Lf.int IntKind.i64 (x3 + 1)] w53 ∧ F7 [Lf.int IntKind.i64 (x3 + 1)] < F7 [Lf.int IntKind.i64 x3]) ∧ (x15 < 0 → (-9223372036854775808 ≤ x3 + 1 ∧ x3 + (1 : Int) ≤
    9223372036854775807) ∧ ∀ (w54 : World), RowKit.Below w.heap.size w w54 → Kept [m1] w39 w54 → F6 [Lf.int IntKind.i64 (x3 + 1)] w54 ∧ F7 [Lf.int IntKind.i64 (x3 + 1)] < F7
    [Lf.int IntKind.i64 x3])))) ∧ ((↑shaftsn : Int) ≤ x3 → ∀ (w55 : World), RowKit.Below w.heap.size w w55 → Kept [m1] w27 w55 → R (Ending.returned (Value.slice a8 m22 m23))
    w55)))) : Calls Try.prog 34 #[Value.agg #[Value.int IntKind.i64 f0, Value.int IntKind.i64 f1, Value.int IntKind.i64 f2, Value.int IntKind.i64 f3, Value.int IntKind.i64 f4,
    Value.int IntKind.i64 f5], Value.slice holesa holesn holesc, Value.slice shaftsa shaftsn shaftsc] w R := calls_of_vcj (pure := true) (wrapAt := []) (muts := []) (esc := [])
    (joins := [(2000001, [(7, 38), (8, 135), (9, 135)]), (9000000, []), (11000000, [])]) (args := [SV.pv (PV.agg [Lf.int IntKind.i64 f0, Lf.int IntKind.i64 f1, Lf.int IntKind.i64
    f2, Lf.int IntKind.i64 f3, Lf.int IntKind.i64 f4, Lf.int IntKind.i64 f5]), SV.pv (PV.one (Lf.sl holesa holesn holesc)), SV.pv (PV.one (Lf.sl shaftsa shaftsn shaftsc))]) (vs :=
    [Value.agg #[Value.int IntKind.i64 f0, Value.int IntKind.i64 f1, Value.int IntKind.i64 f2, Value.int IntKind.i64 f3, Value.int IntKind.i64 f4, Value.int IntKind.i64 f5],
    Value.slice holesa holesn holesc, Value.slice shaftsa shaftsn shaftsc]) Try.func34 rfl rfl rfl (Eq.mp (by kernel_rfl) h) 
set_option maxRecDepth 100000 in
set_option maxHeartbeats 2000000 in
theorem vc35 (f0 : Int) (f1 : Int) (f2 : Int) (f3 : Int) (f4 : Int) (f5 : Int) (holesa : Option Addr) (holesn : Nat) (holesc : Nat) (shaftsa : Option Addr) (shaftsn : Nat) (shaftsc
    : Nat) (getsa : Option Addr) (getsn : Nat) (getsc : Nat) (w : World) (R : Ending → World → Prop) (h : ∀ (m1 : Nat), w.heap.size ≤ m1 → ∃ (F1 : List Lf → World → Prop), ((∀ (w2
    : World), RowKit.Below w.heap.size w w2 → KeptIn [(0, w.heap.size)] [m1] w w2 → RunsTo Try.prog (Instr.makeSlice 135 (Value.int IntKind.i64 (↑shaftsn : Int)) (Value.int
    IntKind.i64 (↑shaftsn : Int))) w2 fun (v1 : Value) (w3 : World) => ∃ (a1 : Option Addr), ∃ (m2 : Nat), ∃ (m3 : Nat), v1 = Value.slice a1 m2 m3 ∧ KeepX true w.heap.size [m1]
    (fun _ => False) w2 w3 ∧ ∀ (w4 : World), RowKit.Below w.heap.size w w4 → KeptIn [(0, w3.heap.size)] [m1] w3 w4 → RunsTo Try.prog (Instr.makeSlice 135 (Value.int IntKind.i64
    (↑holesn : Int)) (Value.int IntKind.i64 (↑holesn : Int))) w4 fun (v2 : Value) (w5 : World) => ∃ (a2 : Option Addr), ∃ (m5 : Nat), ∃ (m6 : Nat), v2 = Value.slice a2 m5 m6 ∧
    KeepX true w.heap.size [m1] (fun _ => False) w4 w5 ∧ ∀ (w6 : World), RowKit.Below w.heap.size w w6 → Kept [m1] w5 w6 → F1 [Lf.sl a1 m2 m3, Lf.sl a2 m5 m6] w6) ∧ ∀ (w7 : World),
    RowKit.Below w.heap.size w w7 → KeptIn [(0, w.heap.size)] [m1] w w7 → RunsTo Try.prog (Instr.makeSlice 135 (Value.int IntKind.i64 (↑holesn : Int)) (Value.int IntKind.i64
    (↑holesn : Int))) w7 fun (v3 : Value) (w8 : World) => ∃ (a3 : Option Addr), ∃ (m8 : Nat), ∃ (m9 : Nat), v3 = Value.slice a3 m8 m9 ∧ KeepX true w.heap.size [m1] (fun _ => False)
    w7 w8 ∧ ∀ (w9 : World), RowKit.Below w.heap.size w w9 → KeptIn [(0, w8.heap.size)] [m1] w8 w9 → RunsTo Try.prog (Instr.makeSlice 135 (Value.int IntKind.i64 (↑shaftsn : Int))
    (Value.int IntKind.i64 (↑shaftsn : Int))) w9 fun (v4 : Value) (w10 : World) => ∃ (a4 : Option Addr), ∃ (m11 : Nat), ∃ (m12 : Nat), v4 = Value.slice a4 m11 m12 ∧ KeepX true
    w.heap.size [m1] (fun _ => False) w9 w10 ∧ ∀ (w11 : World), RowKit.Below w.heap.size w w11 → Kept [m1] w10 w11 → F1 [Lf.sl a4 m11 m12, Lf.sl a3 m8 m9] w11) ∧ ∀ (a5 : Option
    Addr) (m14 m15 : Nat) (a6 : Option Addr) (m16 m17 : Nat) (w12 : World), RowKit.Below w.heap.size w w12 → F1 [Lf.sl a5 m14 m15, Lf.sl a6 m16 m17] w12 → ∃ (F2 : Nat → List Lf →
    World → Prop), (∀ (w14 : World), RowKit.Below w.heap.size w w14 → Kept [m1] w12 w14 → ∃ (m19 : Nat), F2 m19 [Lf.bool true] w14) ∧ ∀ (m20 : Nat) (t1 : Bool) (w15 : World),
    RowKit.Below w.heap.size w w15 → F2 m20 [Lf.bool t1] w15 → (t1 = true → ∃ (F3 : Nat → List Lf → World → Prop), (∀ (w17 : World), RowKit.Below w.heap.size w w17 → Kept [m1] w15
    w17 → ∃ (m22 : Nat), F3 m22 [Lf.bool false, Lf.int IntKind.i64 0] w17) ∧ ∀ (m23 : Nat) (t2 : Bool) (x1 : Int) (w18 : World), RowKit.Below w.heap.size w w18 → F3 m23 [Lf.bool
    t2, Lf.int IntKind.i64 x1] w18 → (x1 < (↑shaftsn : Int) → ∃ (F4 : List Lf → World → Prop), (∃ (m24 : Nat), ∃ (m25 : Nat), a5 = some { block := m24, off := m25 } ∧ (0 ≤ x1 ∧ x1
    < (↑m14 : Int)) ∧ ∃ (t3 : Bool), w18.cell? { block := m24, off := m25 + x1.toNat * 1 } = some (Value.bool t3) ∧ (m24 < w.heap.size ∨ m24 ≠ m1) ∧ ((!t3) = true → ∃ (m26 : Nat),
    ∃ (m27 : Nat), getsa = some { block := m26, off := m27 } ∧ (0 ≤ x1 ∧ x1 < (↑getsn : Int)) ∧ ∃ (x2 : Int), w18.cell? { block := m26, off := m27 + x1.toNat * 1 } = some
    (Value.int IntKind.i64 x2) ∧ (m26 < w.heap.size ∨ m26 ≠ m1) ∧ (x2 < 0 → ∀ (w20 : World), RowKit.Below w.heap.size w w20 → Kept [m1] w18 w20 → F4 [Lf.bool true] w20) ∧ (0 ≤ x2 →
    ∃ (m28 : Nat), ∃ (m29 : Nat), getsa = some { block := m28, off := m29 } ∧ (0 ≤ x1 ∧ x1 < (↑getsn : Int)) ∧ ∃ (x3 : Int), w18.cell? { block := m28, off := m29 + x1.toNat * 1 } =
    some (Value.int IntKind.i64 x3) ∧ (m28 < w.heap.size ∨ m28 ≠ m1) ∧ ∃ (m30 : Nat), ∃ (m31 : Nat), a6 = some { block := m30, off := m31 } ∧ (0 ≤ x3 ∧ x3 < (↑m16 : Int)) ∧ ∃ (t4 :
    Bool), w18.cell? { block := m30, off := m31 + x3.toNat * 1 } = some (Value.bool t4) ∧ (m30 < w.heap.size ∨ m30 ≠ m1) ∧ ∀ (w21 : World), RowKit.Below w.heap.size w w21 → Kept
    [m1] w18 w21 → F4 [Lf.bool t4] w21)) ∧ ((!t3) = false → ∀ (w22 : World), RowKit.Below w.heap.size w w22 → Kept [m1] w18 w22 → F4 [Lf.bool false] w22)) ∧ ∀ (t5 : Bool) (w23 :
    World), RowKit.Below w.heap.size w w23 → F4 [Lf.bool t5] w23 → ∃ (F5 : List Lf → World → Prop), ((t5 = true → ∃ (m32 : Nat), ∃ (m33 : Nat), a5 = some
    { block := m32, off := m33 } ∧ (0 ≤ x1 ∧ x1 < (↑m14 : Int)) ∧ ∀ (w25 : World), RowKit.Below w.heap.size w w25 → Kept [m1] w23 w25 → RunsTo Try.prog ((Instr.storeAt 4
    (Value.pointer (some { block := m32, off := m33 + x1.toNat * 1 })) (Value.bool true)) >>= fun _ => pure (Value.tuple #[])) w25 fun (v5 : Value) (w26 : World) => KeepX true
    w.heap.size [m1] (fun _ => False) w25 w26 ∧ ∀ (w27 : World), RowKit.Below w.heap.size w w27 → Kept [m1] w26 w27 → F5 [Lf.bool true] w27) ∧ (t5 = false → ∀ (w28 : World),
    RowKit.Below w.heap.size w w28 → Kept [m1] w23 w28 → F5 [Lf.bool t2] w28)) ∧ ∀ (t6 : Bool) (w29 : World), RowKit.Below w.heap.size w w29 → F5 [Lf.bool t6] w29 → ∃ (F6 : Nat →
    List Lf → World → Prop), (∀ (w31 : World), RowKit.Below w.heap.size w w31 → Kept [m1] w29 w31 → ∃ (m36 : Nat), F6 m36 [Lf.bool t6, Lf.int IntKind.i64 0] w31) ∧ ∀ (m37 : Nat)
    (t7 : Bool) (x4 : Int) (w32 : World), RowKit.Below w.heap.size w w32 → F6 m37 [Lf.bool t7, Lf.int IntKind.i64 x4] w32 → (x4 < (↑holesn : Int) → ∃ (m38 : Nat), ∃ (m39 : Nat), a5
    = some { block := m38, off := m39 } ∧ (0 ≤ x1 ∧ x1 < (↑m14 : Int)) ∧ ∃ (t8 : Bool), w32.cell? { block := m38, off := m39 + x1.toNat * 1 } = some (Value.bool t8) ∧ (m38 <
    w.heap.size ∨ m38 ≠ m1) ∧ (t8 = true → ∃ (m40 : Nat), ∃ (m41 : Nat), a6 = some { block := m40, off := m41 } ∧ (0 ≤ x4 ∧ x4 < (↑m16 : Int)) ∧ ∃ (t9 : Bool), w32.cell?
    { block := m40, off := m41 + x4.toNat * 1 } = some (Value.bool t9) ∧ (m40 < w.heap.size ∨ m40 ≠ m1) ∧ ((!t9) = true → ∃ (m42 : Nat), ∃ (m43 : Nat), holesa = some
    { block := m42, off := m43 } ∧ (0 ≤ x4 ∧ x4 < (↑holesn : Int)) ∧ ∃ (x5 : Int), w32.cell? { block := m42, off := m43 + x4.toNat * 1 } = some (Value.int IntKind.i64 x5) ∧ (m42 <
    w.heap.size ∨ m42 ≠ m1) ∧ ∃ (m44 : Nat), ∃ (m45 : Nat), shaftsa = some { block := m44, off := m45 } ∧ (0 ≤ x1 ∧ x1 < (↑shaftsn : Int)) ∧ ∃ (x6 : Int), w32.cell?
    { block := m44, off := m45 + x1.toNat * 1 } = some (Value.int IntKind.i64 x6) ∧ (m44 < w.heap.size ∨ m44 ≠ m1) ∧ ∀ (w33 : World), RowKit.Below w.heap.size w w33 → KeptIn [(0,
    w32.heap.size)] [m1] w32 w33 → Calls Try.prog 66 #[Value.agg #[Value.int IntKind.i64 f0, Value.int IntKind.i64 f1, Value.int IntKind.i64 f2, Value.int IntKind.i64 f3, Value.int
    IntKind.i64 f4, Value.int IntKind.i64 f5], Value.int IntKind.i64 x5, Value.int IntKind.i64 x6] w33 fun (e1 : Ending) (w34 : World) => ∃ (t10 : Bool), e1 = Ending.returned
    (Value.bool t10) ∧ KeepX true w.heap.size [m1] (fun _ => False) w33 w34 ∧ (t10 = true → ∃ (m47 : Nat), ∃ (m48 : Nat), a6 = some { block := m47, off := m48 } ∧ (0 ≤ x4 ∧ x4 <
    (↑m16 : Int)) ∧ ∀ (w35 : World), RowKit.Below w.heap.size w w35 → Kept [m1] w34 w35 → RunsTo Try.prog ((Instr.storeAt 4 (Value.pointer (some
    { block := m47, off := m48 + x4.toNat * 1 })) (Value.bool true)) >>= fun _ => pure (Value.tuple #[])) w35 fun (v6 : Value) (w36 : World) => KeepX true w.heap.size [m1] (fun _
    => False) w35 w36 ∧ (-9223372036854775808 ≤ x4 + 1 ∧ x4 + (1 : Int) ≤ 9223372036854775807) ∧ ∀ (w37 : World), RowKit.Below w.heap.size w w37 → Kept [m1] w36 w37 → ∃ (m50 :
    Nat), m50 < m37 ∧ F6 m50 [Lf.bool true, Lf.int IntKind.i64 (x4 + 1)] w37) ∧ (t10 = false → (-9223372036854775808 ≤ x4 + 1 ∧ x4 + (1 : Int) ≤ 9223372036854775807) ∧ ∀ (w38 :
    World), RowKit.Below w.heap.size w w38 → Kept [m1] w34 w38 → ∃ (m51 : Nat), m51 < m37 ∧ F6 m51 [Lf.bool t7, Lf.int IntKind.i64 (x4 + 1)] w38)) ∧ ((!t9) = false →
    (-9223372036854775808 ≤ x4 + 1 ∧ x4 + (1 : Int) ≤ 9223372036854775807) ∧ ∀ (w39 : World), RowKit.Below w.heap.size w w39 → Kept [m1] w32 w39 → ∃ (m52 : Nat), m52 < m37 ∧ F6 m52
    [Lf.bool t7, Lf.int IntKind.i64 (x4 + 1)] w39)) ∧ (t8 = false → (-9223372036854775808 ≤ x4 + 1 ∧ x4 + (1 : Int) ≤ 9223372036854775807) ∧ ∀ (w40 : World), RowKit.Below
    w.heap.size w w40 → Kept [m1] w32 w40 → ∃ (m53 : Nat), m53 < m37 ∧ F6 m53 [Lf.bool t7, Lf.int IntKind.i64 (x4 + 1)] w40)) ∧ ((↑holesn : Int) ≤ x4 → (-9223372036854775808 ≤ x1 +
    1 ∧ x1 + (1 : Int) ≤ 9223372036854775807) ∧ ∀ (w41 : World), RowKit.Below w.heap.size w w41 → Kept [m1] w32 w41 → ∃ (m54 : Nat), m54 < m23 ∧ F3 m54 [Lf.bool t7, Lf.int
    IntKind.i64 (x1 + 1)] w41)) ∧ ((↑shaftsn : Int) ≤ x1 → ∀ (w42 : World), RowKit.Below w.heap.size w w42 → Kept [m1] w18 w42 → ∃ (m55 : Nat), m55 < m20 ∧ F2 m55 [Lf.bool t2]
    w42)) ∧ (t1 = false → ∀ (w43 : World), RowKit.Below w.heap.size w w43 → Kept [m1] w15 w43 → Calls Try.prog 67 #[Value.slice a5 m14 m15] w43 fun (e2 : Ending) (w44 : World) => ∃
    (a7 : Option Addr), ∃ (m56 : Nat), ∃ (m57 : Nat), e2 = Ending.returned (Value.slice a7 m56 m57) ∧ KeepX true w.heap.size [m1] (fun _ => False) w43 w44 ∧ ∀ (w45 : World),
    RowKit.Below w.heap.size w w45 → Kept [m1] w44 w45 → Calls Try.prog 67 #[Value.slice a6 m16 m17] w45 fun (e3 : Ending) (w46 : World) => ∃ (a8 : Option Addr), ∃ (m59 : Nat), ∃
    (m60 : Nat), e3 = Ending.returned (Value.slice a8 m59 m60) ∧ KeepX true w.heap.size [m1] (fun _ => False) w45 w46 ∧ ∀ (w47 : World), RowKit.Below w.heap.size w w47 → Kept [m1]
    w46 w47 → R (Ending.returned (Value.tuple #[Value.slice a7 m56 m57, Value.slice a8 m59 m60])) w47)) : Calls Try.prog 35 #[Value.agg #[Value.int IntKind.i64 f0, Value.int
    IntKind.i64 f1, Value.int IntKind.i64 f2, Value.int IntKind.i64 f3, Value.int IntKind.i64 f4, Value.int IntKind.i64 f5], Value.slice holesa holesn holesc, Value.slice shaftsa
    shaftsn shaftsc, Value.slice getsa getsn getsc] w R := calls_of_vcj (pure := true) (wrapAt := []) (muts := []) (esc := []) (joins := [(2000001, [(10, 135), (11, 135)]),
    (2000008, [(48, 4)]), (48, [(12, 4)]), (4000000, []), (9000000, []), (11000000, [])]) (args := [SV.pv (PV.agg [Lf.int IntKind.i64 f0, Lf.int IntKind.i64 f1, Lf.int IntKind.i64
    f2, Lf.int IntKind.i64 f3, Lf.int IntKind.i64 f4, Lf.int IntKind.i64 f5]), SV.pv (PV.one (Lf.sl holesa holesn holesc)), SV.pv (PV.one (Lf.sl shaftsa shaftsn shaftsc)), SV.pv
    (PV.one (Lf.sl getsa getsn getsc))]) (vs := [Value.agg #[Value.int IntKind.i64 f0, Value.int IntKind.i64 f1, Value.int IntKind.i64 f2, Value.int IntKind.i64 f3, Value.int
    IntKind.i64 f4, Value.int IntKind.i64 f5], Value.slice holesa holesn holesc, Value.slice shaftsa shaftsn shaftsc, Value.slice getsa getsn getsc]) Try.func35 rfl rfl rfl (Eq.mp
    (by kernel_rfl) h) 
set_option maxRecDepth 100000 in
set_option maxHeartbeats 2000000 in
theorem vc5 (p0w0a : Option Addr) (p0w0n : Nat) (p0w0c : Nat) (p0w1a : Option Addr) (p0w1n : Nat) (p0w1c : Nat) (x0 : Int) (x1a : Option Addr) (x1n : Nat) (x1c : Nat) (x2a : Option
    Addr) (x2n : Nat) (x2c : Nat) (w : World) (R : Ending → World → Prop) (h : ∀ (m1 : Nat), w.heap.size ≤ m1 → ∀ (m2 : Nat), w.heap.size ≤ m2 → ∃ (F1 : List Lf → World → Prop), (∀
    (w2 : World), RowKit.Below w.heap.size w w2 → Kept [m2, m1] w w2 → Calls Try.prog 13 #[Value.agg #[Value.slice p0w0a p0w0n p0w0c, Value.slice p0w1a p0w1n p0w1c]] w2 fun (e1 :
    Ending) (w3 : World) => ∃ (t1 : Bool), e1 = Ending.returned (Value.bool t1) ∧ KeepX true w.heap.size [m2, m1] (fun _ => False) w2 w3 ∧ (t1 = true → ∀ (w4 : World), RowKit.Below
    w.heap.size w w4 → Kept [m2, m1] w3 w4 → F1 [Lf.bool true] w4) ∧ (t1 = false → (60 < (↑x1n : Int) → ((↑x1n : Int) ≤ 200 → ∀ (w5 : World), RowKit.Below w.heap.size w w5 → Kept
    [m2, m1] w3 w5 → w5.heap[m2]? = some (Obj.cells #[Value.int IntKind.i64 x0, Value.slice x1a x1n x1c, Value.slice x2a x2n x2c] 56) → w5.heap[m2]? = some (Obj.cells #[Value.int
    IntKind.i64 x0, Value.slice x1a x1n x1c, Value.slice x2a x2n x2c] 56) → F1 [Lf.bool true] w5) ∧ (200 < (↑x1n : Int) → (60 < (↑x2n : Int) → ((↑x2n : Int) ≤ 200 → ∀ (w6 : World),
    RowKit.Below w.heap.size w w6 → Kept [m2, m1] w3 w6 → w6.heap[m2]? = some (Obj.cells #[Value.int IntKind.i64 x0, Value.slice x1a x1n x1c, Value.slice x2a x2n x2c] 56) →
    w6.heap[m2]? = some (Obj.cells #[Value.int IntKind.i64 x0, Value.slice x1a x1n x1c, Value.slice x2a x2n x2c] 56) → w6.heap[m2]? = some (Obj.cells #[Value.int IntKind.i64 x0,
    Value.slice x1a x1n x1c, Value.slice x2a x2n x2c] 56) → w6.heap[m2]? = some (Obj.cells #[Value.int IntKind.i64 x0, Value.slice x1a x1n x1c, Value.slice x2a x2n x2c] 56) → F1
    [Lf.bool true] w6) ∧ (200 < (↑x2n : Int) → (205 < (↑x1n : Int) → ∀ (w7 : World), RowKit.Below w.heap.size w w7 → Kept [m2, m1] w3 w7 → w7.heap[m2]? = some (Obj.cells
    #[Value.int IntKind.i64 x0, Value.slice x1a x1n x1c, Value.slice x2a x2n x2c] 56) → w7.heap[m2]? = some (Obj.cells #[Value.int IntKind.i64 x0, Value.slice x1a x1n x1c,
    Value.slice x2a x2n x2c] 56) → w7.heap[m2]? = some (Obj.cells #[Value.int IntKind.i64 x0, Value.slice x1a x1n x1c, Value.slice x2a x2n x2c] 56) → w7.heap[m2]? = some (Obj.cells
    #[Value.int IntKind.i64 x0, Value.slice x1a x1n x1c, Value.slice x2a x2n x2c] 56) → w7.heap[m2]? = some (Obj.cells #[Value.int IntKind.i64 x0, Value.slice x1a x1n x1c,
    Value.slice x2a x2n x2c] 56) → F1 [Lf.bool true] w7) ∧ ((↑x1n : Int) ≤ 205 → ∀ (w8 : World), RowKit.Below w.heap.size w w8 → Kept [m2, m1] w3 w8 → w8.heap[m2]? = some
    (Obj.cells #[Value.int IntKind.i64 x0, Value.slice x1a x1n x1c, Value.slice x2a x2n x2c] 56) → w8.heap[m2]? = some (Obj.cells #[Value.int IntKind.i64 x0, Value.slice x1a x1n
    x1c, Value.slice x2a x2n x2c] 56) → w8.heap[m2]? = some (Obj.cells #[Value.int IntKind.i64 x0, Value.slice x1a x1n x1c, Value.slice x2a x2n x2c] 56) → w8.heap[m2]? = some
    (Obj.cells #[Value.int IntKind.i64 x0, Value.slice x1a x1n x1c, Value.slice x2a x2n x2c] 56) → w8.heap[m2]? = some (Obj.cells #[Value.int IntKind.i64 x0, Value.slice x1a x1n
    x1c, Value.slice x2a x2n x2c] 56) → w8.heap[m2]? = some (Obj.cells #[Value.int IntKind.i64 x0, Value.slice x1a x1n x1c, Value.slice x2a x2n x2c] 56) → F1 [Lf.bool (decide (205
    < (↑x2n : Int)))] w8))) ∧ ((↑x2n : Int) ≤ 60 → (205 < (↑x1n : Int) → ∀ (w9 : World), RowKit.Below w.heap.size w w9 → Kept [m2, m1] w3 w9 → w9.heap[m2]? = some (Obj.cells
    #[Value.int IntKind.i64 x0, Value.slice x1a x1n x1c, Value.slice x2a x2n x2c] 56) → w9.heap[m2]? = some (Obj.cells #[Value.int IntKind.i64 x0, Value.slice x1a x1n x1c,
    Value.slice x2a x2n x2c] 56) → w9.heap[m2]? = some (Obj.cells #[Value.int IntKind.i64 x0, Value.slice x1a x1n x1c, Value.slice x2a x2n x2c] 56) → w9.heap[m2]? = some (Obj.cells
    #[Value.int IntKind.i64 x0, Value.slice x1a x1n x1c, Value.slice x2a x2n x2c] 56) → F1 [Lf.bool true] w9) ∧ ((↑x1n : Int) ≤ 205 → ∀ (w10 : World), RowKit.Below w.heap.size w
    w10 → Kept [m2, m1] w3 w10 → w10.heap[m2]? = some (Obj.cells #[Value.int IntKind.i64 x0, Value.slice x1a x1n x1c, Value.slice x2a x2n x2c] 56) → w10.heap[m2]? = some (Obj.cells
    #[Value.int IntKind.i64 x0, Value.slice x1a x1n x1c, Value.slice x2a x2n x2c] 56) → w10.heap[m2]? = some (Obj.cells #[Value.int IntKind.i64 x0, Value.slice x1a x1n x1c,
    Value.slice x2a x2n x2c] 56) → w10.heap[m2]? = some (Obj.cells #[Value.int IntKind.i64 x0, Value.slice x1a x1n x1c, Value.slice x2a x2n x2c] 56) → w10.heap[m2]? = some
    (Obj.cells #[Value.int IntKind.i64 x0, Value.slice x1a x1n x1c, Value.slice x2a x2n x2c] 56) → F1 [Lf.bool (decide (205 < (↑x2n : Int)))] w10)))) ∧ ((↑x1n : Int) ≤ 60 → (60 <
    (↑x2n : Int) → ((↑x2n : Int) ≤ 200 → ∀ (w11 : World), RowKit.Below w.heap.size w w11 → Kept [m2, m1] w3 w11 → w11.heap[m2]? = some (Obj.cells #[Value.int IntKind.i64 x0,
    Value.slice x1a x1n x1c, Value.slice x2a x2n x2c] 56) → w11.heap[m2]? = some (Obj.cells #[Value.int IntKind.i64 x0, Value.slice x1a x1n x1c, Value.slice x2a x2n x2c] 56) →
    w11.heap[m2]? = some (Obj.cells #[Value.int IntKind.i64 x0, Value.slice x1a x1n x1c, Value.slice x2a x2n x2c] 56) → F1 [Lf.bool true] w11) ∧ (200 < (↑x2n : Int) → (205 < (↑x1n
    : Int) → ∀ (w12 : World), RowKit.Below w.heap.size w w12 → Kept [m2, m1] w3 w12 → w12.heap[m2]? = some (Obj.cells #[Value.int IntKind.i64 x0, Value.slice x1a x1n x1c,
    Value.slice x2a x2n x2c] 56) → w12.heap[m2]? = some (Obj.cells #[Value.int IntKind.i64 x0, Value.slice x1a x1n x1c, Value.slice x2a x2n x2c] 56) → w12.heap[m2]? = some
    (Obj.cells #[Value.int IntKind.i64 x0, Value.slice x1a x1n x1c, Value.slice x2a x2n x2c] 56) → w12.heap[m2]? = some (Obj.cells #[Value.int IntKind.i64 x0, Value.slice x1a x1n
    x1c, Value.slice x2a x2n x2c] 56) → F1 [Lf.bool true] w12) ∧ ((↑x1n : Int) ≤ 205 → ∀ (w13 : World), RowKit.Below w.heap.size w w13 → Kept [m2, m1] w3 w13 → w13.heap[m2]? = some
    (Obj.cells #[Value.int IntKind.i64 x0, Value.slice x1a x1n x1c, Value.slice x2a x2n x2c] 56) → w13.heap[m2]? = some (Obj.cells #[Value.int IntKind.i64 x0, Value.slice x1a x1n
    x1c, Value.slice x2a x2n x2c] 56) → w13.heap[m2]? = some (Obj.cells #[Value.int IntKind.i64 x0, Value.slice x1a x1n x1c, Value.slice x2a x2n x2c] 56) → w13.heap[m2]? = some
    (Obj.cells #[Value.int IntKind.i64 x0, Value.slice x1a x1n x1c, Value.slice x2a x2n x2c] 56) → w13.heap[m2]? = some (Obj.cells #[Value.int IntKind.i64 x0, Value.slice x1a x1n
    x1c, Value.slice x2a x2n x2c] 56) → F1 [Lf.bool (decide (205 < (↑x2n : Int)))] w13))) ∧ ((↑x2n : Int) ≤ 60 → (205 < (↑x1n : Int) → ∀ (w14 : World), RowKit.Below w.heap.size w
    w14 → Kept [m2, m1] w3 w14 → w14.heap[m2]? = some (Obj.cells #[Value.int IntKind.i64 x0, Value.slice x1a x1n x1c, Value.slice x2a x2n x2c] 56) → w14.heap[m2]? = some (Obj.cells
    #[Value.int IntKind.i64 x0, Value.slice x1a x1n x1c, Value.slice x2a x2n x2c] 56) → w14.heap[m2]? = some (Obj.cells #[Value.int IntKind.i64 x0, Value.slice x1a x1n x1c,
    Value.slice x2a x2n x2c] 56) → F1 [Lf.bool true] w14) ∧ ((↑x1n : Int) ≤ 205 → ∀ (w15 : World), RowKit.Below w.heap.size w w15 → Kept [m2, m1] w3 w15 → w15.heap[m2]? = some
    (Obj.cells #[Value.int IntKind.i64 x0, Value.slice x1a x1n x1c, Value.slice x2a x2n x2c] 56) → w15.heap[m2]? = some (Obj.cells #[Value.int IntKind.i64 x0, Value.slice x1a x1n
    x1c, Value.slice x2a x2n x2c] 56) → w15.heap[m2]? = some (Obj.cells #[Value.int IntKind.i64 x0, Value.slice x1a x1n x1c, Value.slice x2a x2n x2c] 56) → w15.heap[m2]? = some
    (Obj.cells #[Value.int IntKind.i64 x0, Value.slice x1a x1n x1c, Value.slice x2a x2n x2c] 56) → F1 [Lf.bool (decide (205 < (↑x2n : Int)))] w15))))) ∧ ∀ (t2 : Bool) (w16 :
    World), RowKit.Below w.heap.size w w16 → F1 [Lf.bool t2] w16 → (t2 = true → ∀ (w17 : World), RowKit.Below w.heap.size w w17 → Kept [m2, m1] w16 w17 → Calls Try.prog 14 #[] w17
    fun (e2 : Ending) (w18 : World) => ∃ (t3 : Bool), e2 = Ending.returned (Value.bool t3) ∧ KeepX true w.heap.size [m2, m1] (fun _ => False) w17 w18 ∧ ∀ (w19 : World),
    RowKit.Below w.heap.size w w19 → Kept [m2, m1] w18 w19 → R (Ending.returned (Value.bool t3)) w19) ∧ (t2 = false → ∀ (w20 : World), RowKit.Below w.heap.size w w20 → KeptIn [(0,
    w16.heap.size)] [m2, m1] w16 w20 → Calls Try.prog 29 #[Value.slice x1a x1n x1c] w20 fun (e3 : Ending) (w21 : World) => ∃ (a1 : Option Addr), ∃ (m58 : Nat), ∃ (m59 : Nat), e3 =
    Ending.returned (Value.slice a1 m58 m59) ∧ KeepX true w.heap.size [m2, m1] (fun _ => False) w20 w21 ∧ ∀ (w22 : World), RowKit.Below w.heap.size w w22 → KeptIn [(0,
    w21.heap.size)] [m2, m1] w21 w22 → Calls Try.prog 29 #[Value.slice x2a x2n x2c] w22 fun (e4 : Ending) (w23 : World) => ∃ (a2 : Option Addr), ∃ (m61 : Nat), ∃ (m62 : Nat), e4 =
    Ending.returned (Value.slice a2 m61 m62) ∧ KeepX true w.heap.size [m2, m1] (fun _ => False) w22 w23 ∧ ∀ (w24 : World), RowKit.Below w.heap.size w w24 → KeptIn [(0,
    w23.heap.size)] [m2, m1] w23 w24 → Calls Try.prog 15 #[Value.agg #[Value.slice p0w0a p0w0n p0w0c, Value.slice p0w1a p0w1n p0w1c]] w24 fun (e5 : Ending) (w25 : World) => ∃ (a3 :
    Option Addr), ∃ (m64 : Nat), ∃ (m65 : Nat), ∃ (a4 : Option Addr), ∃ (m66 : Nat), ∃ (m67 : Nat), e5 = Ending.returned (Value.agg #[Value.slice a3 m64 m65, Value.slice a4 m66
    m67]) ∧ KeepX true w.heap.size [m2, m1] (fun _ => False) w24 w25 ∧ ∀ (w26 : World), RowKit.Below w.heap.size w w26 → KeptIn [(0, w25.heap.size)] [m2, m1] w25 w26 → Calls
    Try.prog 30 #[Value.agg #[Value.slice a3 m64 m65, Value.slice a4 m66 m67], Value.int IntKind.i64 x0, Value.slice a1 m58 m59, Value.slice a2 m61 m62] w26 fun (e6 : Ending) (w27
    : World) => ∃ (a5 : Option Addr), ∃ (m69 : Nat), ∃ (m70 : Nat), ∃ (x5 : Int), e6 = Ending.returned (Value.tuple #[Value.slice a5 m69 m70, Value.int IntKind.i64 x5]) ∧ KeepX
    true w.heap.size [m2, m1] (fun _ => False) w26 w27 ∧ ∀ (w28 : World), RowKit.Below w.heap.size w w28 → KeptIn [(0, w27.heap.size)] [m2, m1] w27 w28 → Calls Try.prog 15
    #[Value.agg #[Value.slice p0w0a p0w0n p0w0c, Value.slice p0w1a p0w1n p0w1c]] w28 fun (e7 : Ending) (w29 : World) => ∃ (a6 : Option Addr), ∃ (m72 : Nat), ∃ (m73 : Nat), ∃ (a7 :
    Option Addr), ∃ (m74 : Nat), ∃ (m75 : Nat), e7 = Ending.returned (Value.agg #[Value.slice a6 m72 m73, Value.slice a7 m74 m75]) ∧ KeepX true w.heap.size [m2, m1] (fun _ =>
    False) w28 w29 ∧ ∀ (w30 : World), RowKit.Below w.heap.size w w30 → KeptIn [(0, w29.heap.size)] [m2, m1] w29 w30 → Calls Try.prog 31 #[Value.agg #[Value.slice a6 m72 m73,
    Value.slice a7 m74 m75], Value.int IntKind.i64 x0, Value.slice a1 m58 m59, Value.slice a2 m61 m62] w30 fun (e8 : Ending) (w31 : World) => ∃ (a8 : Option Addr), ∃ (m77 : Nat), ∃
    (m78 : Nat), ∃ (a9 : Option Addr), ∃ (m79 : Nat), ∃ (m80 : Nat), ∃ (x6 : Int), e8 = Ending.returned (Value.tuple #[Value.slice a8 m77 m78, Value.slice a9 m79 m80, Value.int
    IntKind.i64 x6]) ∧ KeepX true w.heap.size [m2, m1] (fun _ => False) w30 w31 ∧ ∃ (F2 : List Lf → World → Prop), (∀ (w33 : World), RowKit.Below w.heap.size w w33 → Kept [m2, m1]
    w31 w33 → Calls Try.prog 32 #[Value.slice a1 m58 m59, Value.slice x1a x1n x1c] w33 fun (e9 : Ending) (w34 : World) => ∃ (t4 : Bool), e9 = Ending.returned (Value.bool t4) ∧
    KeepX true w.heap.size [m2, m1] (fun _ => False) w33 w34 ∧ ((!t4) = true → ∀ (w35 : World), RowKit.Below w.heap.size w w35 → Kept [m2, m1] w34 w35 → w35.heap[m2]? = some
    (Obj.cells #[Value.int IntKind.i64 x0, Value.slice x1a x1n x1c, Value.slice x2a x2n x2c] 56) → F2 [Lf.bool true] w35) ∧ ((!t4) = false → ∀ (w36 : World), RowKit.Below
    w.heap.size w w36 → Kept [m2, m1] w34 w36 → Calls Try.prog 32 #[Value.slice a2 m61 m62, Value.slice x2a x2n x2c] w36 fun (e10 : Ending) (w37 : World) => ∃ (t5 : Bool), e10 =
    Ending.returned (Value.bool t5) ∧ KeepX true w.heap.size [m2, m1] (fun _ => False) w36 w37 ∧ ∀ (w38 : World), RowKit.Below w.heap.size w w38 → Kept [m2, m1] w37 w38 →
    w38.heap[m2]? = some (Obj.cells #[Value.int IntKind.i64 x0, Value.slice x1a x1n x1c, Value.slice x2a x2n x2c] 56) → w38.heap[m2]? = some (Obj.cells #[Value.int IntKind.i64 x0,
    Value.slice x1a x1n x1c, Value.slice x2a x2n x2c] 56) → F2 [Lf.bool !t5] w38)) ∧ ∀ (t6 : Bool) (w39 : World), RowKit.Below w.heap.size w w39 → F2 [Lf.bool t6] w39 → (t6 = true
    → ∀ (w40 : World), RowKit.Below w.heap.size w w40 → Kept [m2, m1] w39 w40 → R (Ending.returned (Value.bool false)) w40) ∧ (t6 = false → ∀ (w41 : World), RowKit.Below
    w.heap.size w w41 → Kept [m2, m1] w39 w41 → Calls Try.prog 33 #[Value.agg #[Value.slice p0w0a p0w0n p0w0c, Value.slice p0w1a p0w1n p0w1c], Value.int IntKind.i64 x0, Value.slice
    x1a x1n x1c, Value.slice x2a x2n x2c] w41 fun (e11 : Ending) (w42 : World) => ∃ (x7 : Int), e11 = Ending.returned (Value.int IntKind.i64 x7) ∧ KeepX true w.heap.size [m2, m1]
    (fun _ => False) w41 w42 ∧ (x7 ≠ 0 → ∃ (F3 : List Lf → World → Prop), ((x5 = x7 → (x6 = x7 → (-9223372036854775808 ≤ (↑m69 : Int) + (↑m77 : Int) ∧ (↑m69 : Int) + (↑m77 : Int) ≤
    9223372036854775807) ∧ (-9223372036854775808 ≤ (↑m69 : Int) + (↑m77 : Int) + (↑m79 : Int) ∧ (↑m69 : Int) + (↑m77 : Int) + (↑m79 : Int) ≤ 9223372036854775807) ∧ ((↑m69 : Int) +
    (↑m77 : Int) + (↑m79 : Int) = 0 → ∀ (w44 : World), RowKit.Below w.heap.size w w44 → Kept [m2, m1] w42 w44 → Calls Try.prog 14 #[] w44 fun (e12 : Ending) (w45 : World) => ∃ (t7
    : Bool), e12 = Ending.returned (Value.bool t7) ∧ KeepX true w.heap.size [m2, m1] (fun _ => False) w44 w45 ∧ ∀ (w46 : World), RowKit.Below w.heap.size w w46 → Kept [m2, m1] w45
    w46 → F3 [Lf.bool t7] w46) ∧ ((↑m69 : Int) + (↑m77 : Int) + (↑m79 : Int) ≠ 0 → ∀ (w47 : World), RowKit.Below w.heap.size w w47 → Kept [m2, m1] w42 w47 → F3 [Lf.bool false]
    w47)) ∧ (x6 ≠ x7 → ∀ (w48 : World), RowKit.Below w.heap.size w w48 → Kept [m2, m1] w42 w48 → F3 [Lf.bool false] w48)) ∧ (x5 ≠ x7 → ∀ (w49 : World), RowKit.Below w.heap.size w
    w49 → Kept [m2, m1] w42 w49 → F3 [Lf.bool false] w49)) ∧ ∀ (t8 : Bool) (w50 : World), RowKit.Below w.heap.size w w50 → F3 [Lf.bool t8] w50 → ∀ (w51 : World), RowKit.Below
    w.heap.size w w51 → Kept [m2, m1] w50 w51 → R (Ending.returned (Value.bool t8)) w51) ∧ (x7 = 0 → ∃ (m89 : Nat), ∃ (m90 : Nat), p0w1a = some { block := m89, off := m90 } ∧ (0 ≤
    x0 ∧ x0 < (↑p0w1n : Int)) ∧ ∃ (x8 : Int), ∃ (x9 : Int), ∃ (x10 : Int), ∃ (x11 : Int), ∃ (x12 : Int), ∃ (x13 : Int), w42.cell? { block := m89, off := m90 + x0.toNat * 6 } = some
    (Value.int IntKind.i64 x8) ∧ w42.cell? { block := m89, off := m90 + x0.toNat * 6 + 1 } = some (Value.int IntKind.i64 x9) ∧ w42.cell?
    { block := m89, off := m90 + x0.toNat * 6 + 1 + 1 } = some (Value.int IntKind.i64 x10) ∧ w42.cell? { block := m89, off := m90 + x0.toNat * 6 + 1 + 1 + 1 } = some (Value.int
    IntKind.i64 x11) ∧ w42.cell? { block := m89, off := m90 + x0.toNat * 6 + 1 + 1 + 1 + 1 } = some (Value.int IntKind.i64 x12) ∧ w42.cell?
    { block := m89, off := m90 + x0.toNat * 6 + 1 + 1 + 1 + 1 + 1 } = some (Value.int IntKind.i64 x13) ∧ (m89 < w.heap.size ∨ m89 ≠ m2 ∧ m89 ≠ m1) ∧ ∀ (w52 : World), RowKit.Below
    w.heap.size w w52 → KeptIn [(0, w42.heap.size)] [m2, m1] w42 w52 → Calls Try.prog 34 #[Value.agg #[Value.int IntKind.i64 x8, Value.int IntKind.i64 x9, Value.int IntKind.i64
    x10, Value.int IntKind.i64 x11, Value.int IntKind.i64 x12, Value.int IntKind.i64 x13], Value.slice x1a x1n x1c, Value.slice x2a x2n x2c] w52 fun (e13 : Ending) (w53 : World) =>
    ∃ (a10 : Option Addr), ∃ (m91 : Nat), ∃ (m92 : Nat), e13 = Ending.returned (Value.slice a10 m91 m92) ∧ KeepX true w.heap.size [m2, m1] (fun _ => False) w52 w53 ∧ ∃ (F4 : List
    Lf → World → Prop), ∃ (F5 : List Lf → Nat), (∀ (w55 : World), RowKit.Below w.heap.size w w55 → Kept [m2, m1] w53 w55 → F4 [Lf.bool false, Lf.int IntKind.i64 0, Lf.int
    IntKind.i64 0] w55) ∧ ∀ (t9 : Bool) (x14 x15 : Int) (w56 : World), RowKit.Below w.heap.size w w56 → F4 [Lf.bool t9, Lf.int IntKind.i64 x14, Lf.int IntKind.i64 x15] w56 → (x15 <
    (↑m91 : Int) → ∃ (F6 : List Lf → World → Prop), (∃ (m94 : Nat), ∃ (m95 : Nat), a10 = some { block := m94, off := m95 } ∧ (0 ≤ x15 ∧ x15 < (↑m91 : Int)) ∧ ∃ (x16 : Int),
    w56.cell? { block := m94, off := m95 + x15.toNat * 1 } = some (Value.int IntKind.i64 x16) ∧ (m94 < w.heap.size ∨ m94 ≠ m2 ∧ m94 ≠ m1) ∧ (x16 < 0 → ∀ (w58 : World), RowKit.Below
    w.heap.size w w58 → Kept [m2, m1] w56 w58 → F6 [Lf.bool t9, Lf.int IntKind.i64 x14] w58) ∧ (0 ≤ x16 → ∃ (F7 : List Lf → World → Prop), (((↑m69 : Int) ≤ x14 → ∀ (w60 : World),
    RowKit.Below w.heap.size w w60 → Kept [m2, m1] w56 w60 → F7 [Lf.bool true] w60) ∧ (x14 < (↑m69 : Int) → ∃ (m96 : Nat), ∃ (m97 : Nat), a5 = some { block := m96, off := m97 } ∧
    (0 ≤ x14 ∧ x14 < (↑m69 : Int)) ∧ ∃ (x17 : Int), ∃ (x18 : Int), w56.cell? { block := m96, off := m97 + x14.toNat * 2 } = some (Value.int IntKind.i64 x17) ∧ w56.cell?
    { block := m96, off := m97 + x14.toNat * 2 + 1 } = some (Value.int IntKind.i64 x18) ∧ (m96 < w.heap.size ∨ m96 ≠ m2 ∧ m96 ≠ m1) ∧ ∃ (m98 : Nat), ∃ (m99 : Nat), a10 = some
    { block := m98, off := m99 } ∧ (0 ≤ x15 ∧ x15 < (↑m91 : Int)) ∧ ∃ (x19 : Int), w56.cell? { block := m98, off := m99 + x15.toNat * 1 } = some (Value.int IntKind.i64 x19) ∧ (m98
    < w.heap.size ∨ m98 ≠ m2 ∧ m98 ≠ m1) ∧ ∀ (w61 : World), RowKit.Below w.heap.size w w61 → KeptIn [(0, w56.heap.size)] [m2, m1] w56 w61 → RunsTo Try.prog ((eqGuard BinOp.neq 68
    (Operand.tmp 158) (Operand.tmp 164) (Value.agg #[Value.int IntKind.i64 x17, Value.int IntKind.i64 x18]) (Value.agg #[Value.int IntKind.i64 x15, Value.int IntKind.i64 x19])) >>=
    fun _ => binOp BinOp.neq 68 (Value.agg #[Value.int IntKind.i64 x17, Value.int IntKind.i64 x18]) (Value.agg #[Value.int IntKind.i64 x15, Value.int IntKind.i64 x19])) w61 fun (v1
    : Value) (w62 : World) => ∃ (t10 : Bool), v1 = Value.bool t10 ∧ KeepX true w.heap.size [m2, m1] (fun _ => False) w61 w62 ∧ ∀ (w63 : World), RowKit.Below w.heap.size w w63 →
    Kept [m2, m1] w62 w63 → F7 [Lf.bool t10] w63)) ∧ ∀ (t11 : Bool) (w64 : World), RowKit.Below w.heap.size w w64 → F7 [Lf.bool t11] w64 → (t11 = true → ∀ (w65 : World),
    RowKit.Below w.heap.size w w65 → Kept [m2, m1] w64 w65 → R (Ending.returned (Value.bool false)) w65) ∧ (t11 = false → (-9223372036854775808 ≤ x14 + 1 ∧ x14 + (1 : Int) ≤
    9223372036854775807) ∧ ∀ (w66 : World), RowKit.Below w.heap.size w w66 → Kept [m2, m1] w64 w66 → F6 [Lf.bool t9, Lf.int IntKind.i64 (x14 + 1)] w66))) ∧ ∀ (t12 : Bool) (x20 :
    Int) (w67 : World), RowKit.Below w.heap.size w w67 → F6 [Lf.bool t12, Lf.int IntKind.i64 x20] w67 → (-9223372036854775808 ≤ x15 + 1 ∧ x15 + (1 : Int) ≤ 9223372036854775807) ∧ ∀
    (w68 : World), RowKit.Below w.heap.size w w68 → Kept [m2, m1] w67 w68 → F4 [Lf.bool t12, Lf.int IntKind.i64 x20, Lf.int IntKind.i64 (x15 + 1)] w68 ∧ F5 [Lf.bool t12, Lf.int
    IntKind.i64 x20, Lf.int IntKind.i64 (x15 + 1)] < F5 [Lf.bool t9, Lf.int IntKind.i64 x14, Lf.int IntKind.i64 x15]) ∧ ((↑m91 : Int) ≤ x15 → ∃ (m101 : Nat), ∃ (m102 : Nat), p0w1a
    = some { block := m101, off := m102 } ∧ (0 ≤ x0 ∧ x0 < (↑p0w1n : Int)) ∧ ∃ (x21 : Int), ∃ (x22 : Int), ∃ (x23 : Int), ∃ (x24 : Int), ∃ (x25 : Int), ∃ (x26 : Int), w56.cell?
    { block := m101, off := m102 + x0.toNat * 6 } = some (Value.int IntKind.i64 x21) ∧ w56.cell? { block := m101, off := m102 + x0.toNat * 6 + 1 } = some (Value.int IntKind.i64
    x22) ∧ w56.cell? { block := m101, off := m102 + x0.toNat * 6 + 1 + 1 } = some (Value.int IntKind.i64 x23) ∧ w56.cell? { block := m101, off := m102 + x0.toNat * 6 + 1 + 1 + 1 }
    = some (Value.int IntKind.i64 x24) ∧ w56.cell? { block := m101, off := m102 + x0.toNat * 6 + 1 + 1 + 1 + 1 } = some (Value.int IntKind.i64 x25) ∧ w56.cell?
    { block := m101, off := m102 + x0.toNat * 6 + 1 + 1 + 1 + 1 + 1 } = some (Value.int IntKind.i64 x26) ∧ (m101 < w.heap.size ∨ m101 ≠ m2 ∧ m101 ≠ m1) ∧ ∀ (w69 : World),
    RowKit.Below w.heap.size w w69 → KeptIn [(0, w56.heap.size)] [m2, m1] w56 w69 → Calls Try.prog 35 #[Value.agg #[Value.int IntKind.i64 x21, Value.int IntKind.i64 x22, Value.int
    IntKind.i64 x23, Value.int IntKind.i64 x24, Value.int IntKind.i64 x25, Value.int IntKind.i64 x26], Value.slice x1a x1n x1c, Value.slice x2a x2n x2c, Value.slice a10 m91 m92]
    w69 fun (e14 : Ending) (w70 : World) => ∃ (a11 : Option Addr), ∃ (m103 : Nat), ∃ (m104 : Nat), ∃ (a12 : Option Addr), ∃ (m105 : Nat), ∃ (m106 : Nat), e14 = Ending.returned
    (Value.tuple #[Value.slice a11 m103 m104, Value.slice a12 m105 m106]) ∧ KeepX true w.heap.size [m2, m1] (fun _ => False) w69 w70 ∧ ∃ (F8 : List Lf → World → Prop), ((x5 = 0 →
    (x6 = 0 → (x14 = (↑m69 : Int) → ∀ (w72 : World), RowKit.Below w.heap.size w w72 → Kept [m2, m1] w70 w72 → Calls Try.prog 32 #[Value.slice a8 m77 m78, Value.slice a11 m103 m104]
    w72 fun (e15 : Ending) (w73 : World) => ∃ (t13 : Bool), e15 = Ending.returned (Value.bool t13) ∧ KeepX true w.heap.size [m2, m1] (fun _ => False) w72 w73 ∧ (t13 = true → ∀ (w74
    : World), RowKit.Below w.heap.size w w74 → Kept [m2, m1] w73 w74 → Calls Try.prog 32 #[Value.slice a9 m79 m80, Value.slice a12 m105 m106] w74 fun (e16 : Ending) (w75 : World)
    => ∃ (t14 : Bool), e16 = Ending.returned (Value.bool t14) ∧ KeepX true w.heap.size [m2, m1] (fun _ => False) w74 w75 ∧ (t14 = true → ∀ (w76 : World), RowKit.Below w.heap.size w
    w76 → Kept [m2, m1] w75 w76 → Calls Try.prog 14 #[] w76 fun (e17 : Ending) (w77 : World) => ∃ (t15 : Bool), e17 = Ending.returned (Value.bool t15) ∧ KeepX true w.heap.size [m2,
    m1] (fun _ => False) w76 w77 ∧ ∀ (w78 : World), RowKit.Below w.heap.size w w78 → Kept [m2, m1] w77 w78 → F8 [Lf.bool t15] w78) ∧ (t14 = false → ∀ (w79 : World), RowKit.Below
    w.heap.size w w79 → Kept [m2, m1] w75 w79 → F8 [Lf.bool false] w79)) ∧ (t13 = false → ∀ (w80 : World), RowKit.Below w.heap.size w w80 → Kept [m2, m1] w73 w80 → F8 [Lf.bool
    false] w80)) ∧ (x14 ≠ (↑m69 : Int) → ∀ (w81 : World), RowKit.Below w.heap.size w w81 → Kept [m2, m1] w70 w81 → F8 [Lf.bool false] w81)) ∧ (x6 ≠ 0 → ∀ (w82 : World),
    RowKit.Below w.heap.size w w82 → Kept [m2, m1] w70 w82 → F8 [Lf.bool false] w82)) ∧ (x5 ≠ 0 → ∀ (w83 : World), RowKit.Below w.heap.size w w83 → Kept [m2, m1] w70 w83 → F8
    [Lf.bool false] w83)) ∧ ∀ (t16 : Bool) (w84 : World), RowKit.Below w.heap.size w w84 → F8 [Lf.bool t16] w84 → ∀ (w85 : World), RowKit.Below w.heap.size w w85 → Kept [m2, m1]
    w84 w85 → R (Ending.returned (Value.bool t16)) w85))))) : Calls Try.prog 5 #[Value.agg #[Value.slice p0w0a p0w0n p0w0c, Value.slice p0w1a p0w1n p0w1c], Value.agg #[Value.int
    IntKind.i64 x0, Value.slice x1a x1n x1c, Value.slice x2a x2n x2c]] w R := calls_of_vcj (pure := true) (wrapAt := []) (muts := []) (esc := []) (joins := [(2000001, [(55, 4)]),
    (2000006, [(95, 4)]), (2000010, [(4, 4)]), (1000001, [(4, 4), (14, 3)]), (2000016, [(166, 4)]), (2000020, [(4, 4)])]) (args := [SV.pv (PV.agg [Lf.sl p0w0a p0w0n p0w0c, Lf.sl
    p0w1a p0w1n p0w1c]), SV.pv (PV.agg [Lf.int IntKind.i64 x0, Lf.sl x1a x1n x1c, Lf.sl x2a x2n x2c])]) (vs := [Value.agg #[Value.slice p0w0a p0w0n p0w0c, Value.slice p0w1a p0w1n
    p0w1c], Value.agg #[Value.int IntKind.i64 x0, Value.slice x1a x1n x1c, Value.slice x2a x2n x2c]]) Try.func5 rfl rfl rfl (Eq.mp (by kernel_rfl) h) 
end Go.Proofs
end
section
/- The reference's Pair, walked. -/
namespace Go.Proofs.R12
open Go.Vc Go.RowKit Go.Proofs

def usedB (ps : List (Int × Int)) (h : Int) : Bool := decide (h ∉ ps.map (·.2))
def doneB (S : List Int) (k : Nat) (s : Int) : Bool := decide (s ∈ (sortIdx S).take k)
/-- What Pair holds in memory. -/
structure PSt (nS nH b m1 d6 d7 : Nat) (a : Option Addr) (c : Nat) (Dn Fr : List Bool) (G : List Int) (w : World) : Prop where
  d : BoolsAt d6 nS Dn w
  f : BoolsAt d7 nH Fr w
  g : RowE 3 1 b [m1, d6, d7] a nS c (ints G) w
  ne : d6 ≠ d7
  m : m1 ≠ d6 ∧ m1 ≠ d7 ∧ m1 < w.heap.size
  lo : b ≤ m1 ∧ b ≤ d6 ∧ b ≤ d7
section
variable {nS nH b m1 d6 d7 : Nat} {a : Option Addr} {c : Nat} {Dn Fr : List Bool} {G : List Int} {w w' : World}
theorem PSt.ko (h : PSt nS nH b m1 d6 d7 a c Dn Fr G w) (hk : Kept [m1] w w') : PSt nS nH b m1 d6 d7 a c Dn Fr G w' := by
  have hm := h.m
  exact ⟨h.d.out (Chg.kept hk) (by simp; omega), h.f.out (Chg.kept hk) (by simp; omega), h.g.chg (Chg.kept hk) (by simp), h.ne, ⟨hm.1, hm.2.1, by have := hk.size; omega⟩, h.lo⟩
theorem PSt.bel (h : PSt nS nH b m1 d6 d7 a c Dn Fr G w) (hb : Below w.heap.size w w') : PSt nS nH b m1 d6 d7 a c Dn Fr G w' := by
  have hm := h.m
  exact ⟨h.d.out (S := []) (Chg.of_below hb) (by simp), h.f.out (S := []) (Chg.of_below hb) (by simp), h.g.below hb, h.ne, ⟨hm.1, hm.2.1, by have := hb.size; omega⟩, h.lo⟩
theorem PSt.kio {rs : List (Nat × Nat)} (h : PSt nS nH b m1 d6 d7 a c Dn Fr G w) (hk : KeptIn ((0, w.heap.size) :: rs) [m1] w w') : PSt nS nH b m1 d6 d7 a c Dn Fr G w' := by
  have hm := h.m
  exact ⟨h.d.out hk.chg (by simp; omega), h.f.out hk.chg (by simp; omega), h.g.chg hk.chg (by simp), h.ne, ⟨hm.1, hm.2.1, by have := hk.size; omega⟩, h.lo⟩
theorem PSt.keepX {S : List Nat} (h : PSt nS nH b m1 d6 d7 a c Dn Fr G w) (hc : Chg S w w') (hS : ∀ x ∈ S, b ≤ x ∧ x ≠ m1) (hb : b ≤ w.heap.size) : KeepX true b [m1] (fun _ => False) w w' :=
  hc.own (fun x hx => by simp at hx; subst hx; exact ⟨h.m.2.2, fun hm => (hS _ hm).2 rfl⟩) (by simp) fun _ => ⟨hb, fun x hx => (hS x hx).1⟩
theorem PSt.setD (h : PSt nS nH b m1 d6 d7 a c Dn Fr G w) (hb : b ≤ w.heap.size) {i : Int} {x : Bool} (hi : 0 ≤ i ∧ i < (nS : Int)) {R : Value → World → Prop} (hR : ∀ w', PSt nS nH b m1 d6 d7 a c (Dn.set i.toNat x) Fr G w' → KeepX true b [m1] (fun _ => False) w w' → R (.tuple #[]) w') :
    RunsTo Try.prog ((Instr.storeAt 4 (.pointer (some ⟨d6, 0 + i.toNat * 1, none⟩)) (.bool x)) >>= fun _ => pure (Value.tuple #[])) w R :=
  store_bl h.d hi fun w' h1 hc => hR w' ⟨h1, h.f.out hc (by simp; exact fun e => h.ne e.symm), h.g.chg hc (by simp), h.ne, ⟨h.m.1, h.m.2.1, by have := hc.size; have := h.m.2.2; omega⟩, h.lo⟩ (h.keepX hc (by simp; exact ⟨h.lo.2.1, fun e => h.m.1 e.symm⟩) hb)
theorem PSt.setF (h : PSt nS nH b m1 d6 d7 a c Dn Fr G w) (hb : b ≤ w.heap.size) {i : Int} {x : Bool} (hi : 0 ≤ i ∧ i < (nH : Int)) {R : Value → World → Prop} (hR : ∀ w', PSt nS nH b m1 d6 d7 a c Dn (Fr.set i.toNat x) G w' → KeepX true b [m1] (fun _ => False) w w' → R (.tuple #[]) w') :
    RunsTo Try.prog ((Instr.storeAt 4 (.pointer (some ⟨d7, 0 + i.toNat * 1, none⟩)) (.bool x)) >>= fun _ => pure (Value.tuple #[])) w R :=
  store_bl h.f hi fun w' h1 hc => hR w' ⟨h.d.out hc (by simp; exact h.ne), h1, h.g.chg hc (by simp), h.ne, ⟨h.m.1, h.m.2.1, by have := hc.size; have := h.m.2.2; omega⟩, h.lo⟩ (h.keepX hc (by simp; exact ⟨h.lo.2.2, fun e => h.m.2.1 e.symm⟩) hb)
theorem PSt.len (h : PSt nS nH b m1 d6 d7 a c Dn Fr G w) : G.length = nS := by
  rcases h.g with ⟨_, h0, _, h1⟩ | R
  · simp [ints] at h1; rw [h0, h1]; rfl
  · have := R.len; simpa [ints] using this
theorem PSt.loadG (h : PSt nS nH b m1 d6 d7 a c Dn Fr G w) {i : Int} {X : Nat → Nat → Int → Prop} (hi : 0 ≤ i ∧ i < (nS : Int)) (k : ∀ m o, a = some ⟨m, o, none⟩ → m ≠ m1 → X m o (G.getD i.toNat 0)) : ∃ m o, a = some ⟨m, o, none⟩ ∧ (0 ≤ i ∧ i < (nS : Int)) ∧ ∃ x : Int, w.cell? ⟨m, o + i.toNat * 1, none⟩ = some (I x) ∧ X m o x := by
  have hl := h.len
  have hil : i.toNat < G.length := by omega
  obtain ⟨g, e, R⟩ := RowZ.at (.inr (h.g.resolve_left fun q => by have := q.2.1; omega) : RowZ 3 1 b [m1, d6, d7] a nS c (ints G) w) (by omega)
  obtain ⟨b0, o0, e0, d0⟩ := h.g.cells i.toNat _ (ints_get (getElem_of_lt hil))
  refine ⟨b0, o0, e0, hi, _, cell_at' d0 (by omega), ?_⟩
  have := k b0 o0 e0 fun e1 => by
    rw [e] at e0
    cases e0
    exact R.ns _ _ rfl (by simp [e1])
  rw [List.getD_eq_getElem?_getD, getElem_of_lt hil] at this
  exact this
theorem PSt.setG (h : PSt nS nH b m1 d6 d7 a c Dn Fr G w) (hb : b ≤ w.heap.size) {i x : Int} (hi : 0 ≤ i ∧ i < (nS : Int)) :
    ∃ m o, a = some ⟨m, o, none⟩ ∧ (0 ≤ i ∧ i < (nS : Int)) ∧ ∀ w1, Kept [m1] w w1 → ∀ {R : Value → World → Prop}, (∀ w', PSt nS nH b m1 d6 d7 a c Dn Fr (G.set i.toNat x) w' → KeepX true b [m1] (fun _ => False) w1 w' → R (.tuple #[]) w') →
      RunsTo Try.prog ((Instr.storeAt 3 (.pointer (some ⟨m, o + i.toNat * 1, none⟩)) (I x)) >>= fun _ => pure (Value.tuple #[])) w1 R := by
  obtain ⟨g, e, _⟩ := RowZ.at (.inr (h.g.resolve_left fun q => by have := q.2.1; omega) : RowZ 3 1 b [m1, d6, d7] a nS c (ints G) w) (by omega)
  refine ⟨g, 0, e, hi, fun w1 hk {R} hR => ?_⟩
  have h1 := h.ko hk
  have hg := h1.g
  rw [e] at hg
  have hR1 : Row 3 1 b [m1, d6, d7] (some ⟨g, 0, none⟩) nS c (ints G) w1 := hg.resolve_left fun q => by have := q.2.1; omega
  have hns := hR1.ns g 0 rfl
  simp only [List.mem_cons, List.not_mem_nil, or_false, not_or] at hns
  have hlt := hR1.lt g 0 rfl
  exact row_store hR1 (by omega) fun w' hr hc => hR w' ⟨h1.d.out hc (by simp; exact fun e => hns.2.1 e.symm), h1.f.out hc (by simp; exact fun e => hns.2.2 e.symm), by rw [e]; exact .inr hr, h.ne, ⟨h1.m.1, h1.m.2.1, by have := hc.size; have := h1.m.2.2; omega⟩, h.lo⟩ (h1.keepX hc (by simp; exact ⟨hlt.1, hns.1⟩) (by have := hk.size; omega))
end
theorem okSz_at {l : List Int} (h : okSz l) {i : Int} : -10000000 ≤ l.getD i.toNat 0 ∧ l.getD i.toNat 0 ≤ 10000000 := by
  rcases getD_mem (l := l) (i := i.toNat) (d := 0) with e | e
  · rw [e]; omega
  · have := h _ e; omega
theorem kin_same {rs : List (Nat × Nat)} {bs : List Nat} {w w' : World} (h : KeptIn rs bs w w') {lo hi d : Nat} (hr : (lo, hi) ∈ rs) (h1 : lo ≤ d ∧ d < hi) (h2 : d < w.heap.size) (h3 : d ∉ bs) : w'.heap[d]? = w.heap[d]? := h.block d h2 h3 ⟨_, hr, h1⟩
theorem kept_same {bs : List Nat} {w w' : World} (h : Kept bs w w') {d : Nat} (h2 : d < w.heap.size) (h3 : d ∉ bs) : w'.heap[d]? = w.heap[d]? := h.block d h2 h3
theorem rep_ints (n : Nat) (x : Int) : List.replicate (n + 1) x = List.replicate n x ++ [x] := by rw [List.replicate_succ']

set_option maxRecDepth 100000 in
set_option maxHeartbeats 1000000 in
theorem rPair_l {w : World} (f : Fit) {H S : List Int} {aH aS : Option Addr} {cH cS : Nat} (hH : Cells w aH (ints H)) (hS : Cells w aS (ints S)) (zH : okSz H) (zS : okSz S) (lH : H.length ≤ 1000) (lS : S.length ≤ 1000) :
    Calls Try.prog 34 #[f.v, .slice aH H.length cH, .slice aS S.length cS] w fun e w' => ∃ a c, e = .returned (.slice a S.length c) ∧ Below w.heap.size w w' ∧ Lies [] w.heap.size w'.heap.size w' a (ints (getsOf (pairK f H S) S.length)) := by
  have cells0 : ∀ {l : List Int} {a : Option Addr}, Cells w a (ints l) → ∀ {w' : World}, Below w.heap.size w w' → Cells w' a (ints l) := fun hc w' hb => hc.keep hb
  refine vc34 _ _ _ _ _ _ _ _ _ _ _ _ w _ fun m1 g1 => ?_
  refine ⟨fun ls w' => match ls with | [.sl a5 n5 c5, .sl a6 n6 _, .sl a7 n7 _] => (∃ b0, a5 = some ⟨b0, 0, none⟩) ∧ n5 = 0 ∧ c5 = 0 ∧ ∃ d6 d7, a6 = some ⟨d6, 0, none⟩ ∧ n6 = S.length ∧ a7 = some ⟨d7, 0, none⟩ ∧ n7 = H.length ∧ BoolsAt d6 S.length (List.replicate S.length false) w' ∧ BoolsAt d7 H.length (List.replicate H.length false) w' ∧ (d6 ≠ d7 ∧ m1 ≠ d6 ∧ m1 ≠ d7 ∧ m1 < w'.heap.size ∧ w.heap.size ≤ d6 ∧ w.heap.size ≤ d7) | _ => False, ⟨fun w2 hb2 hk2 => ?_, fun w2 hb2 hk2 => ?_⟩, ?_⟩
  · have o2 := hk2.own m1 (by simp)
    have z2 := hb2.size
    refine mk_bools (by omega) (by omega) fun w3 hb3 B3 => ⟨_, _, _, rfl, hb3, fun w4 hb4 hk4 => ?_⟩
    have z3 := hb3.size; have z4 := hk4.size
    have e6 := B3.lt
    have B4 := B3.same (kin_same hk4 (lo := w2.heap.size) (hi := w3.heap.size) (by simp) ⟨Nat.le_refl _, e6⟩ e6 (by simp; omega))
    refine mk_bools (by omega) (by omega) fun w5 hb5 B5 => ⟨_, _, _, rfl, hb5, fun m6 g6 g7 g8 w6 hb6 hk6 hc6 _ => ?_⟩
    have e7 := B5.lt; have z5 := hb5.size; have z6 := hk6.size
    have B4' := (B4.same (hb5.block _ (by omega))).same (kept_same hk6 (by omega) (by simp; omega))
    have B5' := B5.same (kept_same hk6 e7 (by simp; omega))
    exact ⟨⟨_, rfl⟩, rfl, rfl, _, _, rfl, by simp, rfl, by simp, by simpa using B4', by simpa using B5', by omega, by omega, by omega, by omega, by omega, by omega⟩
  · have o2 := hk2.own m1 (by simp)
    have z2 := hb2.size
    refine mk_bools (by omega) (by omega) fun w3 hb3 B3 => ⟨_, _, _, rfl, hb3, fun w4 hb4 hk4 => ?_⟩
    have z3 := hb3.size; have z4 := hk4.size
    have e6 := B3.lt
    have B4 := B3.same (kin_same hk4 (lo := w2.heap.size) (hi := w3.heap.size) (by simp) ⟨Nat.le_refl _, e6⟩ e6 (by simp; omega))
    refine mk_bools (by omega) (by omega) fun w5 hb5 B5 => ⟨_, _, _, rfl, hb5, fun m6 g6 g7 g8 w6 hb6 hk6 hc6 _ => ?_⟩
    have e7 := B5.lt; have z5 := hb5.size; have z6 := hk6.size
    have B4' := (B4.same (hb5.block _ (by omega))).same (kept_same hk6 (by omega) (by simp; omega))
    have B5' := B5.same (kept_same hk6 e7 (by simp; omega))
    exact ⟨⟨_, rfl⟩, rfl, rfl, _, _, rfl, by simp, rfl, by simp, by simpa using B5', by simpa using B4', by omega, by omega, by omega, by omega, by omega, by omega⟩
  rintro a5 m16 m17 a6 m18 m19 a7 m20 m21 w12 hb12 ⟨⟨b0, rfl⟩, rfl, rfl, d6, d7, rfl, rfl, rfl, rfl, B6, B7, n1, n2, n3, n4, n5, n6⟩
  have z12 := hb12.size
  -- the row of -1
  refine ⟨fun ls w' => match ls with | [.sl a8 n8 c8, .int _ i] => (0 ≤ i ∧ i ≤ S.length) ∧ n8 = i.toNat ∧ BoolsAt d6 S.length (List.replicate S.length false) w' ∧ BoolsAt d7 H.length (List.replicate H.length false) w' ∧ m1 < w'.heap.size ∧ RowE 3 1 w.heap.size [m1, d6, d7] a8 n8 c8 (ints (List.replicate i.toNat (-1))) w' | _ => False, fun ls => match ls with | [_, .int _ i] => (S.length - i).toNat | _ => 0, fun w14 hb14 hk14 => ?_, ?_⟩
  · have := hk14.size
    exact ⟨by omega, rfl, B6.out (Chg.kept hk14) (by simp; omega), B7.out (Chg.kept hk14) (by simp; omega), by omega, .inl ⟨⟨_, rfl⟩, rfl, rfl, rfl⟩⟩
  rintro a8 m22 m23 x1 w15 hb15 ⟨⟨i0, i1⟩, rfl, C6, C7, n15, R15⟩
  have z15 := hb15.size
  refine ⟨fun hlt m24 g24 w16 hb16 hk16 hc16 => ?_, fun hge => ?_⟩
  · have z16 := hk16.size
    have l6 := C6.lt; have l7 := C7.lt
    have o24 := hk16.own m24 (by simp)
    have R16 := (R15.grow (ms := [m24]) (allc g24 all0)).chg (Chg.kept hk16) (by simp)
    have D6 := C6.out (Chg.kept hk16) (by simp; omega)
    have D7 := C7.out (Chg.kept hk16) (by simp; omega)
    refine append_rowE (P := Try.prog) (bytes := 8) (by kernel_rfl) (by omega) R16 (m := 1) (news := [_]) (Cells.obj (vs := [_]) hc16) rfl (List.forall_mem_cons.2 ⟨rfl, by simp⟩) (by omega) (by omega) (by omega) (by simp; omega) (by omega) fun a9 c9 w17 R17 T c17 hT => ?_
    have z17 := c17.size
    refine ⟨_, _, _, rfl, c17.own (fun x hx => ⟨hk16.own x hx, fun h => (hT x h).2 (by simp at hx ⊢; omega)⟩) (by simp) (fun _ => ⟨by omega, fun x hx => (hT x hx).1⟩), by omega, fun w18 hb18 hk18 => ⟨⟨by omega, by omega, ?_, ?_, ?_, ?_⟩, ?_⟩⟩
    · exact (D6.out c17 (fun h => (hT _ h).2 (by simp))).out (Chg.kept hk18) (by simp; omega)
    · exact (D7.out c17 (fun h => (hT _ h).2 (by simp))).out (Chg.kept hk18) (by simp; omega)
    · have := hk18.size; omega
    · rw [show (x1 + 1).toNat = x1.toNat + 1 by omega, rep_ints, ints_append]
      exact (RowE.chg (.inr R17) (Chg.kept hk18) (by simp)).less (by simp)
    · show (S.length - (x1 + 1)).toNat < (S.length - x1).toNat
      omega
  have hx1 : x1.toNat = S.length := by omega
  rw [hx1] at R15
  -- all holes are free
  refine ⟨fun ls w' => match ls with | [.int _ j] => (0 ≤ j ∧ j ≤ H.length) ∧ PSt S.length H.length w.heap.size m1 d6 d7 a8 m23 (List.replicate S.length false) (mapB (fun h => decide (h < j)) H.length) (List.replicate S.length (-1)) w' | _ => False, fun ls => match ls with | [.int _ j] => (H.length - j).toNat | _ => 0, fun w20 hb20 hk20 => ⟨⟨by omega, by omega⟩, ?_⟩, ?_⟩
  · refine PSt.ko ⟨C6, ?_, by rw [hx1] at *; exact R15, n1, ⟨n2, n3, n15⟩, ⟨g1, n5, n6⟩⟩ hk20
    rw [← mapB_rep (b := false) fun i h0 h1 => by simp; omega]
    exact C7
  rw [hx1]
  rintro x2 w21 hb21 ⟨⟨j0, j1⟩, P21⟩
  refine ⟨fun hlt => ⟨d7, 0, rfl, by omega, fun w22 hb22 hk22 => ?_⟩, fun hge2 => ?_⟩
  · refine (P21.ko hk22).setF hb22.size (by omega) fun w23 P23 kx => ⟨kx, by omega, fun w24 hb24 hk24 => ⟨⟨⟨by omega, by omega⟩, ?_⟩, ?_⟩⟩
    · have := P23.ko hk24
      rwa [mapB_set (q := fun h => decide (h < x2 + 1)) j0 hlt (by simp; omega) (fun j _ _ hj => by simp; omega)] at this
    · show (H.length - (x2 + 1)).toNat < (H.length - x2).toNat
      omega
  -- the rounds
  refine ⟨fun ls w' => match ls with | [.int _ k] => (0 ≤ k ∧ k ≤ S.length) ∧ PSt S.length H.length w.heap.size m1 d6 d7 a8 m23 (mapB (doneB S k.toNat) S.length) (mapB (usedB (pairSt f H S k.toNat).2) H.length) (getsOf (pairSt f H S k.toNat).2 S.length) w' | _ => False, fun ls => match ls with | [.int _ k] => (S.length - k).toNat | _ => 0, fun w26 hb26 hk26 => ⟨⟨by omega, by omega⟩, ?_⟩, ?_⟩
  · have := P21.ko hk26
    have e1 : List.replicate S.length false = mapB (doneB S (0 : Int).toNat) S.length := mapB_rep fun i _ _ => by simp [doneB]
    have e2 : mapB (fun h => decide (h < x2)) H.length = mapB (usedB (pairSt f H S (0 : Int).toNat).2) H.length := mapB_congr fun i _ _ => by simp [usedB, pairSt]; omega
    have e3 : List.replicate S.length (-1) = getsOf (pairSt f H S (0 : Int).toNat).2 S.length := by
      refine List.ext_getElem (by simp [getsOf_len]) fun i h1 h2 => ?_
      simp [getsOf, pairSt]
    rw [e1, e2, e3] at this
    exact this
  rintro x3 w27 hb27 ⟨⟨k0, k1⟩, P27⟩
  refine ⟨fun hlt => ?_, fun hge3 w55 hb55 hk55 => ⟨a8, m23, rfl, hb55, ?_⟩⟩
  rotate_left
  · have P := P27.ko hk55
    have e : x3.toNat = S.length := by omega
    rw [e] at P
    exact rowE_lies P.g (Nat.le_refl _)
  have hk : x3.toNat < S.length := by omega
  -- the least shaft that is left
  refine ⟨fun ls w' => match ls with | [.int _ s, .int _ i] => (0 ≤ i ∧ i ≤ S.length) ∧ Best (fun s => s ∉ (sortIdx S).take x3.toNat) (fun s => S.getD s.toNat 0) i s ∧ PSt S.length H.length w.heap.size m1 d6 d7 a8 m23 (mapB (doneB S x3.toNat) S.length) (mapB (usedB (pairSt f H S x3.toNat).2) H.length) (getsOf (pairSt f H S x3.toNat).2 S.length) w' | _ => False, fun ls => match ls with | [_, .int _ i] => (S.length - i).toNat | _ => 0, fun w29 hb29 hk29 => ⟨⟨by omega, by omega⟩, Best.start, P27.ko hk29⟩, ?_⟩
  rintro x4 x5 w30 hb30 ⟨⟨i0', i1'⟩, B30, P30⟩
  refine ⟨fun hlt5 => ?_, fun hge5 => ?_⟩
  · have mu : (S.length - (x5 + 1)).toNat < (S.length - x5).toNat := by omega
    refine load_bl P30.d (by omega) fun o => ?_
    rw [mapB_at i0' hlt5]
    refine ⟨.inr (fun e => P30.m.1 e.symm), fun ht => ?_, fun ht => ⟨by omega, fun w34 hb34 hk34 => ⟨⟨⟨by omega, by omega⟩, B30.skip ?_, P30.ko hk34⟩, mu⟩⟩⟩
    rotate_left
    · simpa [doneB] using ht
    have hp : x5 ∉ (sortIdx S).take x3.toNat := by simpa [doneB] using ht
    refine ⟨fun hneg => ⟨by omega, fun w31 hb31 hk31 => ⟨⟨⟨by omega, by omega⟩, B30.first i0' hneg hp, P30.ko hk31⟩, mu⟩⟩, fun hpos => ?_⟩
    have hb4 := (B30.pos hpos).1
    refine load_int hS hb30 (by omega) fun m34 m35 hm => ⟨.inl hm, ?_⟩
    refine load_int hS hb30 (by omega) fun m36 m37 hm => ⟨.inl hm, ?_⟩
    exact ⟨fun hl => ⟨by omega, fun w32 hb32 hk32 => ⟨⟨⟨by omega, by omega⟩, B30.less i0' hpos hp hl, P30.ko hk32⟩, mu⟩⟩, fun hl => ⟨by omega, fun w33 hb33 hk33 => ⟨⟨⟨by omega, by omega⟩, B30.more hpos hl, P30.ko hk33⟩, mu⟩⟩⟩
  have e5 : x5 = S.length := by omega
  subst e5
  have hs := next_shaft hk B30
  have hsm : x4 ∈ sortIdx S := by
    have hl : x3.toNat < (sortIdx S).length := by rw [sortIdx_len]; exact hk
    rw [hs, List.getD_eq_getElem?_getD, getElem_of_lt hl]; exact List.getElem_mem _
  have hsr := sortIdx_mem hsm
  refine ⟨d6, 0, rfl, hsr, fun w35 hb35 hk35 => ?_⟩
  refine (P30.ko hk35).setD hb35.size hsr fun w36 P36 kx36 => ⟨kx36, ?_⟩
  have eD : (mapB (doneB S x3.toNat) S.length).set x4.toNat true = mapB (doneB S (x3.toNat + 1)) S.length := by
    have hl : x3.toNat < (sortIdx S).length := by rw [sortIdx_len]; exact hk
    have ht : (sortIdx S).take (x3.toNat + 1) = (sortIdx S).take x3.toNat ++ [x4] := by rw [take_succ_getD hl, ← hs]
    refine mapB_set hsr.1 hsr.2 ?_ fun j _ _ hj => ?_
    · simp [doneB, ht]
    · simp [doneB, ht, hj]
  rw [eD] at P36
  obtain ⟨inv1, inv2⟩ := pairSt_inv (f := f) (H := H) (S := S) (n := x3.toNat) (by omega)
  have hnew : ∀ p ∈ (pairSt f H S x3.toNat).2, p.1 ≠ x4 := fun p hp e => by
    have h1 := (inv2 p hp).1
    rw [e] at h1
    rcases B30 with ⟨h2, _⟩ | ⟨_, h2, _⟩
    · omega
    · exact h2 h1
  have hg4 : (getsOf (pairSt f H S x3.toNat).2 S.length).getD x4.toNat 0 = -1 := by
    rw [getsOf_at hsr.1 hsr.2]
    cases hq : (pairSt f H S x3.toNat).2.lookup x4 with
    | none => rfl
    | some v => exact absurd rfl (hnew _ (look_mem hq))
  have hgl : (getsOf (pairSt f H S x3.toNat).2 S.length).length = S.length := getsOf_len _ _
  have hset : (getsOf (pairSt f H S x3.toNat).2 S.length).set x4.toNat (-1) = getsOf (pairSt f H S x3.toNat).2 S.length := by
    refine List.ext_getElem (by simp) fun i h1 h2 => ?_
    rw [List.getElem_set]
    split
    · rename_i e
      subst e
      rw [List.getD_eq_getElem?_getD, getElem_of_lt (by omega)] at hg4
      exact hg4.symm
    · rfl
  have hN : ∀ x, _ := fun x => next_hole (f := f) (H := H) (S := S) (x := x) hk
  rw [← hs] at hN
  generalize hps : (pairSt f H S x3.toNat).2 = ps at *
  -- the least free hole that fits
  refine ⟨fun ls w' => match ls with | [.int _ j] => (0 ≤ j ∧ j ≤ H.length) ∧ ∃ x, Best (fun h => h ∉ ps.map (·.2) ∧ isF f (H.getD h.toNat 0) (S.getD x4.toNat 0)) (fun h => H.getD h.toNat 0) j x ∧ PSt S.length H.length w.heap.size m1 d6 d7 a8 m23 (mapB (doneB S (x3.toNat + 1)) S.length) (mapB (usedB ps) H.length) ((getsOf ps S.length).set x4.toNat x) w' | _ => False, fun ls => match ls with | [.int _ j] => (H.length - j).toNat | _ => 0, fun w38 hb38 hk38 => ⟨⟨by omega, by omega⟩, -1, Best.start, by rw [hset]; exact P36.ko hk38⟩, ?_⟩
  rintro x8 w39 hb39 ⟨⟨j0', j1'⟩, x, B39, P39⟩
  have hgx : ((getsOf ps S.length).set x4.toNat x).getD x4.toNat 0 = x := by
    rw [List.getD_eq_getElem?_getD, List.getElem?_set_self (by omega)]; rfl
  refine ⟨fun hlt8 => ?_, fun hge8 => ?_⟩
  · have mu : (H.length - (x8 + 1)).toNat < (H.length - x8).toNat := by omega
    refine load_bl P39.f (by omega) fun o => ?_
    rw [mapB_at j0' hlt8]
    refine ⟨.inr (fun e => P39.m.2.1 e.symm), fun ht => ?_, fun ht => ⟨by omega, fun w50 hb50 hk50 => ⟨⟨⟨by omega, by omega⟩, x, B39.skip fun h => ?_, P39.ko hk50⟩, mu⟩⟩⟩
    rotate_left
    · have : ¬ x8 ∉ ps.map (·.2) := of_decide_eq_false ht
      exact this h.1
    have hfr : x8 ∉ ps.map (·.2) := of_decide_eq_true ht
    refine load_int hH hb39 (by omega) fun m43 m44 hm => ⟨.inl hm, ?_⟩
    refine load_int hS hb39 (by omega) fun m45 m46 hm => ⟨.inl hm, fun w40 hb40 hk40 => ?_⟩
    have P40 := P39.kio hk40
    refine Pure.calls (rFits_any f _ _ (okSz_at zH) (okSz_at zS)) fun w41 hd41 => ⟨_, rfl, .all hd41, ?_, ?_⟩
    rotate_left
    · intro ht3
      have hnf := of_decide_eq_false ht3
      exact ⟨by omega, fun w49 hb49 hk49 => ⟨⟨⟨by omega, by omega⟩, x, B39.skip fun h => hnf h.2, (P40.bel hd41).ko hk49⟩, mu⟩⟩
    intro ht3
    have hfit := of_decide_eq_true ht3
    have P41 := P40.bel hd41
    have hb41 := Nat.le_trans hb40.size hd41.size
    refine P41.loadG hsr fun m48 o48 e48 n48 => ⟨.inr n48, ?_⟩
    rw [hgx]
    have pin : x8 ∉ ps.map (·.2) ∧ isF f (H.getD x8.toNat 0) (S.getD x4.toNat 0) := ⟨hfr, hfit⟩
    refine ⟨fun hneg => ?_, fun hpos => ?_⟩
    · obtain ⟨m, o, e, hr, K⟩ := P41.setG hb41 hsr (x := x8)
      refine ⟨m, o, e, hr, fun w42 hb42 hk42 => K w42 hk42 fun w43 P43 kx => ⟨kx, by omega, fun w44 hb44 hk44 => ⟨⟨⟨by omega, by omega⟩, x8, B39.first j0' hneg pin, ?_⟩, mu⟩⟩⟩
      have := P43.ko hk44
      rwa [List.set_set] at this
    · have hx8 := (B39.pos hpos).1
      have hbb : Below w.heap.size w w41 := hb40.trans (hd41.mono hb40.size)
      refine load_int hH hbb (by omega) fun m53 m54 hm => ⟨.inl hm, ?_⟩
      refine P41.loadG hsr fun m55 o55 e55 n55 => ⟨.inr n55, ?_⟩
      rw [hgx]
      refine load_int hH hbb (by omega) fun m57 m58 hm => ⟨.inl hm, fun hl => ?_, fun hl => ⟨by omega, fun w48 hb48 hk48 => ⟨⟨⟨by omega, by omega⟩, x, B39.more hpos hl, P41.ko hk48⟩, mu⟩⟩⟩
      obtain ⟨m, o, e, hr, K⟩ := P41.setG hb41 hsr (x := x8)
      refine ⟨m, o, e, hr, fun w42 hb42 hk42 => K w42 hk42 fun w43 P43 kx => ⟨kx, by omega, fun w44 hb44 hk44 => ⟨⟨⟨by omega, by omega⟩, x8, B39.less j0' hpos pin hl, ?_⟩, mu⟩⟩⟩
      have := P43.ko hk44
      rwa [List.set_set] at this
  · have e8 : x8 = H.length := by omega
    subst e8
    have hN := hN x B39
    have mu : (S.length - (x3 + 1)).toNat < (S.length - x3).toNat := by omega
    have ek : (x3 + 1).toNat = x3.toNat + 1 := by omega
    refine P39.loadG hsr fun m62 o62 e62 n62 => ⟨.inr n62, ?_⟩
    rw [hgx]
    refine ⟨fun hpos => ?_, fun hneg => ⟨by omega, fun w54 hb54 hk54 => ⟨⟨⟨by omega, by omega⟩, ?_⟩, mu⟩⟩⟩
    · refine P39.loadG hsr fun m64 o64 e64 n64 => ⟨.inr n64, ?_⟩
      rw [hgx]
      have hx := (B39.pos hpos).1
      rw [if_neg (by omega)] at hN
      refine ⟨d7, 0, rfl, hx, fun w51 hb51 hk51 => (P39.ko hk51).setF hb51.size hx fun w52 P52 kx => ⟨kx, by omega, fun w53 hb53 hk53 => ⟨⟨⟨by omega, by omega⟩, ?_⟩, mu⟩⟩⟩
      have := P52.ko hk53
      rw [ek, hN, getsOf_app hnew hsr.1 hsr.2]
      rwa [mapB_set (q := usedB (ps ++ [(x4, x)])) hx.1 hx.2 (by simp [usedB]) (fun j _ _ hj => by simp [usedB, hj])] at this
    · obtain ⟨rfl, _⟩ := B39.neg hneg
      rw [if_pos (by omega)] at hN
      have := P39.ko hk54
      rw [ek, hN]
      rwa [hset] at this
end Go.Proofs.R12
end
section
/- The reference's Lack, walked. -/
namespace Go.Proofs.R12
open Go.Vc Go.RowKit Go.Proofs

/-- Numbers of what is true. -/
theorem numbers_l {w : World} {d n c : Nat} {p : Int → Bool} (h : BoolsAt d n (mapB p n) w) (hn : n ≤ 1000) :
    Calls Try.prog 67 #[.slice (some ⟨d, 0, none⟩) n c] w fun e w' => ∃ a c, e = .returned (.slice a ((idxs n).filter p).length c) ∧ Below w.heap.size w w' ∧ Lies [] w.heap.size w'.heap.size w' a (ints ((idxs n).filter p)) := by
  refine vc67 _ _ _ w _ fun m1 g1 => ?_
  refine ⟨fun ls w' => match ls with | [.sl a k c, .int _ i] => (0 ≤ i ∧ i ≤ n) ∧ k = ((idxs i.toNat).filter p).length ∧ RowE 3 1 w.heap.size [] a k c (ints ((idxs i.toNat).filter p)) w' | _ => False, fun ls => match ls with | [_, .int _ i] => (n - i).toNat | _ => 0, fun w2 hb2 hk2 _ => ?_, ?_⟩
  · exact ⟨by omega, rfl, .inl ⟨⟨_, rfl⟩, rfl, rfl, rfl⟩⟩
  rintro a1 m3 m4 x1 w3 hb3 ⟨⟨i0, i1⟩, rfl, R3⟩
  have hd3 := h.out (S := []) (Chg.of_below hb3) (by simp)
  have z3 := hb3.size
  have mu : x1 < n → (n - (x1 + 1)).toNat < (n - x1).toNat := fun _ => by omega
  have hlen : ((idxs x1.toNat).filter p).length ≤ x1.toNat := Nat.le_trans (List.length_filter_le _ _) (by simp [idxs])
  have hsucc : (idxs (x1 + 1).toNat).filter p = (idxs x1.toNat).filter p ++ if p x1 then [x1] else [] := by
    rw [show (x1 + 1).toNat = x1.toNat + 1 by omega, idxs_succ, List.filter_append, show ((x1.toNat : Nat) : Int) = x1 by omega]
    congr 1
    by_cases hp : p x1 = true <;> simp [hp]
  refine ⟨fun hlt => ?_, fun hge w8 hb8 hk8 => ?_⟩
  rotate_left
  · have e : x1.toNat = n := by omega
    rw [e] at R3 ⊢
    exact ⟨_, _, rfl, hb8, rowE_lies (R3.chg (Chg.kept hk8) (by simp)) (Nat.le_refl _)⟩
  refine load_bl hd3 (by omega) fun o => ?_
  rw [mapB_at i0 hlt]
  refine ⟨fun hp m7 g7 w4 hb4 hk4 hc4 => ?_, fun hp => ⟨by omega, fun w7 hb7 hk7 => ⟨⟨by omega, ?_, ?_⟩, mu hlt⟩⟩⟩
  · have z4 := hk4.size
    have R4 := (R3.grow (ms := [m7]) (allc g7 all0)).chg (Chg.kept hk4) (by simp)
    refine append_rowE (P := Try.prog) (bytes := 8) (by kernel_rfl) (by omega) R4 (m := 1) (news := [_]) (Cells.obj (vs := [_]) hc4) rfl (List.forall_mem_cons.2 ⟨rfl, by simp⟩) (by omega) (by omega) (by omega) hk4.own (by omega) fun a9 c9 w5 R5 T c5 hT => ?_
    refine ⟨_, _, _, rfl, c5.own (fun x hx => ⟨hk4.own x hx, fun h => (hT x h).2 (by simpa using hx)⟩) (by simp) (fun _ => ⟨by omega, fun x hx => (hT x hx).1⟩), by omega, fun w6 hb6 hk6 => ⟨⟨by omega, ?_, ?_⟩, mu hlt⟩⟩
    · rw [hsucc, if_pos hp, List.length_append]; rfl
    · rw [hsucc, if_pos hp, ints_append]
      exact (RowE.chg (.inr R5) (Chg.kept hk6) (by simp)).less (by simp)
  · rw [hsucc, if_neg (by rw [hp]; simp), List.append_nil]
  · rw [hsucc, if_neg (by rw [hp]; simp), List.append_nil]
    exact R3.chg (Chg.kept hk7) (by simp)

/-- How many are not yet true. -/
def cnt (p : Int → Bool) (n : Nat) : Nat := ((idxs n).filter fun x => !p x).length
def setI (p : Int → Bool) (i : Int) : Int → Bool := fun x => p x || decide (x = i)
theorem setI_self {p : Int → Bool} {i : Int} : setI p i i = true := by simp [setI]
theorem setI_ne {p : Int → Bool} {i j : Int} (h : j ≠ i) : setI p i j = p j := by simp [setI, h]
theorem mapB_setI {p : Int → Bool} {n : Nat} {i : Int} (h0 : 0 ≤ i) (h1 : i < n) : (mapB p n).set i.toNat true = mapB (setI p i) n := mapB_set h0 h1 setI_self fun _ _ _ hj => setI_ne hj
theorem cnt_set {p : Int → Bool} {n : Nat} {i : Int} (h0 : 0 ≤ i) (h1 : i < n) (hp : p i = false) : cnt (setI p i) n < cnt p n := by
  unfold cnt
  have hm : i ∈ (idxs n).filter fun x => !p x := List.mem_filter.2 ⟨idxs_in h0 h1, by simp [hp]⟩
  have e : ((idxs n).filter fun x => !setI p i x) = ((idxs n).filter fun x => !p x).filter fun x => !decide (x = i) := by
    rw [List.filter_filter]
    refine List.filter_congr fun x _ => ?_
    simp [setI, Bool.and_comm]
  rw [e]
  rcases Nat.lt_or_ge (((idxs n).filter fun x => !p x).filter fun x => !decide (x = i)).length ((idxs n).filter fun x => !p x).length with h | h
  · exact h
  · have := List.filter_sublist.eq_of_length_le h
    rw [List.filter_eq_self] at this
    have := this i hm
    simp at this

section
variable {f : Fit} {H S : List Int} {ps : List (Int × Int)}
/-- What a pass has not changed up to shaft k. -/
def ClosedS (f : Fit) (H S : List Int) (ps : List (Int × Int)) (sp hp : Int → Bool) (s : Int) : Prop :=
  ((ps.lookup s = none ∨ ∃ h, ps.lookup s = some h ∧ hp h = true) → sp s = true) ∧ (sp s = true → ∀ h : Int, 0 ≤ h → h < H.length → fitsX f H S s h → hp h = true)
structure LSt (f : Fit) (H S : List Int) (ps : List (Int × Int)) (b m1 d5 d6 : Nat) (sp hp : Int → Bool) (w : World) : Prop where
  s : BoolsAt d5 S.length (mapB sp S.length) w
  h : BoolsAt d6 H.length (mapB hp H.length) w
  n : d5 ≠ d6 ∧ m1 ≠ d5 ∧ m1 ≠ d6 ∧ m1 < w.heap.size
  lo : b ≤ m1 ∧ b ≤ d5 ∧ b ≤ d6
  ss : ∀ s : Int, 0 ≤ s → s < S.length → sp s = true → Short f H S ps s
  hh : ∀ h : Int, 0 ≤ h → h < H.length → hp h = true → FitS f H S ps h
variable {b m1 d5 d6 : Nat} {sp hp : Int → Bool} {w w' : World}
theorem LSt.chg {T : List Nat} (h : LSt f H S ps b m1 d5 d6 sp hp w) (hc : Chg T w w') (hT : d5 ∉ T ∧ d6 ∉ T) : LSt f H S ps b m1 d5 d6 sp hp w' :=
  ⟨h.s.out hc hT.1, h.h.out hc hT.2, ⟨h.n.1, h.n.2.1, h.n.2.2.1, by have := hc.size; have := h.n.2.2.2; omega⟩, h.lo, h.ss, h.hh⟩
theorem LSt.ko (h : LSt f H S ps b m1 d5 d6 sp hp w) (hk : Kept [m1] w w') : LSt f H S ps b m1 d5 d6 sp hp w' := h.chg (Chg.kept hk) (by simp; exact ⟨fun e => h.n.2.1 e.symm, fun e => h.n.2.2.1 e.symm⟩)
theorem LSt.bel (h : LSt f H S ps b m1 d5 d6 sp hp w) (hb : Below w.heap.size w w') : LSt f H S ps b m1 d5 d6 sp hp w' := h.chg (T := []) (Chg.of_below hb) (by simp)
theorem LSt.kio {rs : List (Nat × Nat)} (h : LSt f H S ps b m1 d5 d6 sp hp w) (hk : KeptIn ((0, w.heap.size) :: rs) [m1] w w') : LSt f H S ps b m1 d5 d6 sp hp w' := h.chg hk.chg (by simp; exact ⟨fun e => h.n.2.1 e.symm, fun e => h.n.2.2.1 e.symm⟩)
theorem LSt.kx {T : List Nat} (h : LSt f H S ps b m1 d5 d6 sp hp w) (hc : Chg T w w') (hT : ∀ x ∈ T, b ≤ x ∧ x ≠ m1) (hb : b ≤ w.heap.size) : KeepX true b [m1] (fun _ => False) w w' :=
  hc.own (fun x hx => by simp at hx; subst hx; exact ⟨h.n.2.2.2, fun hm => (hT _ hm).2 rfl⟩) (by simp) fun _ => ⟨hb, fun x hx => (hT x hx).1⟩
theorem LSt.setS (h : LSt f H S ps b m1 d5 d6 sp hp w) (hb : b ≤ w.heap.size) {i : Int} (hi : 0 ≤ i ∧ i < (S.length : Int)) (hs : Short f H S ps i) {R : Value → World → Prop} (hR : ∀ w', LSt f H S ps b m1 d5 d6 (setI sp i) hp w' → KeepX true b [m1] (fun _ => False) w w' → R (.tuple #[]) w') :
    RunsTo Try.prog ((Instr.storeAt 4 (.pointer (some ⟨d5, 0 + i.toNat * 1, none⟩)) (.bool true)) >>= fun _ => pure (Value.tuple #[])) w R :=
  store_bl h.s hi fun w' h1 hc => hR w' ⟨by rw [← mapB_setI hi.1 hi.2]; exact h1, h.h.out hc (by simp; exact fun e => h.n.1 e.symm), ⟨h.n.1, h.n.2.1, h.n.2.2.1, by have := hc.size; have := h.n.2.2.2; omega⟩, h.lo, fun s h0 h1 hp => by
      by_cases e : s = i
      · subst e; exact hs
      · rw [setI_ne e] at hp; exact h.ss s h0 h1 hp, h.hh⟩ (h.kx hc (by simp; exact ⟨h.lo.2.1, fun e => h.n.2.1 e.symm⟩) hb)
theorem LSt.setH (h : LSt f H S ps b m1 d5 d6 sp hp w) (hb : b ≤ w.heap.size) {i : Int} (hi : 0 ≤ i ∧ i < (H.length : Int)) (hs : FitS f H S ps i) {R : Value → World → Prop} (hR : ∀ w', LSt f H S ps b m1 d5 d6 sp (setI hp i) w' → KeepX true b [m1] (fun _ => False) w w' → R (.tuple #[]) w') :
    RunsTo Try.prog ((Instr.storeAt 4 (.pointer (some ⟨d6, 0 + i.toNat * 1, none⟩)) (.bool true)) >>= fun _ => pure (Value.tuple #[])) w R :=
  store_bl h.h hi fun w' h1 hc => hR w' ⟨h.s.out hc (by simp; exact h.n.1), by rw [← mapB_setI hi.1 hi.2]; exact h1, ⟨h.n.1, h.n.2.1, h.n.2.2.1, by have := hc.size; have := h.n.2.2.2; omega⟩, h.lo, h.ss, fun s h0 h1 hp => by
      by_cases e : s = i
      · subst e; exact hs
      · rw [setI_ne e] at hp; exact h.hh s h0 h1 hp⟩ (h.kx hc (by simp; exact ⟨h.lo.2.2, fun e => h.n.2.2.1 e.symm⟩) hb)
theorem LSt.all (h : LSt f H S ps b m1 d5 d6 sp hp w) (hps : PsOk ps S.length H.length) (hc : ∀ s : Int, 0 ≤ s → s < S.length → ClosedS f H S ps sp hp s) :
    (∀ s : Int, 0 ≤ s → s < S.length → (sp s = true ↔ Short f H S ps s)) ∧ (∀ k : Int, 0 ≤ k → k < H.length → (hp k = true ↔ FitS f H S ps k)) := by
  have hS : ∀ s, Short f H S ps s → sp s = true := fun s hs => by
    induction hs with
    | free h0 h1 hl => exact (hc _ h0 h1).1 (.inl hl)
    | @next s k s' hs h0 h1 hf hm ih =>
      have hin := hs.in hps
      have hk := (hc s hin.1 hin.2).2 ih k h0 h1 hf
      have hr := hps.r _ hm
      refine (hc s' hr.1.1 hr.1.2).1 (.inr ⟨k, ?_, hk⟩)
      cases hq : ps.lookup s' with
      | none => exact absurd rfl (look_mem_none hq _ hm)
      | some v =>
        have := look_mem hq
        have e : (s', v) = (s', k) := by
          have hnd := hps.nf
          obtain ⟨i, hi, ei⟩ := List.getElem_of_mem this
          obtain ⟨j, hj, ej⟩ := List.getElem_of_mem hm
          have hij : i = j := (List.getElem_inj (h₀ := by simpa using hi) (h₁ := by simpa using hj) hnd).1 (by simp [ei, ej])
          subst hij
          rw [← ei, ← ej]
        injection e with _ e
        rw [e]
  refine ⟨fun s h0 h1 => ⟨h.ss s h0 h1, hS s⟩, fun k h0 h1 => ⟨h.hh k h0 h1, fun ⟨_, s, hs, hf⟩ => ?_⟩⟩
  have hin := hs.in hps
  exact (hc s hin.1 hin.2).2 (hS s hs) k h0 h1 hf
end

set_option maxRecDepth 100000 in
set_option maxHeartbeats 1000000 in
theorem rLack_l {w : World} (f : Fit) {H S : List Int} {aH aS aG : Option Addr} {cH cS cG : Nat} (hH : Cells w aH (ints H)) (hS : Cells w aS (ints S)) (hG : Cells w aG (ints (getsOf (pairK f H S) S.length))) (zH : okSz H) (zS : okSz S) (lH : H.length ≤ 1000) (lS : S.length ≤ 1000) :
    Calls Try.prog 35 #[f.v, .slice aH H.length cH, .slice aS S.length cS, .slice aG S.length cG] w fun e w' => ∃ a c a' c', e = .returned (.tuple #[.slice a (shortL f H S).length c, .slice a' (fitL f H S).length c']) ∧ Below w.heap.size w w' ∧ Lies [] w.heap.size w'.heap.size w' a (ints (shortL f H S)) ∧ Lies [] w.heap.size w'.heap.size w' a' (ints (fitL f H S)) := by
  have hok := pairK_ok f H S
  have hshort : ∀ {sp : Int → Bool}, (∀ s : Int, 0 ≤ s → s < S.length → (sp s = true ↔ Short f H S (pairK f H S) s)) → (idxs S.length).filter sp = shortL f H S := fun h => by
    unfold shortL
    refine List.filter_congr fun x hx => ?_
    have := idxs_mem hx
    rw [Bool.eq_iff_iff, h x this.1 this.2]; simp
  have hfit : ∀ {hp : Int → Bool}, (∀ k : Int, 0 ≤ k → k < H.length → (hp k = true ↔ FitS f H S (pairK f H S) k)) → (idxs H.length).filter hp = fitL f H S := fun h => by
    unfold fitL
    refine List.filter_congr fun x hx => ?_
    have := idxs_mem hx
    rw [Bool.eq_iff_iff, h x this.1 this.2]; simp
  generalize shortL f H S = LS at *
  generalize fitL f H S = LF at *
  generalize hpsE : pairK f H S = ps at *
  clear hpsE
  refine vc35 _ _ _ _ _ _ _ _ _ _ _ _ _ _ _ w _ fun m1 g1 => ?_
  refine ⟨fun ls w' => match ls with | [.sl a5 n5 _, .sl a6 n6 _] => ∃ d5 d6, a5 = some ⟨d5, 0, none⟩ ∧ n5 = S.length ∧ a6 = some ⟨d6, 0, none⟩ ∧ n6 = H.length ∧ LSt f H S ps w.heap.size m1 d5 d6 (fun _ => false) (fun _ => false) w' | _ => False, ⟨fun w2 hb2 hk2 => ?_, fun w2 hb2 hk2 => ?_⟩, ?_⟩
  · have o2 := hk2.own m1 (by simp)
    have z2 := hb2.size
    refine mk_bools (by omega) (by omega) fun w3 hb3 B3 => ⟨_, _, _, rfl, .all hb3, fun w4 hb4 hk4 => ?_⟩
    have z3 := hb3.size; have z4 := hk4.size
    have e6 := B3.lt
    have B4 := B3.same (kin_same hk4 (lo := 0) (hi := w3.heap.size) (by simp) ⟨Nat.zero_le _, e6⟩ e6 (by simp; omega))
    refine mk_bools (by omega) (by omega) fun w5 hb5 B5 => ⟨_, _, _, rfl, .all hb5, fun w6 hb6 hk6 => ?_⟩
    have e7 := B5.lt; have z5 := hb5.size; have z6 := hk6.size
    have B4' := (B4.same (hb5.block _ (by omega))).same (kept_same hk6 (by omega) (by simp; omega))
    have B5' := B5.same (kept_same hk6 e7 (by simp; omega))
    refine ⟨_, _, rfl, by simp, rfl, by simp, ?_, ?_, ⟨by omega, by omega, by omega, by omega⟩, ⟨g1, by omega, by omega⟩, fun _ _ _ h => (by cases h), fun _ _ _ h => (by cases h)⟩
    · rw [← mapB_rep (b := false) fun _ _ _ => rfl]; simpa using B4'
    · rw [← mapB_rep (b := false) fun _ _ _ => rfl]; simpa using B5'
  · have o2 := hk2.own m1 (by simp)
    have z2 := hb2.size
    refine mk_bools (by omega) (by omega) fun w3 hb3 B3 => ⟨_, _, _, rfl, .all hb3, fun w4 hb4 hk4 => ?_⟩
    have z3 := hb3.size; have z4 := hk4.size
    have e6 := B3.lt
    have B4 := B3.same (kin_same hk4 (lo := 0) (hi := w3.heap.size) (by simp) ⟨Nat.zero_le _, e6⟩ e6 (by simp; omega))
    refine mk_bools (by omega) (by omega) fun w5 hb5 B5 => ⟨_, _, _, rfl, .all hb5, fun w6 hb6 hk6 => ?_⟩
    have e7 := B5.lt; have z5 := hb5.size; have z6 := hk6.size
    have B4' := (B4.same (hb5.block _ (by omega))).same (kept_same hk6 (by omega) (by simp; omega))
    have B5' := B5.same (kept_same hk6 e7 (by simp; omega))
    refine ⟨_, _, rfl, by simp, rfl, by simp, ?_, ?_, ⟨by omega, by omega, by omega, by omega⟩, ⟨g1, by omega, by omega⟩, fun _ _ _ h => (by cases h), fun _ _ _ h => (by cases h)⟩
    · rw [← mapB_rep (b := false) fun _ _ _ => rfl]; simpa using B5'
    · rw [← mapB_rep (b := false) fun _ _ _ => rfl]; simpa using B4'
  rintro a5 m14 m15 a6 m16 m17 w12 hb12 ⟨d5, d6, rfl, rfl, rfl, rfl, L12⟩
  refine ⟨fun N ls w' => match ls with | [.bool t] => ∃ sp hp, LSt f H S ps w.heap.size m1 d5 d6 sp hp w' ∧ N = cnt sp S.length + cnt hp H.length + (if t then 1 else 0) ∧ (t = false → ∀ s : Int, 0 ≤ s → s < S.length → ClosedS f H S ps sp hp s) | _ => False, fun w14 hb14 hk14 => ⟨_, _, _, L12.ko hk14, rfl, fun h => by cases h⟩, ?_⟩
  rintro N t1 w15 hb15 ⟨sp0, hp0, L15, rfl, hcl⟩
  refine ⟨fun ht => ?_, fun ht w43 hb43 hk43 => ?_⟩
  rotate_left
  · have hA := L15.all hok (hcl ht)
    have L43 := L15.ko hk43
    refine (numbers_l L43.s lS).mono fun e w44 he => ?_
    obtain ⟨a7, c7, rfl, hb44, Q7⟩ := he
    refine ⟨_, _, _, rfl, .all hb44, fun w45 hb45 hk45 => ?_⟩
    have L45 := (L43.bel hb44).ko hk45
    refine (numbers_l L45.h lH).mono fun e w46 he => ?_
    obtain ⟨a8, c8, rfl, hb46, Q8⟩ := he
    refine ⟨_, _, _, rfl, .all hb46, fun w47 hb47 hk47 => ?_⟩
    have e1 := hshort hA.1
    have e2 := hfit hA.2
    rw [e1] at Q7 ⊢
    rw [e2] at Q8 ⊢
    have s43 := hb43.size; have s44 := hb44.size; have s45 := hk45.size; have s46 := hb46.size; have s47 := hk47.size
    have om := L15.n.2.2.2
    have s15 := hk43.size
    refine ⟨a7, c7, a8, c8, rfl, hb47, ?_, ?_⟩
    · intro i v hi
      obtain ⟨bb, o, e, ⟨_, q1, q2⟩, hc⟩ := Q7 i v hi
      refine ⟨bb, o, e, ⟨by simp, by omega, by omega⟩, ?_⟩
      have c1 := (Chg.kept hk45).cell (b := bb) (by simp; omega) hc
      have c2 := (Chg.of_below (S := []) hb46).cell (b := bb) (by simp) c1
      exact (Chg.kept hk47).cell (b := bb) (by simp; omega) c2
    · intro i v hi
      obtain ⟨bb, o, e, ⟨_, q1, q2⟩, hc⟩ := Q8 i v hi
      refine ⟨bb, o, e, ⟨by simp, by omega, by omega⟩, ?_⟩
      exact (Chg.kept hk47).cell (b := bb) (by simp; omega) hc
  subst ht
  -- one pass
  refine ⟨fun M ls w' => match ls with | [.bool t, .int _ i] => (0 ≤ i ∧ i ≤ S.length) ∧ M = (S.length - i).toNat ∧ ∃ sp hp, LSt f H S ps w.heap.size m1 d5 d6 sp hp w' ∧ cnt sp S.length + cnt hp H.length + (if t then 1 else 0) ≤ cnt sp0 S.length + cnt hp0 H.length ∧ (t = false → ∀ s : Int, 0 ≤ s → s < i → ClosedS f H S ps sp hp s) | _ => False, fun w17 hb17 hk17 => ⟨_, by omega, rfl, sp0, hp0, L15.ko hk17, by simp, fun _ s h0 h1 => by omega⟩, ?_⟩
  rintro M t2 x1 w18 hb18 ⟨⟨i0, i1⟩, rfl, sp, hp, L18, hm, hcl2⟩
  refine ⟨fun hlt => ?_, fun hge w42 hb42 hk42 => ⟨_, ?_, sp, hp, L18.ko hk42, rfl, fun ht s h0 h1 => hcl2 ht s h0 (by omega)⟩⟩
  rotate_left
  · simp only [if_true]; omega
  have gval : (getsOf ps S.length).getD x1.toNat 0 = (ps.lookup x1).getD (-1) := getsOf_at i0 hlt
  have glen := getsOf_len ps S.length
  have nm1 := fun e => L18.n.2.1 (Eq.symm e)
  have nm2 := fun e => L18.n.2.2.1 (Eq.symm e)
  refine ⟨fun ls w' => match ls with | [.bool t] => LSt f H S ps w.heap.size m1 d5 d6 sp hp w' ∧ (t = true ↔ sp x1 = false ∧ (ps.lookup x1 = none ∨ ∃ h, ps.lookup x1 = some h ∧ hp h = true)) | _ => False, ?_, ?_⟩
  · refine load_bl L18.s (by omega) fun o => ?_
    rw [mapB_at i0 hlt]
    refine ⟨.inr nm1, fun ht => ?_, fun ht w22 hb22 hk22 => ⟨L18.ko hk22, by simp at ht; simp [ht]⟩⟩
    have hsp : sp x1 = false := by simpa using ht
    have hg1 : ∀ {X : Nat → Nat → Int → Prop}, (∀ m o, m < w.heap.size → X m o ((ps.lookup x1).getD (-1))) → ∃ m o, aG = some ⟨m, o, none⟩ ∧ (0 ≤ x1 ∧ x1 < (S.length : Int)) ∧ ∃ x, w18.cell? ⟨m, o + x1.toNat * 1, none⟩ = some (I x) ∧ X m o x := fun {X} k => by
      have := load_int (X := X) hG hb18 (i := x1) (by omega) fun m o hm => by rw [gval]; exact k m o hm
      rwa [glen] at this
    refine hg1 fun m o hm => ⟨.inl hm, fun hneg w20 hb20 hk20 => ⟨L18.ko hk20, ?_⟩, fun hpos => ?_⟩
    · simp only [hsp, true_and, true_iff]
      cases hq : ps.lookup x1 with
      | none => exact .inl rfl
      | some v =>
        rw [hq] at hneg
        have := (hok.r _ (look_mem hq)).2.1
        simp at hneg; omega
    · refine hg1 fun m' o' hm' => ⟨.inl hm', ?_⟩
      cases hq : ps.lookup x1 with
      | none => rw [hq] at hpos; simp at hpos
      | some v =>
        simp only [Option.getD_some]
        have hr := (hok.r _ (look_mem hq)).2
        refine load_bl L18.h (by simpa using hr) fun o => ?_
        rw [mapB_at hr.1 hr.2]
        exact ⟨.inr nm2, fun w21 hb21 hk21 => ⟨L18.ko hk21, by simp [hsp]⟩⟩
  rintro t5 w23 hb23 ⟨L23, ht5⟩
  refine ⟨fun ls w' => match ls with | [.bool t] => ∃ sp', LSt f H S ps w.heap.size m1 d5 d6 sp' hp w' ∧ cnt sp' S.length + cnt hp H.length + (if t then 1 else 0) ≤ cnt sp0 S.length + cnt hp0 H.length ∧ (t = false → sp' = sp ∧ ((ps.lookup x1 = none ∨ ∃ h, ps.lookup x1 = some h ∧ hp h = true) → sp x1 = true) ∧ ∀ s : Int, 0 ≤ s → s < x1 → ClosedS f H S ps sp hp s) | _ => False, ⟨fun ht => ?_, fun ht w28 hb28 hk28 => ?_⟩, ?_⟩
  · obtain ⟨hsp, hq⟩ := ht5.1 ht
    have hSh : Short f H S ps x1 := by
      rcases hq with hq | ⟨h, hq, hh⟩
      · exact .free i0 hlt hq
      · have hr := (hok.r _ (look_mem hq)).2
        obtain ⟨_, s, hs, hf⟩ := L23.hh h hr.1 hr.2 hh
        exact .next hs hr.1 hr.2 hf (look_mem hq)
    refine ⟨d5, 0, rfl, by omega, fun w25 hb25 hk25 => (L23.ko hk25).setS hb25.size (by omega) hSh fun w26 L26 kx => ⟨kx, fun w27 hb27 hk27 => ⟨_, L26.ko hk27, ?_, fun h => by cases h⟩⟩⟩
    have := cnt_set i0 hlt hsp
    simp only [if_true]
    split at hm <;> omega
  · refine ⟨sp, L23.ko hk28, hm, fun h => ⟨rfl, fun hq => ?_, hcl2 h⟩⟩
    rw [ht] at ht5
    cases hsp : sp x1
    · exact absurd (ht5.2 ⟨hsp, hq⟩) (by simp)
    · rfl
  rintro t6 w29 hb29 ⟨sp', L29, hm6, hcl6⟩
  refine ⟨fun M ls w' => match ls with | [.bool t, .int _ j] => (0 ≤ j ∧ j ≤ H.length) ∧ M = (H.length - j).toNat ∧ ∃ hp', LSt f H S ps w.heap.size m1 d5 d6 sp' hp' w' ∧ cnt sp' S.length + cnt hp' H.length + (if t then 1 else 0) ≤ cnt sp0 S.length + cnt hp0 H.length ∧ (t = false → t6 = false ∧ hp' = hp ∧ (sp' x1 = true → ∀ h : Int, 0 ≤ h → h < j → fitsX f H S x1 h → hp h = true)) | _ => False, fun w31 hb31 hk31 => ⟨_, by omega, rfl, hp, L29.ko hk31, hm6, fun h => ⟨h, rfl, fun _ _ _ _ => by omega⟩⟩, ?_⟩
  rintro M t7 x4 w32 hb32 ⟨⟨j0, j1⟩, rfl, hp', L32, hm7, hcl7⟩
  have hnext : ∀ {t : Bool}, (t = false → t6 = false ∧ hp' = hp ∧ (sp' x1 = true → ∀ h : Int, 0 ≤ h → h < x4 → fitsX f H S x1 h → hp h = true)) → (sp' x1 = true → fitsX f H S x1 x4 → hp' x4 = true) → (t = false → t6 = false ∧ hp' = hp ∧ (sp' x1 = true → ∀ h : Int, 0 ≤ h → h < x4 + 1 → fitsX f H S x1 h → hp h = true)) := fun h1 h2 ht => by
    obtain ⟨e1, e2, e3⟩ := h1 ht
    refine ⟨e1, e2, fun hs h g0 g1 g2 => ?_⟩
    by_cases e : h = x4
    · subst e; rw [← e2]; exact h2 hs g2
    · exact e3 hs h g0 (by omega) g2
  refine ⟨fun hlt4 => ?_, fun hge4 => ⟨by omega, fun w41 hb41 hk41 => ⟨_, ?_, by omega, rfl, sp', hp', L32.ko hk41, hm7, fun ht s h0 h1 => ?_⟩⟩⟩
  rotate_left
  · omega
  · obtain ⟨e1, e2, e3⟩ := hcl7 ht
    obtain ⟨e4, e5, e6⟩ := hcl6 e1
    subst e2 e4
    by_cases e : s = x1
    · subst e
      exact ⟨e5, fun hs h g0 g1 g2 => e3 hs h g0 (by omega) g2⟩
    · exact e6 s h0 (by omega)
  have mu : (H.length - (x4 + 1)).toNat < (H.length - x4).toNat := by omega
  refine load_bl L32.s (by omega) fun o => ?_
  rw [mapB_at i0 hlt]
  refine ⟨.inr nm1, fun ht8 => ?_, fun ht8 => ⟨by omega, fun w40 hb40 hk40 => ⟨_, mu, by omega, rfl, hp', L32.ko hk40, hm7, hnext hcl7 fun h => by rw [ht8] at h; cases h⟩⟩⟩
  refine load_bl L32.h (by omega) fun o => ?_
  rw [mapB_at j0 hlt4]
  refine ⟨.inr nm2, fun ht9 => ?_, fun ht9 => ⟨by omega, fun w39 hb39 hk39 => ⟨_, mu, by omega, rfl, hp', L32.ko hk39, hm7, hnext hcl7 fun _ _ => by simpa using ht9⟩⟩⟩
  have hp4 : hp' x4 = false := by simpa using ht9
  refine load_int hH hb32 (by omega) fun m42 m43 hm => ⟨.inl hm, ?_⟩
  refine load_int hS hb32 (by omega) fun m44 m45 hm => ⟨.inl hm, fun w33 hb33 hk33 => ?_⟩
  have L33 := L32.kio hk33
  refine Pure.calls (rFits_any f _ _ (okSz_at zH) (okSz_at zS)) fun w34 hd34 => ⟨_, rfl, .all hd34, fun ht => ?_, fun ht => ⟨by omega, fun w38 hb38 hk38 => ⟨_, mu, by omega, rfl, hp', (L33.bel hd34).ko hk38, hm7, hnext hcl7 fun _ hf => absurd hf (of_decide_eq_false ht)⟩⟩⟩
  have hff : fitsX f H S x1 x4 := of_decide_eq_true ht
  have hSx := L32.ss x1 i0 hlt ht8
  refine ⟨d6, 0, rfl, by omega, fun w35 hb35 hk35 => ((L33.bel hd34).ko hk35).setH hb35.size (by omega) ⟨by omega, x1, hSx, hff⟩ fun w36 L36 kx => ⟨kx, by omega, fun w37 hb37 hk37 => ⟨_, mu, by omega, rfl, _, L36.ko hk37, ?_, fun h => by cases h⟩⟩⟩
  have := cnt_set j0 hlt4 hp4
  simp only [if_true]
  split at hm7 <;> omega
end Go.Proofs.R12
end
section
/- The reference's Box, walked. -/
namespace Go.Proofs.R12
open Go.Vc Go.RowKit Go.Proofs
theorem not_okSz {l : List Int} {i : Int} (h : 0 ≤ i ∧ i < (l.length : Int)) (hn : ¬ (0 ≤ l.getD i.toNat 0 ∧ l.getD i.toNat 0 ≤ 1000000)) : ¬ okSz l := fun hz => hn (hz _ (getD_mem' (by omega)))
def SzTo (l : List Int) (i : Int) : Prop := ∀ j : Nat, (j : Int) < i → 0 ≤ l.getD j 0 ∧ l.getD j 0 ≤ 1000000
theorem SzTo.all {l : List Int} {i : Int} (h : SzTo l i) (hi : (l.length : Int) ≤ i) : okSz l := fun x hx => by
  obtain ⟨j, hj, e⟩ := mem_idx hx
  rw [← e]; exact h j (by omega)
theorem SzTo.next {l : List Int} {i : Int} (h : SzTo l i) (h0 : 0 ≤ i) (hi : 0 ≤ l.getD i.toNat 0 ∧ l.getD i.toNat 0 ≤ 1000000) : SzTo l (i + 1) := fun j hj => by
  by_cases e : (j : Int) = i
  · have : j = i.toNat := by omega
    rw [this]; exact hi
  · exact h j (by omega)
theorem nd {p : Prop} [Decidable p] (h : (!decide p) = true) : ¬ p := by simpa using h
theorem yd {p : Prop} [Decidable p] (h : (!decide p) = false) : p := by simpa using h
set_option maxRecDepth 100000 in
theorem rBox_any {w : World} {W : Wk} {pa fa : Option Addr} {pc fc : Nat} {n : Int} {H S : List Int} {aH aS : Option Addr} {cH cS : Nat} (hp : CellsS w pa W.pats) (hf : Cells w fa (fitsV W.fits)) (hW : Small W) (hh : Cells w aH (ints H)) (hs : Cells w aS (ints S)) (lH : H.length ≤ 1000) (lS : S.length ≤ 1000) :
    Calls Try.prog 33 #[W.v pa pc fa fc, I n, .slice aH H.length cH, .slice aS S.length cS] w (Pure w (I (boxE W n H S))) := by
  have hfl := hW.m
  refine vc33 _ _ _ _ _ _ _ _ _ _ _ _ _ w _ fun m1 g1 w1 hb1 hk1 => ?_
  refine Pure.calls (rWorks_any (hp.keep hb1) (hf.keep hb1) hW) fun w2 hd2 => ⟨_, rfl, .all hd2, fun h1 w3 hb3 _ => ?_, fun h1 => ?_⟩
  · have : ¬ OkW W := nd h1
    exact ⟨by rw [boxE, if_pos this], hb3⟩
  have hO : OkW W := yd h1
  refine ⟨by omega, fun w4 hb4 hk4 => ?_⟩
  refine Pure.calls (rIn_any _ _ _) fun w5 hd5 => ⟨_, rfl, .all hd5, fun h2 w6 hb6 _ => ?_, fun h2 => ?_⟩
  · have := nd h2
    exact ⟨by rw [boxE, if_neg (not_not_intro hO), if_pos (by omega)], hb6⟩
  have hn : 0 ≤ n ∧ n < W.fits.length := by
    have := yd h2
    omega
  have eB : boxE W n H S = if 200 < H.length ∨ 200 < S.length then 5 else if ¬ (okSz H ∧ okSz S) then 3 else 0 := by rw [boxE, if_neg (not_not_intro hO), if_neg (not_not_intro hn)]
  rw [eB]
  refine ⟨fun h3 w7 hb7 _ => ⟨by rw [if_pos (by omega)], hb7⟩, fun h3 => ⟨fun h4 w8 hb8 _ => ⟨by rw [if_pos (by omega)], hb8⟩, fun h4 => ?_⟩⟩
  rw [if_neg (by omega)]
  have z1 := hb1.size; have z2 := hd2.size
  refine ⟨fun ls w' => match ls with | [_, .int _ i] => (0 ≤ i ∧ i ≤ H.length) ∧ SzTo H i | _ => False, fun ls => match ls with | [_, .int _ i] => (H.length - i).toNat | _ => 0, fun w10 hb10 hk10 => ⟨⟨by omega, by omega⟩, fun j hj => by omega⟩, ?_⟩
  rintro x1 x2 w11 hb11 ⟨⟨i0, i1⟩, q1⟩
  refine ⟨fun hlt => ?_, fun hge => ?_⟩
  · refine load_int hh hb11 (by omega) fun m4 m5 hm => ⟨.inl hm, fun w12 hb12 hk12 => ?_⟩
    refine Pure.calls (rIn_any _ _ _) fun w13 hd13 => ⟨_, rfl, .all hd13, fun h5 w14 hb14 _ => ?_, fun h5 => ⟨by omega, fun w15 hb15 _ => ⟨⟨⟨by omega, by omega⟩, q1.next i0 (yd h5)⟩, by show (H.length - (x2 + 1)).toNat < (H.length - x2).toNat; omega⟩⟩⟩
    have hno : ¬ okSz H := not_okSz (i := x2) (by omega) (nd h5)
    exact ⟨by rw [if_pos (fun h => hno h.1)], hb14⟩
  refine ⟨fun ls w' => match ls with | [_, .int _ i] => (0 ≤ i ∧ i ≤ S.length) ∧ SzTo S i | _ => False, fun ls => match ls with | [_, .int _ i] => (S.length - i).toNat | _ => 0, fun w10 hb10 hk10 => ⟨⟨by omega, by omega⟩, fun j hj => by omega⟩, ?_⟩
  rintro x4 x5 w18 hb18 ⟨⟨j0, j1⟩, q2⟩
  refine ⟨fun hlt => ?_, fun hge2 w23 hb23 _ => ⟨by rw [if_neg (not_not_intro ⟨q1.all hge, q2.all hge2⟩)], hb23⟩⟩
  refine load_int hs hb18 (by omega) fun m4 m5 hm => ⟨.inl hm, fun w12 hb12 hk12 => ?_⟩
  refine Pure.calls (rIn_any _ _ _) fun w13 hd13 => ⟨_, rfl, .all hd13, fun h5 w14 hb14 _ => ?_, fun h5 => ⟨by omega, fun w15 hb15 _ => ⟨⟨⟨by omega, by omega⟩, q2.next j0 (yd h5)⟩, by show (S.length - (x5 + 1)).toNat < (S.length - x5).toNat; omega⟩⟩⟩
  have hno : ¬ okSz S := not_okSz (i := x5) (by omega) (nd h5)
  exact ⟨by rw [if_pos (fun h => hno h.2)], hb14⟩
end Go.Proofs.R12
end
section
/- Works out of bytes: what is made, and the lemmas of its walk. -/
namespace Go.Proofs.R12
open Go.Vc Go.RowKit Go.Proofs
section
variable {α : Type} {N : Nest α} {B n c : Nat} {own : List Nat} {a : Option Addr} {ps : List α} {qs : List (Option Addr × α)} {u w w' : World}
end
def quadsV (l : List (Int × Int × Int × Int)) : List Value := l.flatMap fun t => [.int .u8 t.1, .int .u8 t.2.1, .int .u8 t.2.2.1, .int .u8 t.2.2.2]
abbrev Q0 : Int × Int × Int × Int := (0, 0, 0, 0)
def ByteQ (t : Int × Int × Int × Int) : Prop := (0 ≤ t.1 ∧ t.1 ≤ 255) ∧ (0 ≤ t.2.1 ∧ t.2.1 ≤ 255) ∧ (0 ≤ t.2.2.1 ∧ t.2.2.1 ≤ 255) ∧ 0 ≤ t.2.2.2 ∧ t.2.2.2 ≤ 255
def OkP (p : List Sp) : Prop := (1 ≤ p.length ∧ p.length ≤ 2) ∧ ∀ s ∈ p, (500 ≤ s.1 ∧ s.1 ≤ 755) ∧ s.1 ≤ s.2 ∧ s.2 ≤ s.1 + 11
structure OkF (ps : List (List Sp)) (f : Fit) : Prop where
  ne : f.hole ≠ f.shaft
  h : (0 ≤ f.hole ∧ f.hole < ps.length) ∧ 0 ≤ f.hs ∧ f.hs < (ps.getD f.hole.toNat []).length
  s : (0 ≤ f.shaft ∧ f.shaft < ps.length) ∧ 0 ≤ f.ss ∧ f.ss < (ps.getD f.shaft.toNat []).length
  g : -300 ≤ f.gap.1 ∧ f.gap.1 ≤ f.gap.2 ∧ f.gap.2 ≤ 300
structure ShopW (W : Wk) : Prop where
  n : 2 ≤ W.pats.length ∧ W.pats.length ≤ 4
  p : ∀ p ∈ W.pats, OkP p
  m : 1 ≤ W.fits.length ∧ W.fits.length ≤ 4
  f : ∀ f ∈ W.fits, OkF W.pats f
end Go.Proofs.R12
end
section
/- The conditions of the functions, printed by program; each is what the generator reckons (kernel_rfl). -/
namespace Go.Proofs
open Go.Vc
end Go.Proofs
end
section
/- Works out of bytes, walked. -/
namespace Go.Proofs.R12
open Go.Vc Go.RowKit Go.Proofs
end Go.Proofs.R12
end
section
/- No more pairs: what the pairs are (plain). -/
namespace Go.Proofs.R12
open Go.Vc Go.RowKit Go.Proofs
section
variable {f : Fit} {H S : List Int}
def shaftAt (S : List Int) (i : Nat) : Int := (sortIdx S).getD i 0
def vAt (l : List Int) (x : Int) : Int := l.getD x.toNat 0
def qAt (f : Fit) (H S : List Int) (i : Nat) : List Int := (pairSt f H S i).1
def pAt (f : Fit) (H S : List Int) (i : Nat) : List (Int × Int) := (pairSt f H S i).2
def dAt (f : Fit) (H S : List Int) (i : Nat) : List Int := (qAt f H S i).dropWhile (smallQ f H S (shaftAt S i))

/-- From the turn of a shaft to that of another one no hole is laid aside as too small. -/
def Claim (f : Fit) (H S : List Int) (i i0 : Nat) : Prop := ∀ x ∈ dAt f H S i, ∀ t, i < t → t ≤ i0 → x ∈ qAt f H S t → x ∈ dAt f H S t
end
section
variable {f : Fit} {H S : List Int}
open Classical in
open Classical in
open Classical in
open Classical in
end
end Go.Proofs.R12
end
section
/- The conditions of the functions, printed by program; each is what the generator reckons (kernel_rfl). -/
namespace Go.Proofs
open Go.Vc
end Go.Proofs
end
section
/- A box out of bytes. -/
namespace Go.Proofs.R12
open Go.Vc Go.RowKit Go.Proofs
def boxOne (s : Sp) (x : Int) : Int := s.1 - 5 + x.tmod (s.2 - s.1 + 11)
def boxN (s : Sp) (l : List Int) (k : Nat) : List Int := (l.take k).map (boxOne s)
def boxL (s : Sp) (l : List Int) : List Int := boxN s l 20
end Go.Proofs.R12
end
section
/- Patterns whose rows lie in blocks of their own, and can be written. -/
namespace Go.Proofs.R12
open Go.Vc Go.RowKit Go.Proofs
/-- A block that begins with these sizes. -/
def InD (d : Nat) (p : List Sp) (w : World) : Prop := ∃ cs : List Value, w.heap[d]? = some (.cells cs.toArray 42 (0, 0)) ∧ spansV p <+: cs
abbrev DEl := Nat × Nat × List Sp
def dVals (xs : List DEl) : List Value := xs.map fun x => .slice (some ⟨x.1, 0, none⟩) x.2.2.length x.2.1
structure DRow (B : Nat) (own : List Nat) (a : Option Addr) (n c : Nat) (xs : List DEl) (qs : List (Nat × List Sp)) (w : World) : Prop where
  len : n = xs.length
  nd : (xs.map (·.1) ++ qs.map (·.1)).Nodup
  r : ∀ d ∈ xs.map (·.1) ++ qs.map (·.1), B ≤ d ∧ d < w.heap.size ∧ d ∉ own
  row : RowE 89 1 B (own ++ (xs.map (·.1) ++ qs.map (·.1))) a n c (dVals xs) w
  el : ∀ x ∈ xs, InD x.1 x.2.2 w
  q : ∀ x ∈ qs, InD x.1 x.2 w
section
variable {B n c : Nat} {own : List Nat} {a : Option Addr} {xs : List DEl} {qs : List (Nat × List Sp)} {w w' : World}
end
end Go.Proofs.R12
end
section
/- The copy of works, with rows that can be written. -/
namespace Go.Proofs.R12
open Go.Vc Go.RowKit Go.Proofs
structure PatsD (lo hi : Nat) (w : World) (a : Option Addr) (xs : List DEl) : Prop where
  blk : xs ≠ [] → ∀ b o, a = some ⟨b, o, none⟩ → (lo ≤ b ∧ b < hi) ∧ b ∉ xs.map (·.1)
  c : Cells w a (dVals xs)
  nd : (xs.map (·.1)).Nodup
  r : ∀ d ∈ xs.map (·.1), lo ≤ d ∧ d < hi
  el : ∀ x ∈ xs, InD x.1 x.2.2 w
def FitsD (lo hi : Nat) (w : World) (a : Option Addr) (fs : List Fit) : Prop := ∃ d, a = some ⟨d, 0, none⟩ ∧ (lo ≤ d ∧ d < hi) ∧ ∃ cs : List Value, w.heap[d]? = some (.cells cs.toArray 67 (0, 0)) ∧ fitsV fs <+: cs
section
variable {lo hi : Nat} {w w' : World} {a : Option Addr} {fs : List Fit}
end
end Go.Proofs.R12
end
section
/- The conditions of the functions, printed by program; each is what the generator reckons (kernel_rfl). -/
namespace Go.Proofs
open Go.Vc
end Go.Proofs
end
section
/- A good piece out of bytes. -/
namespace Go.Proofs.R12
open Go.Vc Go.RowKit Go.Proofs
/-- The size that the bytes say. -/
def bySize (s : Sp) (b : Int) : Int := s.1 + b.tmod (s.2 - s.1 + 1)
def byPiece (p : List Sp) (l : List Int) (k : Int) (n : Nat) : List Int := (List.range n).map fun i => bySize (p.getD i (0, 0)) (byteM l (k + i))
theorem byPiece_len {p : List Sp} {l : List Int} {k : Int} {n : Nat} : (byPiece p l k n).length = n := by simp [byPiece]
end Go.Proofs.R12
end
section
/- The law PartAll, without the program. -/
namespace Go.Proofs.R12
open Go.Vc Go.RowKit Go.Proofs
structure GoodP (W : Wk) (x : Piece) : Prop where
  r : 0 ≤ x.pat ∧ x.pat < W.pats.length
  n : x.sizes.length = (W.pat x.pat).length
  g : ∀ j : Nat, j < x.sizes.length → ((W.pat x.pat).getD j (0, 0)).1 ≤ x.sizes.getD j 0 ∧ x.sizes.getD j 0 ≤ ((W.pat x.pat).getD j (0, 0)).2
def byP (W : Wk) (l : List Int) (i k : Int) : Piece := ⟨i, byPiece (W.pats.getD i.toNat []) l k (W.pats.getD i.toNat []).length⟩
section
variable {W : Wk}
abbrev fitHS (W : Wk) (f : Fit) : Sp := (W.pats.getD f.hole.toNat []).getD f.hs.toNat (0, 0)
abbrev fitSS (W : Wk) (f : Fit) : Sp := (W.pats.getD f.shaft.toNat []).getD f.ss.toNat (0, 0)
abbrev fit00 : Fit := ⟨0, 0, 0, 0, (0, 0)⟩
structure LInv (W : Wk) (k : Nat) (L : List Gap) : Prop where
  inc : L.Pairwise fun a b => a.fit < b.fit
  r : ∀ g ∈ L, (0 ≤ g.fit ∧ g.fit < k) ∧ badF W (W.fits.getD g.fit.toNat fit00) = (g.hole, g.shaft, true)
  all : ∀ i : Nat, i < k → (badF W (W.fits.getD i fit00)).2.2 = true → ∃ g ∈ L, g.fit = i
abbrev gap0 : Gap := ⟨0, 0, 0⟩
def looseF (W : Wk) (k : Nat) : List Int := ((LooseM W).take k).map (·.fit)
end
end Go.Proofs.R12
end
section
/- The law PartWider, without the program. -/
namespace Go.Proofs.R12
open Go.Vc Go.RowKit Go.Proofs
/-- The first size, with a wider tolerance. -/
def widen : List Sp → List Sp
  | [] => []
  | s :: r => (s.1 - 1, s.2 + 2) :: r
/-- Patterns, some of them with a wider first size: those from k on are as they were. -/
structure Wid (W : Wk) (ps : List (List Sp)) (k : Nat) : Prop where
  n : ps.length = W.pats.length
  w : ∀ j, j < ps.length → ps.getD j [] = W.pats.getD j [] ∨ ps.getD j [] = widen (W.pats.getD j [])
  e : ∀ j, k ≤ j → ps.getD j [] = W.pats.getD j []
section
variable {W : Wk} {ps : List (List Sp)} {k : Nat}
/-- Fits with wider gaps: those from k on are as they were. -/
structure WidF (W : Wk) (fs : List Fit) (a b : Int) (k : Nat) : Prop where
  n : fs.length = W.fits.length
  w : ∀ j, j < k → fs.getD j fit00 = ⟨(W.fits.getD j fit00).hole, (W.fits.getD j fit00).hs, (W.fits.getD j fit00).shaft, (W.fits.getD j fit00).ss, ((W.fits.getD j fit00).gap.1 - b, (W.fits.getD j fit00).gap.2 + a)⟩
  e : ∀ j, k ≤ j → fs.getD j fit00 = W.fits.getD j fit00
end
end Go.Proofs.R12
end
section
/- Loads from, and stores to, the rows of a copy of works. -/
namespace Go.Proofs.R12
open Go.Vc Go.RowKit Go.Proofs
section
variable {lo hi : Nat} {w w' : World} {a : Option Addr} {xs : List DEl}
end
end Go.Proofs.R12
end
section
/- Fits in a block that is written. -/
namespace Go.Proofs.R12
open Go.Vc Go.RowKit Go.Proofs
structure FB (d : Nat) (fs : List Fit) (w : World) : Prop where
  h : ∃ cs : List Value, w.heap[d]? = some (.cells cs.toArray 67 (0, 0)) ∧ fitsV fs <+: cs
section
variable {d : Nat} {fs : List Fit} {w w' : World}
end
end Go.Proofs.R12
end
section
/- The conditions of the functions, printed by program; each is what the generator reckons (kernel_rfl). -/
namespace Go.Proofs
open Go.Vc
end Go.Proofs
end
section
/- The law PartSure, walked. -/
namespace Go.Proofs.R12
open Go.Vc Go.RowKit Go.Proofs
end Go.Proofs.R12
end
section
/- Loads, maps and contracts for the walk of PartAll. -/
namespace Go.Proofs.R12
open Go.Vc Go.RowKit Go.Proofs
section
variable {w : World} {lo hi : Nat} {a : Option Addr} {i : Int}
end
section
variable {w : World} {lo hi n : Nat} {a : Option Addr} {i : Int}
end
/-- A set of integers in a block. -/
structure MapAt (m : Nat) (Z : List Int) (w : World) : Prop where
  h : MapC w m I (setV Z)
section
variable {m : Nat} {Z : List Int} {w w' : World}
end
section
variable {w : World} {W : Wk} {pa fa : Option Addr} {pc fc : Nat}
end
/-- All pieces of a clock. -/
def allP (W : Wk) (l : List Int) (k : Nat) : List Piece := (List.range k).map fun i : Nat => byP W l i (3 * i)
abbrev Held8 (l1 l2 l5 l6 : Nat) (a1 a2 a5 : Option Addr) (W : Wk) (w : World) : Prop := (LiesS l1 l2 w a1 W.pats ∧ Lies [] l1 l2 w a2 (fitsV W.fits) ∧ Lies [] l5 l6 w a5 (gapsV (LooseM W))) ∧ l6 ≤ w.heap.size
end Go.Proofs.R12
end
section
/- The rest for the walk of PartWider. -/
namespace Go.Proofs.R12
open Go.Vc Go.RowKit Go.Proofs
end Go.Proofs.R12
end
section
/- What the walk of PartNoMore needs. -/
namespace Go.Proofs.R12
open Go.Vc Go.RowKit Go.Proofs
def Sz (l : List Int) : Prop := l.length ≤ 20 ∧ ∀ x ∈ l, 0 ≤ x ∧ x ≤ 1000
def PairsOf (F : Fit) (A T : List Int) (P : List (Int × Int)) : Prop := P = pairsL (pairK F A T) T.length
abbrev pr0 : Int × Int := (0, 0)
structure PrAt (F : Fit) (A T : List Int) (P : List (Int × Int)) (i : Int) (p : Int × Int) : Prop where
  s : 0 ≤ p.1 ∧ p.1 < T.length
  h : 0 ≤ p.2 ∧ p.2 < A.length
  g : F.gap.1 ≤ A.getD p.2.toNat 0 - T.getD p.1.toNat 0 ∧ A.getD p.2.toNat 0 - T.getD p.1.toNat 0 ≤ F.gap.2
  n1 : p.1 ∉ (P.take i.toNat).map (·.1)
  n2 : p.2 ∉ (P.take i.toNat).map (·.2)
  o : 0 < i → (P.getD (i - 1).toNat pr0).1 < p.1
theorem getD_el {α : Type} {l : List α} {i : Nat} {d : α} (h : i < l.length) : l.getD i d = l[i] := by rw [List.getD_eq_getElem?_getD, getElem_of_lt h]; rfl
structure UpAt (l : List Int) (n : Nat) (i x : Int) : Prop where
  r : 0 ≤ x ∧ x < n
  nn : x ∉ l.take i.toNat
  o : 0 < i → l.getD (i - 1).toNat 0 < x
theorem pairsV_get {l : List (Int × Int)} {i : Nat} (h : i < l.length) : (pairsV l)[i * 2 + 0]? = some (I (l.getD i pr0).1) ∧ (pairsV l)[i * 2 + 1]? = some (I (l.getD i pr0).2) := by
  rw [getD_el h]
  exact ⟨flat_get (k := 2) (f := fun p : Int × Int => [I p.1, I p.2]) (fun _ => rfl) (getElem_of_lt h) (by omega), flat_get (k := 2) (f := fun p : Int × Int => [I p.1, I p.2]) (fun _ => rfl) (getElem_of_lt h) (by omega)⟩
end Go.Proofs.R12
end
section
/- The law PartPairs, walked. -/
namespace Go.Proofs.R12
open Go.Vc Go.RowKit Go.Proofs

theorem eqr_two (a0 a1 : Int) (h0 : 0 ≤ a0 ∧ a0 ≤ 1000000) (h1 : 0 ≤ a1 ∧ a1 ≤ 1000000) (w : World) : (Op.equal 68 (.agg #[I a0, I a1]) (.agg #[I a0, I a1])).run Try.prog w = .ok true w := by
  have u68 : Try.prog.underlying 68 = some (.array 2 3) := by kernel_rfl
  have u3 : Try.prog.underlying 3 = some (.int .i64) := by kernel_rfl
  have c3 : Try.prog.cellsOf 3 = 1 := by kernel_rfl
  obtain ⟨l, hl⟩ : ∃ l, Try.prog.keyLits 3 68 (Value.agg #[I a0, I a1]).cells.toList = some l := by
    have c68 : Try.prog.cellsOf 68 = 2 := by kernel_rfl
    have w0 : (Lit.int .i64 a0).wf = true := by simp [Lit.wf, IntKind.min, IntKind.max, IntKind.bits, IntKind.signed]; omega
    have w1 : (Lit.int .i64 a1).wf = true := by simp [Lit.wf, IntKind.min, IntKind.max, IntKind.bits, IntKind.signed]; omega
    refine ⟨[.int .i64 a0, .int .i64 a1], ?_⟩
    simp [Program.keyLits, u68, u3, c3, c68, Value.cells, w0, w1, List.range_succ]
  obtain ⟨r, h1, h2⟩ := run_equalIn_deep (P := Try.prog) 9997 3 68 (by kernel_rfl) w 3 3 (.agg #[I a0, I a1]) (.agg #[I a0, I a1]) l l (by kernel_rfl) (by kernel_rfl) hl hl
  have : r = true := h2.2 rfl
  subst this
  exact h1
theorem grd_two (op : BinOp) (x y : Operand) (a0 a1 b0 b1 : Int) (w : World) : (eqGuard op 68 x y (.agg #[I a0, I a1]) (.agg #[I b0, I b1])).run Try.prog w = .ok () w := by cases op <;> kernel_rfl
theorem neqr_two {x y : Operand} {a0 a1 b0 b1 : Int} {w : World} {R : Value → World → Prop} (e0 : a0 = b0) (e1 : a1 = b1) (h0 : 0 ≤ b0 ∧ b0 ≤ 1000000) (h1 : 0 ≤ b1 ∧ b1 ≤ 1000000) (h : R (.bool false) w) : RunsTo Try.prog ((eqGuard .neq 68 x y (.agg #[I a0, I a1]) (.agg #[I b0, I b1])) >>= fun _ => binOp .neq 68 (.agg #[I a0, I a1]) (.agg #[I b0, I b1])) w R := by
  subst e0 e1
  refine ⟨_, w, ?_, h⟩
  simp only [Sem.run_bind, grd_two, Result.andThen_ok, binOp, eqr_two a0 a1 h0 h1, Sem.run_pure]
  try rfl

theorem idxs_take {n k : Nat} (h : k ≤ n) : (idxs n).take k = idxs k := by
  unfold idxs
  rw [← List.map_take, List.take_range, Nat.min_eq_left h]
theorem pairsL_get {ps : List (Int × Int)} {n s : Nat} (hs : s < n) {h : Int} (hl : ps.lookup (s : Int) = some h) : (pairsL ps s).length < (pairsL ps n).length ∧ (pairsL ps n).getD (pairsL ps s).length pr0 = ((s : Int), h) := by
  have e1 : pairsL ps n = pairsL ps (s + 1) ++ ((idxs n).drop (s + 1)).filterMap fun s => (ps.lookup s).map fun h => (s, h) := by
    have := (List.take_append_drop (s + 1) (idxs n)).symm
    rw [idxs_take (by omega)] at this
    unfold pairsL
    rw [← List.filterMap_append, ← this]
  rw [pairsL_succ, hl] at e1
  rw [e1]
  refine ⟨by simp, ?_⟩
  simp [List.getD_eq_getElem?_getD]
theorem pairsL_step {ps : List (Int × Int)} {s : Nat} : (pairsL ps (s + 1)).length = (pairsL ps s).length + (if (ps.lookup (s : Int)).isSome then 1 else 0) := by
  rw [pairsL_succ]
  cases ps.lookup (s : Int)
  · simp
  · simp

/-- Data that lie beyond L. -/
def At (L : Nat) (w : World) (a : Option Addr) (xs : List Value) : Prop := ∃ hi, Lies [] L hi w a xs
theorem At.of {L lo hi : Nat} {w : World} {a : Option Addr} {xs : List Value} (h : Lies [] lo hi w a xs) (hl : L ≤ lo) : At L w a xs := ⟨hi, h.to hl (Nat.le_refl _)⟩
theorem At.chg {L : Nat} {w w' : World} {a : Option Addr} {xs : List Value} {T : List Nat} (h : At L w a xs) (hc : Chg T w w') (hT : ∀ x ∈ T, x < L) : At L w' a xs := by
  obtain ⟨hi, h⟩ := h
  exact ⟨hi, h.out hc fun x hx => .inl (hT x hx)⟩
theorem At.cells {L : Nat} {w : World} {a : Option Addr} {xs : List Value} (h : At L w a xs) : Cells w a xs := by
  obtain ⟨hi, h⟩ := h
  exact h.cells
theorem At.int {L : Nat} {w : World} {a : Option Addr} {l : List Int} (h : At L w a (ints l)) {i : Int} {X : Nat → Nat → Int → Prop} (hi : 0 ≤ i ∧ i < (l.length : Int)) (k : ∀ m o, L ≤ m → X m o (l.getD i.toNat 0)) : ∃ m o, a = some ⟨m, o, none⟩ ∧ (0 ≤ i ∧ i < (l.length : Int)) ∧ ∃ x : Int, w.cell? ⟨m, o + i.toNat * 1, none⟩ = some (I x) ∧ X m o x := by
  obtain ⟨hi', h⟩ := h
  exact load_intL h hi fun m o hm => k m o hm.1
theorem At.pair {L : Nat} {w : World} {a : Option Addr} {l : List (Int × Int)} (h : At L w a (pairsV l)) {i : Int} {X : Nat → Nat → Int → Int → Prop} (hi : 0 ≤ i ∧ i < (l.length : Int)) (k : ∀ m o, L ≤ m → X m o (l.getD i.toNat pr0).1 (l.getD i.toNat pr0).2) :
    ∃ m o, a = some ⟨m, o, none⟩ ∧ (0 ≤ i ∧ i < (l.length : Int)) ∧ ∃ x y : Int, w.cell? ⟨m, o + i.toNat * 2, none⟩ = some (I x) ∧ w.cell? ⟨m, o + i.toNat * 2 + 1, none⟩ = some (I y) ∧ X m o x y := by
  obtain ⟨hi', h⟩ := h
  have hg := pairsV_get (l := l) (i := i.toNat) (by omega)
  obtain ⟨b, o, e, ⟨_, q⟩, hc⟩ := h _ _ hg.1
  obtain ⟨b', o', e', ⟨_, q'⟩, hc'⟩ := h _ _ hg.2
  rw [e] at e'
  cases e'
  exact ⟨b, o, e, hi, _, _, cell_at' hc (by omega), cell_at' hc' (by omega), k b o q.1⟩
structure D5 (L : Nat) (H S : List Int) (P : List (Int × Int)) (fw al : List Int) (a1 a2 a5 a8 a9 : Option Addr) (w : World) : Prop where
  h : At L w a1 (ints H)
  s : At L w a2 (ints S)
  p : At L w a5 (pairsV P)
  fw : At L w a8 (ints fw)
  al : At L w a9 (ints al)
  sz : L ≤ w.heap.size
theorem D5.chg {L : Nat} {H S : List Int} {P : List (Int × Int)} {fw al : List Int} {a1 a2 a5 a8 a9 : Option Addr} {w w' : World} {T : List Nat} (h : D5 L H S P fw al a1 a2 a5 a8 a9 w) (hc : Chg T w w') (hT : ∀ x ∈ T, x < L) : D5 L H S P fw al a1 a2 a5 a8 a9 w' :=
  ⟨h.h.chg hc hT, h.s.chg hc hT, h.p.chg hc hT, h.fw.chg hc hT, h.al.chg hc hT, Nat.le_trans h.sz hc.size⟩

set_option maxRecDepth 100000 in
set_option maxHeartbeats 2000000 in
theorem law5 {w : World} {W : Wk} {pa fa : Option Addr} {pc fc : Nat} (hp : CellsS w pa W.pats) (hf : Cells w fa (fitsV W.fits)) {n : Int} {H S : List Int} {aH aS : Option Addr} {cH cS : Nat} (hH : Cells w aH (ints H)) (hS : Cells w aS (ints S)) :
    Calls Try.prog 5 #[W.v pa pc fa fc, .agg #[I n, .slice aH H.length cH, .slice aS S.length cS]] w (Pure w (.bool true)) := by
  refine vc5 _ _ _ _ _ _ _ _ _ _ _ _ _ w _ fun m1 g1 m2 g2 => ?_
  refine ⟨fun ls w' => match ls with | [.bool t] => t = false → Lim W ∧ H.length ≤ 205 ∧ S.length ≤ 205 | _ => False, fun w2 hb2 hk2 => ?_, ?_⟩
  · refine Pure.calls (large_any (hp.keep hb2) (hf.keep hb2)) fun w3 hd3 => ⟨_, rfl, .all hd3, fun h1 w4 hb4 hk4 h => (by cases h), fun h1 => ?_⟩
    have hL : Lim W := by simpa using h1
    have done : ∀ {t : Bool}, t = true → t = false → Lim W ∧ H.length ≤ 205 ∧ S.length ≤ 205 := fun h1 h2 => by rw [h1] at h2; cases h2
    have lst : H.length ≤ 205 → decide (205 < (S.length : Int)) = false → Lim W ∧ H.length ≤ 205 ∧ S.length ≤ 205 := fun h1 h2 => ⟨hL, h1, by have := of_decide_eq_false h2; omega⟩
    exact ⟨fun a1 => ⟨fun a2 _ _ _ _ _ => done rfl, fun a2 => ⟨fun a3 => ⟨fun a4 _ _ _ _ _ _ _ => done rfl, fun a4 => ⟨fun a5 _ _ _ _ _ _ _ _ => done rfl, fun a5 _ _ _ _ _ _ _ _ _ => lst (by omega)⟩⟩, fun a3 => ⟨fun a4 _ _ _ _ _ _ _ => done rfl, fun a4 _ _ _ _ _ _ _ _ => lst (by omega)⟩⟩⟩,
      fun a1 => ⟨fun a3 => ⟨fun a4 _ _ _ _ _ _ => done rfl, fun a4 => ⟨fun a5 _ _ _ _ _ _ _ => done rfl, fun a5 _ _ _ _ _ _ _ _ => lst (by omega)⟩⟩, fun a3 => ⟨fun a4 _ _ _ _ _ _ => done rfl, fun a4 _ _ _ _ _ _ _ => lst (by omega)⟩⟩⟩
  rintro t2 w16 hb16 hG
  refine ⟨fun ht w17 hb17 hk17 => Pure.calls known_any fun w18 hd18 => ⟨_, rfl, .all hd18, fun w19 hb19 _ => ⟨rfl, hb19⟩⟩, fun ht w20 hb20 hk20 => ?_⟩
  obtain ⟨hL, lH, lS⟩ := hG ht
  have hSm : Small W := lim_small (not_not_intro hL)
  have o1 := hk20.own m1 (by simp)
  have o2 := hk20.own m2 (by simp)
  have oT : ∀ x ∈ [m2, m1], x < w20.heap.size := by simp; omega
  have c20 := hk20.chg
  refine (ints_l (hH.keep hb20) (by omega)).mono fun e w21 he => ?_
  obtain ⟨a1, c1, rfl, hb21, L1⟩ := he
  refine ⟨_, _, _, rfl, .all hb21, fun w22 hb22 hk22 => ?_⟩
  have s21 := hb21.size; have s22 := hk22.size
  have A1 := (At.of L1 (Nat.le_refl _)).chg hk22.chg oT
  refine (ints_l (hS.keep hb22) (by omega)).mono fun e w23 he => ?_
  obtain ⟨a2, c2, rfl, hb23, L2⟩ := he
  refine ⟨_, _, _, rfl, .all hb23, fun w24 hb24 hk24 => ?_⟩
  have s23 := hb23.size; have s24 := hk24.size
  have A1 := (A1.chg (Chg.of_below (S := []) hb23) (by simp)).chg hk24.chg oT
  have A2 := (At.of L2 (by omega : w20.heap.size ≤ _)).chg hk24.chg oT
  refine (works_l (hp.keep hb24) (hf.keep hb24) hSm).mono fun e w25 he => ?_
  obtain ⟨pa3, pc3, fa3, fc3, rfl, hb25, LP3, LF3⟩ := he
  refine ⟨_, _, _, _, _, _, rfl, .all hb25, fun w26 hb26 hk26 => ?_⟩
  have s25 := hb25.size; have s26 := hk26.size
  have A1 := (A1.chg (Chg.of_below (S := []) hb25) (by simp)).chg hk26.chg oT
  have A2 := (A2.chg (Chg.of_below (S := []) hb25) (by simp)).chg hk26.chg oT
  have P3 := LP3.kio hk26 (by simp; omega) ⟨(0, w25.heap.size), by simp, by simp, Nat.le_refl _⟩
  have F3 := LF3.kio hk26 (by simp; omega) ⟨(0, w25.heap.size), by simp, by simp, Nat.le_refl _⟩
  have hbx : boxE W n H S = 0 → H.length ≤ 200 ∧ S.length ≤ 200 := fun h => (boxE_ok h).2.2.1
  refine (Pair_l (n := n) P3.cells F3.cells hSm A1.cells A2.cells (by omega) (by omega) hbx).mono fun e w27 he => ?_
  obtain ⟨a5, c5, rfl, hb27, L5⟩ := he
  refine ⟨_, _, _, _, rfl, .all hb27, fun w28 hb28 hk28 => ?_⟩
  have s27 := hb27.size; have s28 := hk28.size
  have A1 := (A1.chg (Chg.of_below (S := []) hb27) (by simp)).chg hk28.chg oT
  have A2 := (A2.chg (Chg.of_below (S := []) hb27) (by simp)).chg hk28.chg oT
  have A5 := (At.of L5 (by omega : w20.heap.size ≤ _)).chg hk28.chg oT
  refine (works_l (hp.keep hb28) (hf.keep hb28) hSm).mono fun e w29 he => ?_
  obtain ⟨pa6, pc6, fa6, fc6, rfl, hb29, LP6, LF6⟩ := he
  refine ⟨_, _, _, _, _, _, rfl, .all hb29, fun w30 hb30 hk30 => ?_⟩
  have s29 := hb29.size; have s30 := hk30.size
  have A1 := (A1.chg (Chg.of_below (S := []) hb29) (by simp)).chg hk30.chg oT
  have A2 := (A2.chg (Chg.of_below (S := []) hb29) (by simp)).chg hk30.chg oT
  have A5 := (A5.chg (Chg.of_below (S := []) hb29) (by simp)).chg hk30.chg oT
  have P6 := LP6.kio hk30 (by simp; omega) ⟨(0, w29.heap.size), by simp, by simp, Nat.le_refl _⟩
  have F6 := LF6.kio hk30 (by simp; omega) ⟨(0, w29.heap.size), by simp, by simp, Nat.le_refl _⟩
  refine (Lack_l (n := n) P6.cells F6.cells hSm A1.cells A2.cells (by omega) (by omega) hbx).mono fun e w31 he => ?_
  obtain ⟨a8, c8, a9, c9, rfl, hb31, L8, L9⟩ := he
  refine ⟨_, _, _, _, _, _, _, rfl, .all hb31, ?_⟩
  have s31 := hb31.size
  have D31 : D5 w20.heap.size H S (pairM W n H S) (lackM W n H S).1 (lackM W n H S).2 a1 a2 a5 a8 a9 w31 := ⟨A1.chg (Chg.of_below (S := []) hb31) (by simp), A2.chg (Chg.of_below (S := []) hb31) (by simp), A5.chg (Chg.of_below (S := []) hb31) (by simp), At.of L8 (by omega), At.of L9 (by omega), by omega⟩
  refine ⟨fun ls w' => match ls with | [.bool t] => t = false ∧ D5 w20.heap.size H S (pairM W n H S) (lackM W n H S).1 (lackM W n H S).2 a1 a2 a5 a8 a9 w' | _ => False, fun w33 hb33 hk33 => ?_, ?_⟩
  · have D33 := D31.chg (Chg.kept hk33) oT
    refine Pure.calls (Ints_any D33.h.cells (hH.keep hb33) (by omega)) fun w34 hd34 => ⟨_, rfl, .all hd34, fun h => (by cases h), fun _ w36 hb36 hk36 => ?_⟩
    have D36 := (D33.chg (Chg.of_below (S := []) hd34) (by simp)).chg (Chg.kept hk36) oT
    refine Pure.calls (Ints_any D36.s.cells (hS.keep hb36) (by omega)) fun w37 hd37 => ⟨_, rfl, .all hd37, fun w38 hb38 hk38 _ _ => ⟨rfl, (D36.chg (Chg.of_below (S := []) hd37) (by simp)).chg (Chg.kept hk38) oT⟩⟩
  rintro t6 w39 hb39 ⟨rfl, D39⟩
  refine ⟨fun h => (by cases h), fun _ w41 hb41 hk41 => ?_⟩
  have D41 := D39.chg (Chg.kept hk41) oT
  refine Pure.calls (rBox_any (n := n) (hp.keep hb41) (hf.keep hb41) hSm (hH.keep hb41) (hS.keep hb41) (by omega) (by omega)) fun w42 hd42 => ⟨_, rfl, .all hd42, fun hne => ?_, fun h0 => ?_⟩
  · have e1 : pairM W n H S = [] := by unfold pairM; rw [if_neg hne]
    have e2 : lackM W n H S = ([], []) := by unfold lackM; rw [if_neg hne]
    rw [e1, e2]
    refine ⟨fun ls w' => match ls with | [.bool t] => t = true | _ => False, ⟨fun _ => ⟨fun _ => ⟨by simp, by simp, fun _ w44 hb44 hk44 => Pure.calls known_any fun w45 hd45 => ⟨_, rfl, .all hd45, fun w46 hb46 hk46 => rfl⟩, fun h => by simp at h⟩, fun h => absurd rfl h⟩, fun h => absurd rfl h⟩, ?_⟩
    rintro t8 w50 hb50 rfl w51 hb51 _
    exact ⟨rfl, hb51⟩
  obtain ⟨hO, hn, _, zH, zS⟩ := boxE_ok h0
  have e1 : pairM W n H S = pairsL (pairK (fitOf W n) H S) S.length := by unfold pairM; rw [if_pos h0]
  have e2 : lackM W n H S = (shortL (fitOf W n) H S, fitL (fitOf W n) H S) := by unfold lackM; rw [if_pos h0]
  rw [e1, e2] at D41 ⊢
  have D42 := D41.chg (Chg.of_below (S := []) hd42) (by simp)
  have hb42 := hb41.trans (hd42.mono hb41.size)
  have hok := pairK_ok (fitOf W n) H S
  refine load_fit hf hb42 (i := n) (by omega) fun m o hm => ⟨.inl hm, fun w52 hb52 hk52 => ?_⟩
  have D52 := D42.chg hk52.chg oT
  refine (rPair_l (fitOf W n) (hH.keep hb52) (hS.keep hb52) zH zS (by omega) (by omega)).mono fun e w53 he => ?_
  obtain ⟨a10, c10, rfl, hb53, L10⟩ := he
  have s41 := hb41.size; have s42 := hd42.size; have s52 := hk52.size; have s53 := hb53.size
  have s20 : w20.heap.size ≤ w52.heap.size := D52.sz
  have D53 := D52.chg (Chg.of_below (S := []) hb53) (by simp)
  have A10 : At w20.heap.size w53 a10 _ := At.of L10 s20
  generalize hps : pairK (fitOf W n) H S = ps at *
  have glen := getsOf_len ps S.length
  refine ⟨_, _, _, rfl, .all hb53, fun ls w' => match ls with | [.bool _, .int _ k, .int _ s] => (0 ≤ s ∧ s ≤ S.length) ∧ k = (pairsL ps s.toNat).length ∧ D5 w20.heap.size H S (pairsL ps S.length) (shortL (fitOf W n) H S) (fitL (fitOf W n) H S) a1 a2 a5 a8 a9 w' ∧ At w20.heap.size w' a10 (ints (getsOf ps S.length)) | _ => False, fun ls => match ls with | [_, _, .int _ s] => (S.length - s).toNat | _ => 0, fun w55 hb55 hk55 => ⟨by omega, rfl, D53.chg (Chg.kept hk55) oT, A10.chg (Chg.kept hk55) oT⟩, ?_⟩
  rintro t9 x14 x15 w56 hb56 ⟨⟨i0, i1⟩, rfl, D56, A56⟩
  refine ⟨fun hlt => ?_, fun hge => ?_⟩
  · have mu : (S.length - (x15 + 1)).toNat < (S.length - x15).toNat := by omega
    have hpl := pairsL_len ps x15.toNat
    have hlk : (x15.toNat : Int) = x15 := by omega
    have gval : (getsOf ps S.length).getD x15.toNat 0 = (ps.lookup x15).getD (-1) := getsOf_at i0 hlt
    have hg1 : ∀ {X : Nat → Nat → Int → Prop}, (∀ m o, w20.heap.size ≤ m → X m o ((ps.lookup x15).getD (-1))) → ∃ m o, a10 = some ⟨m, o, none⟩ ∧ (0 ≤ x15 ∧ x15 < (S.length : Int)) ∧ ∃ x, w56.cell? ⟨m, o + x15.toNat * 1, none⟩ = some (I x) ∧ X m o x := fun {X} k => by
      have := A56.int (X := X) (i := x15) (by omega) fun m o hm => by rw [gval]; exact k m o hm
      rwa [glen] at this
    refine ⟨fun ls w' => match ls with | [.bool _, .int _ k] => k = (pairsL ps (x15.toNat + 1)).length ∧ D5 w20.heap.size H S (pairsL ps S.length) (shortL (fitOf W n) H S) (fitL (fitOf W n) H S) a1 a2 a5 a8 a9 w' ∧ At w20.heap.size w' a10 (ints (getsOf ps S.length)) | _ => False, ?_, ?_⟩
    rotate_left
    · rintro t12 x20 w67 hb67 ⟨rfl, D67, A67⟩
      exact ⟨by omega, fun w68 hb68 hk68 => ⟨⟨by omega, by rw [show (x15 + 1).toNat = x15.toNat + 1 by omega], D67.chg (Chg.kept hk68) oT, A67.chg (Chg.kept hk68) oT⟩, mu⟩⟩
    refine hg1 fun m o hm => ⟨.inr ⟨by omega, by omega⟩, fun hneg w58 hb58 hk58 => ⟨?_, D56.chg (Chg.kept hk58) oT, A56.chg (Chg.kept hk58) oT⟩, fun hpos => ?_⟩
    · rw [pairsL_step, hlk]
      cases hq : ps.lookup x15 with
      | none => simp
      | some v =>
        rw [hq] at hneg
        have := (hok.r _ (look_mem hq)).2.1
        simp at hneg; omega
    cases hq : ps.lookup x15 with
    | none => rw [hq] at hpos; simp at hpos
    | some v =>
      have hr := hok.r _ (look_mem hq)
      obtain ⟨hl1, hl2⟩ := pairsL_get (ps := ps) (n := S.length) (s := x15.toNat) (by omega) (h := v) (by rw [hlk]; exact hq)
      rw [hlk] at hl2
      refine ⟨fun ls w' => match ls with | [.bool t] => t = false ∧ D5 w20.heap.size H S (pairsL ps S.length) (shortL (fitOf W n) H S) (fitL (fitOf W n) H S) a1 a2 a5 a8 a9 w' ∧ At w20.heap.size w' a10 (ints (getsOf ps S.length)) | _ => False, ⟨fun h => by omega, fun _ => ?_⟩, ?_⟩
      rotate_left
      · rintro t11 w64 hb64 ⟨rfl, D64, A64⟩
        refine ⟨fun h => (by cases h), fun _ => ⟨by omega, fun w66 hb66 hk66 => ⟨?_, D64.chg (Chg.kept hk66) oT, A64.chg (Chg.kept hk66) oT⟩⟩⟩
        rw [pairsL_step, hlk, hq]; simp
      refine D56.p.pair (by omega) fun m' o' hm' => ⟨.inr ⟨by omega, by omega⟩, ?_⟩
      refine hg1 fun m2' o2' hm2' => ⟨.inr ⟨by omega, by omega⟩, fun w61 hb61 hk61 => ?_⟩
      rw [Int.toNat_natCast, hl2, hq]
      refine neqr_two rfl rfl (by omega) (by simp at hr ⊢; omega) ⟨_, rfl, .all (Below.refl _ _), fun w63 hb63 hk63 => ⟨rfl, (D56.chg hk61.chg oT).chg (Chg.kept hk63) oT, (A56.chg hk61.chg oT).chg (Chg.kept hk63) oT⟩⟩
  refine load_fit hf hb56 (i := n) (by omega) fun m o hm => ⟨.inl hm, fun w69 hb69 hk69 => ?_⟩
  have D69 := D56.chg hk69.chg oT
  have A69 := A56.chg hk69.chg oT
  have e15 : x15.toNat = S.length := by omega
  rw [e15]
  subst hps
  refine (rLack_l (fitOf W n) (hH.keep hb69) (hS.keep hb69) A69.cells zH zS (by omega) (by omega)).mono fun e w70 he => ?_
  obtain ⟨a11, c11, a12, c12, rfl, hb70, L11, L12⟩ := he
  have D70 := D69.chg (Chg.of_below (S := []) hb70) (by simp)
  have s69 := hk69.size; have s70 := hb70.size
  have s20' : w20.heap.size ≤ w69.heap.size := D69.sz
  have A11 : At w20.heap.size w70 a11 _ := At.of L11 s20'
  have A12 : At w20.heap.size w70 a12 _ := At.of L12 s20'
  refine ⟨_, _, _, _, _, _, rfl, .all hb70, fun ls w' => match ls with | [.bool t] => t = true | _ => False, ⟨fun _ => ⟨fun _ => ⟨fun _ w72 hb72 hk72 => ?_, fun h => absurd rfl h⟩, fun h => absurd h0 h⟩, fun h => absurd h0 h⟩, ?_⟩
  rotate_left
  · rintro t16 w84 hb84 rfl w85 hb85 _
    exact ⟨rfl, hb85⟩
  have B72 := D70.chg (Chg.kept hk72) oT
  have B11 := A11.chg (Chg.kept hk72) oT
  have B12 := A12.chg (Chg.kept hk72) oT
  have lsh : (shortL (fitOf W n) H S).length ≤ 17592186044000 := Nat.le_trans (List.length_filter_le _ _) (by simp [idxs]; omega)
  have lft : (fitL (fitOf W n) H S).length ≤ 17592186044000 := Nat.le_trans (List.length_filter_le _ _) (by simp [idxs]; omega)
  refine Pure.calls (Ints_any B72.fw.cells B11.cells lsh) fun w73 hd73 => ⟨_, rfl, .all hd73, fun _ w74 hb74 hk74 => ?_, fun h => (by cases h)⟩
  have C74 := (B72.chg (Chg.of_below (S := []) hd73) (by simp)).chg (Chg.kept hk74) oT
  have C12 := (B12.chg (Chg.of_below (S := []) hd73) (by simp)).chg (Chg.kept hk74) oT
  exact Pure.calls (Ints_any C74.al.cells C12.cells lft) fun w75 hd75 => ⟨_, rfl, .all hd75, fun _ w76 hb76 hk76 => Pure.calls known_any fun w77 hd77 => ⟨_, rfl, .all hd77, fun w78 hb78 hk78 => rfl⟩, fun h => (by cases h)⟩
end Go.Proofs.R12
end
