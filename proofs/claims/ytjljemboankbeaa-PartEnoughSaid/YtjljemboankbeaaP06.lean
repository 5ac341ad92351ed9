/- Part 6: own lemmas, and the conditions of the functions. -/
import Derived.Test.YtjljemboankbeaaProg
import Derived.Test.YtjljemboankbeaaRows
import Derived.Laws.MakeOwn
import Derived.Test.YtjljemboankbeaaP05
section
/- The conditions of the functions, printed by program; each is what the generator reckons (kernel_rfl). -/
namespace Go.Proofs
open Go.Vc
set_option maxRecDepth 100000 in
set_option maxHeartbeats 2000000 in
theorem vc45  (w : World) (R : Ending → World → Prop) (h : ∀ (m1 : Nat), w.heap.size ≤ m1 → ∀ (w1 : World), RowKit.Below w.heap.size w w1 → Kept [m1] w w1 → Calls Try.prog 42
    #[Value.int IntKind.i64 1000, Value.int IntKind.i64 1010] w1 fun (e1 : Ending) (w2 : World) => ∃ (x1 : Int), ∃ (x2 : Int), e1 = Ending.returned (Value.agg #[Value.int
    IntKind.i64 x1, Value.int IntKind.i64 x2]) ∧ KeepX true w.heap.size [m1] (fun _ => False) w1 w2 ∧ ∀ (m3 : Nat), w2.heap.size ≤ m3 → ∀ (w3 : World), RowKit.Below w.heap.size w
    w3 → Kept [m3, m1] w2 w3 → Calls Try.prog 42 #[Value.int IntKind.i64 990, Value.int IntKind.i64 998] w3 fun (e2 : Ending) (w4 : World) => ∃ (x3 : Int), ∃ (x4 : Int), e2 =
    Ending.returned (Value.agg #[Value.int IntKind.i64 x3, Value.int IntKind.i64 x4]) ∧ KeepX true w.heap.size [m3, m1] (fun _ => False) w3 w4 ∧ ∀ (m5 : Nat), w4.heap.size ≤ m5 → ∀
    (m6 : Nat), w4.heap.size ≤ m6 → ∀ (w5 : World), RowKit.Below w.heap.size w w5 → Kept [m6, m5, m3, m1] w4 w5 → Calls Try.prog 42 #[Value.int IntKind.i64 2, Value.int IntKind.i64
    15] w5 fun (e3 : Ending) (w6 : World) => ∃ (x5 : Int), ∃ (x6 : Int), e3 = Ending.returned (Value.agg #[Value.int IntKind.i64 x5, Value.int IntKind.i64 x6]) ∧ KeepX true
    w.heap.size [m6, m5, m3, m1] (fun _ => False) w5 w6 ∧ ∀ (m8 : Nat), w6.heap.size ≤ m8 → ∀ (w7 : World), RowKit.Below w.heap.size w w7 → Kept [m8, m6, m5, m3, m1] w6 w7 →
    w7.heap[m6]? = some (Obj.cells #[Value.slice (some { block := m3, off := 0 }) 1 1, Value.slice (some { block := m5, off := 0 }) 1 1] 89) → w7.heap[m8]? = some (Obj.cells
    #[Value.int IntKind.i64 0, Value.int IntKind.i64 0, Value.int IntKind.i64 1, Value.int IntKind.i64 0, Value.int IntKind.i64 x5, Value.int IntKind.i64 x6] 67) → w7.heap[m3]? =
    some (Obj.cells #[Value.int IntKind.i64 x1, Value.int IntKind.i64 x2] 42) → w7.heap[m5]? = some (Obj.cells #[Value.int IntKind.i64 x3, Value.int IntKind.i64 x4] 42) → R
    (Ending.returned (Value.agg #[Value.slice (some { block := m6, off := 0 }) 2 2, Value.slice (some { block := m8, off := 0 }) 1 1])) w7) : Calls Try.prog 45 #[] w R :=
    calls_of_vc (pure := true) (wrapAt := []) (muts := []) (esc := []) (args := []) (vs := []) Try.func45 rfl rfl rfl (Eq.mp (by kernel_rfl) h) 
set_option maxRecDepth 100000 in
set_option maxHeartbeats 2000000 in
theorem vc14  (w : World) (R : Ending → World → Prop) (h : ∀ (w1 : World), RowKit.Below w.heap.size w w1 → Kept [] w w1 → Calls Try.prog 45 #[] w1 fun (e1 : Ending) (w2 : World) =>
    ∃ (a1 : Option Addr), ∃ (m1 : Nat), ∃ (m2 : Nat), ∃ (a2 : Option Addr), ∃ (m3 : Nat), ∃ (m4 : Nat), e1 = Ending.returned (Value.agg #[Value.slice a1 m1 m2, Value.slice a2 m3
    m4]) ∧ KeepX true w.heap.size [] (fun _ => False) w1 w2 ∧ ∀ (w3 : World), RowKit.Below w.heap.size w w3 → Kept [] w2 w3 → Calls Try.prog 17 #[Value.agg #[Value.slice a1 m1 m2,
    Value.slice a2 m3 m4]] w3 fun (e2 : Ending) (w4 : World) => ∃ (a3 : Option Addr), ∃ (m6 : Nat), ∃ (m7 : Nat), ∃ (x1 : Int), e2 = Ending.returned (Value.tuple #[Value.slice a3
    m6 m7, Value.int IntKind.i64 x1]) ∧ KeepX true w.heap.size [] (fun _ => False) w3 w4 ∧ ∀ (w5 : World), RowKit.Below w.heap.size w w5 → Kept [] w4 w5 → Calls Try.prog 45 #[] w5
    fun (e3 : Ending) (w6 : World) => ∃ (a4 : Option Addr), ∃ (m9 : Nat), ∃ (m10 : Nat), ∃ (a5 : Option Addr), ∃ (m11 : Nat), ∃ (m12 : Nat), e3 = Ending.returned (Value.agg
    #[Value.slice a4 m9 m10, Value.slice a5 m11 m12]) ∧ KeepX true w.heap.size [] (fun _ => False) w5 w6 ∧ ∀ (w7 : World), RowKit.Below w.heap.size w w7 → Kept [] w6 w7 → Calls
    Try.prog 42 #[Value.int IntKind.i64 (-2), Value.int IntKind.i64 1] w7 fun (e4 : Ending) (w8 : World) => ∃ (x2 : Int), ∃ (x3 : Int), e4 = Ending.returned (Value.agg #[Value.int
    IntKind.i64 x2, Value.int IntKind.i64 x3]) ∧ KeepX true w.heap.size [] (fun _ => False) w7 w8 ∧ ∀ (w9 : World), RowKit.Below w.heap.size w w9 → Kept [] w8 w9 → Calls Try.prog
    24 #[Value.agg #[Value.slice a4 m9 m10, Value.slice a5 m11 m12], Value.int IntKind.i64 0, Value.int IntKind.i64 0, Value.agg #[Value.int IntKind.i64 x2, Value.int IntKind.i64
    x3]] w9 fun (e5 : Ending) (w10 : World) => ∃ (x4 : Int), ∃ (x5 : Int), ∃ (x6 : Int), ∃ (x7 : Int), ∃ (x8 : Int), e5 = Ending.returned (Value.tuple #[Value.agg #[Value.int
    IntKind.i64 x4, Value.int IntKind.i64 x5], Value.agg #[Value.int IntKind.i64 x6, Value.int IntKind.i64 x7], Value.int IntKind.i64 x8]) ∧ KeepX true w.heap.size [] (fun _ =>
    False) w9 w10 ∧ ∀ (m16 : Nat), w10.heap.size ≤ m16 → ∀ (m17 : Nat), w10.heap.size ≤ m17 → ∀ (w11 : World), RowKit.Below w.heap.size w w11 → Kept [m17, m16] w10 w11 → Calls
    Try.prog 45 #[] w11 fun (e6 : Ending) (w12 : World) => ∃ (a6 : Option Addr), ∃ (m18 : Nat), ∃ (m19 : Nat), ∃ (a7 : Option Addr), ∃ (m20 : Nat), ∃ (m21 : Nat), e6 =
    Ending.returned (Value.agg #[Value.slice a6 m18 m19, Value.slice a7 m20 m21]) ∧ KeepX true w.heap.size [m17, m16] (fun _ => False) w11 w12 ∧ ∀ (m23 : Nat), w12.heap.size ≤ m23
    → ∀ (m24 : Nat), w12.heap.size ≤ m24 → ∀ (w13 : World), RowKit.Below w.heap.size w w13 → Kept [m24, m23, m17, m16] w12 w13 → w13.heap[m23]? = some (Obj.cells #[Value.int
    IntKind.i64 1000, Value.int IntKind.i64 1012, Value.int IntKind.i64 1001] 3) → w13.heap[m24]? = some (Obj.cells #[Value.int IntKind.i64 999, Value.int IntKind.i64 995,
    Value.int IntKind.i64 1003] 3) → Calls Try.prog 30 #[Value.agg #[Value.slice a6 m18 m19, Value.slice a7 m20 m21], Value.int IntKind.i64 0, Value.slice (some
    { block := m23, off := 0 }) 3 3, Value.slice (some { block := m24, off := 0 }) 3 3] w13 fun (e7 : Ending) (w14 : World) => ∃ (a8 : Option Addr), ∃ (m27 : Nat), ∃ (m28 : Nat), ∃
    (x9 : Int), e7 = Ending.returned (Value.tuple #[Value.slice a8 m27 m28, Value.int IntKind.i64 x9]) ∧ KeepX true w.heap.size [m24, m23, m17, m16] (fun _ => False) w13 w14 ∧ ∀
    (w15 : World), RowKit.Below w.heap.size w w15 → Kept [m24, m23, m17, m16] w14 w15 → Calls Try.prog 45 #[] w15 fun (e8 : Ending) (w16 : World) => ∃ (a9 : Option Addr), ∃ (m30 :
    Nat), ∃ (m31 : Nat), ∃ (a10 : Option Addr), ∃ (m32 : Nat), ∃ (m33 : Nat), e8 = Ending.returned (Value.agg #[Value.slice a9 m30 m31, Value.slice a10 m32 m33]) ∧ KeepX true
    w.heap.size [m24, m23, m17, m16] (fun _ => False) w15 w16 ∧ ∀ (m35 : Nat), w16.heap.size ≤ m35 → ∀ (m36 : Nat), w16.heap.size ≤ m36 → ∀ (w17 : World), RowKit.Below w.heap.size
    w w17 → Kept [m36, m35, m24, m23, m17, m16] w16 w17 → w17.heap[m35]? = some (Obj.cells #[Value.int IntKind.i64 1000, Value.int IntKind.i64 1030, Value.int IntKind.i64 1001] 3)
    → w17.heap[m36]? = some (Obj.cells #[Value.int IntKind.i64 995, Value.int IntKind.i64 996, Value.int IntKind.i64 997] 3) → Calls Try.prog 31 #[Value.agg #[Value.slice a9 m30
    m31, Value.slice a10 m32 m33], Value.int IntKind.i64 0, Value.slice (some { block := m35, off := 0 }) 3 3, Value.slice (some { block := m36, off := 0 }) 3 3] w17 fun (e9 :
    Ending) (w18 : World) => ∃ (a11 : Option Addr), ∃ (m39 : Nat), ∃ (m40 : Nat), ∃ (a12 : Option Addr), ∃ (m41 : Nat), ∃ (m42 : Nat), ∃ (x10 : Int), e9 = Ending.returned
    (Value.tuple #[Value.slice a11 m39 m40, Value.slice a12 m41 m42, Value.int IntKind.i64 x10]) ∧ KeepX true w.heap.size [m36, m35, m24, m23, m17, m16] (fun _ => False) w17 w18 ∧
    ∀ (w19 : World), RowKit.Below w.heap.size w w19 → Kept [m36, m35, m24, m23, m17, m16] w18 w19 → Calls Try.prog 45 #[] w19 fun (e10 : Ending) (w20 : World) => ∃ (a13 : Option
    Addr), ∃ (m44 : Nat), ∃ (m45 : Nat), ∃ (a14 : Option Addr), ∃ (m46 : Nat), ∃ (m47 : Nat), e10 = Ending.returned (Value.agg #[Value.slice a13 m44 m45, Value.slice a14 m46 m47])
    ∧ KeepX true w.heap.size [m36, m35, m24, m23, m17, m16] (fun _ => False) w19 w20 ∧ ∀ (m49 : Nat), w20.heap.size ≤ m49 → ∀ (m50 : Nat), w20.heap.size ≤ m50 → ∀ (m51 : Nat),
    w20.heap.size ≤ m51 → ∀ (m52 : Nat), w20.heap.size ≤ m52 → ∀ (m53 : Nat), w20.heap.size ≤ m53 → ∀ (m54 : Nat), w20.heap.size ≤ m54 → ∀ (w21 : World), RowKit.Below w.heap.size w
    w21 → Kept [m54, m53, m52, m51, m50, m49, m36, m35, m24, m23, m17, m16] w20 w21 → w21.heap[m50]? = some (Obj.cells #[Value.int IntKind.i64 0, Value.slice (some
    { block := m49, off := 0 }) 1 1] 40) → w21.heap[m54]? = some (Obj.cells #[Value.int IntKind.i64 1, Value.slice (some { block := m51, off := 0 }) 1 1, Value.int IntKind.i64 1,
    Value.slice (some { block := m52, off := 0 }) 1 1, Value.int IntKind.i64 1, Value.slice (some { block := m53, off := 0 }) 1 1] 40) → w21.heap[m49]? = some (Obj.cells
    #[Value.int IntKind.i64 1010] 3) → w21.heap[m51]? = some (Obj.cells #[Value.int IntKind.i64 990] 3) → w21.heap[m52]? = some (Obj.cells #[Value.int IntKind.i64 996] 3) →
    w21.heap[m53]? = some (Obj.cells #[Value.int IntKind.i64 999] 3) → Calls Try.prog 36 #[Value.agg #[Value.slice a13 m44 m45, Value.slice a14 m46 m47], Value.slice (some
    { block := m50, off := 0 }) 1 1, Value.int IntKind.i64 1, Value.slice (some { block := m54, off := 0 }) 3 3] w21 fun (e11 : Ending) (w22 : World) => ∃ (a15 : Option Addr), ∃
    (m61 : Nat), ∃ (m62 : Nat), ∃ (x11 : Int), e11 = Ending.returned (Value.tuple #[Value.slice a15 m61 m62, Value.int IntKind.i64 x11]) ∧ KeepX true w.heap.size [m54, m53, m52,
    m51, m50, m49, m36, m35, m24, m23, m17, m16] (fun _ => False) w21 w22 ∧ ∀ (w23 : World), RowKit.Below w.heap.size w w23 → Kept [m54, m53, m52, m51, m50, m49, m36, m35, m24,
    m23, m17, m16] w22 w23 → Calls Try.prog 42 #[Value.int IntKind.i64 5, Value.int IntKind.i64 9] w23 fun (e12 : Ending) (w24 : World) => ∃ (x12 : Int), ∃ (x13 : Int), e12 =
    Ending.returned (Value.agg #[Value.int IntKind.i64 x12, Value.int IntKind.i64 x13]) ∧ KeepX true w.heap.size [m54, m53, m52, m51, m50, m49, m36, m35, m24, m23, m17, m16] (fun _
    => False) w23 w24 ∧ ∀ (m65 : Nat), w24.heap.size ≤ m65 → ∀ (m66 : Nat), w24.heap.size ≤ m66 → ∀ (w25 : World), RowKit.Below w.heap.size w w25 → Kept [m66, m65, m54, m53, m52,
    m51, m50, m49, m36, m35, m24, m23, m17, m16] w24 w25 → w25.heap[m65]? = some (Obj.cells #[Value.int IntKind.i64 10, Value.int IntKind.i64 0, Value.int IntKind.i64 20] 80) →
    w25.heap[m66]? = some (Obj.cells #[Value.int IntKind.i64 3, Value.int IntKind.i64 12] 3) → Calls Try.prog 38 #[Value.agg #[Value.int IntKind.i64 x12, Value.int IntKind.i64
    x13], Value.slice (some { block := m65, off := 0 }) 1 1, Value.slice (some { block := m66, off := 0 }) 2 2] w25 fun (e13 : Ending) (w26 : World) => ∃ (a16 : Option Addr), ∃
    (m69 : Nat), ∃ (m70 : Nat), ∃ (x14 : Int), e13 = Ending.returned (Value.tuple #[Value.slice a16 m69 m70, Value.int IntKind.i64 x14]) ∧ KeepX true w.heap.size [m66, m65, m54,
    m53, m52, m51, m50, m49, m36, m35, m24, m23, m17, m16] (fun _ => False) w25 w26 ∧ ∀ (w27 : World), RowKit.Below w.heap.size w w27 → Kept [m66, m65, m54, m53, m52, m51, m50,
    m49, m36, m35, m24, m23, m17, m16] w26 w27 → Calls Try.prog 45 #[] w27 fun (e14 : Ending) (w28 : World) => ∃ (a17 : Option Addr), ∃ (m72 : Nat), ∃ (m73 : Nat), ∃ (a18 : Option
    Addr), ∃ (m74 : Nat), ∃ (m75 : Nat), e14 = Ending.returned (Value.agg #[Value.slice a17 m72 m73, Value.slice a18 m74 m75]) ∧ KeepX true w.heap.size [m66, m65, m54, m53, m52,
    m51, m50, m49, m36, m35, m24, m23, m17, m16] (fun _ => False) w27 w28 ∧ ∀ (m77 : Nat), w28.heap.size ≤ m77 → ∀ (w29 : World), RowKit.Below w.heap.size w w29 → Kept [m77, m66,
    m65, m54, m53, m52, m51, m50, m49, m36, m35, m24, m23, m17, m16] w28 w29 → w29.heap[m77]? = some (Obj.cells #[Value.int IntKind.i64 998] 3) → Calls Try.prog 23 #[Value.agg
    #[Value.slice a17 m72 m73, Value.slice a18 m74 m75], Value.agg #[Value.int IntKind.i64 1, Value.slice (some { block := m77, off := 0 }) 1 1]] w29 fun (e15 : Ending) (w30 :
    World) => ∃ (t1 : Bool), ∃ (x15 : Int), e15 = Ending.returned (Value.tuple #[Value.bool t1, Value.int IntKind.i64 x15]) ∧ KeepX true w.heap.size [m77, m66, m65, m54, m53, m52,
    m51, m50, m49, m36, m35, m24, m23, m17, m16] (fun _ => False) w29 w30 ∧ ∃ (F1 : List Lf → World → Prop), ((x1 ≠ 0 → ∀ (w32 : World), RowKit.Below w.heap.size w w32 → Kept [m77,
    m66, m65, m54, m53, m52, m51, m50, m49, m36, m35, m24, m23, m17, m16] w30 w32 → F1 [Lf.bool true] w32) ∧ (x1 = 0 → (x8 ≠ 0 → ∀ (w33 : World), RowKit.Below w.heap.size w w33 →
    Kept [m77, m66, m65, m54, m53, m52, m51, m50, m49, m36, m35, m24, m23, m17, m16] w30 w33 → F1 [Lf.bool true] w33) ∧ (x8 = 0 → (x9 ≠ 0 → ∀ (w34 : World), RowKit.Below
    w.heap.size w w34 → Kept [m77, m66, m65, m54, m53, m52, m51, m50, m49, m36, m35, m24, m23, m17, m16] w30 w34 → F1 [Lf.bool true] w34) ∧ (x9 = 0 → (x10 ≠ 0 → ∀ (w35 : World),
    RowKit.Below w.heap.size w w35 → Kept [m77, m66, m65, m54, m53, m52, m51, m50, m49, m36, m35, m24, m23, m17, m16] w30 w35 → F1 [Lf.bool true] w35) ∧ (x10 = 0 → (x11 ≠ 0 → ∀
    (w36 : World), RowKit.Below w.heap.size w w36 → Kept [m77, m66, m65, m54, m53, m52, m51, m50, m49, m36, m35, m24, m23, m17, m16] w30 w36 → F1 [Lf.bool true] w36) ∧ (x11 = 0 →
    (x14 ≠ 0 → ∀ (w37 : World), RowKit.Below w.heap.size w w37 → Kept [m77, m66, m65, m54, m53, m52, m51, m50, m49, m36, m35, m24, m23, m17, m16] w30 w37 → F1 [Lf.bool true] w37) ∧
    (x14 = 0 → (x15 ≠ 0 → ∀ (w38 : World), RowKit.Below w.heap.size w w38 → Kept [m77, m66, m65, m54, m53, m52, m51, m50, m49, m36, m35, m24, m23, m17, m16] w30 w38 → F1 [Lf.bool
    true] w38) ∧ (x15 = 0 → ((↑m6 : Int) ≠ 1 → ∀ (w39 : World), RowKit.Below w.heap.size w w39 → Kept [m77, m66, m65, m54, m53, m52, m51, m50, m49, m36, m35, m24, m23, m17, m16]
    w30 w39 → F1 [Lf.bool true] w39) ∧ ((↑m6 : Int) = 1 → ((↑m27 : Int) ≠ 3 → ∀ (w40 : World), RowKit.Below w.heap.size w w40 → Kept [m77, m66, m65, m54, m53, m52, m51, m50, m49,
    m36, m35, m24, m23, m17, m16] w30 w40 → F1 [Lf.bool true] w40) ∧ ((↑m27 : Int) = 3 → ((↑m39 : Int) ≠ 3 → ∀ (w41 : World), RowKit.Below w.heap.size w w41 → Kept [m77, m66, m65,
    m54, m53, m52, m51, m50, m49, m36, m35, m24, m23, m17, m16] w30 w41 → F1 [Lf.bool true] w41) ∧ ((↑m39 : Int) = 3 → ((↑m41 : Int) ≠ 2 → ∀ (w42 : World), RowKit.Below w.heap.size
    w w42 → Kept [m77, m66, m65, m54, m53, m52, m51, m50, m49, m36, m35, m24, m23, m17, m16] w30 w42 → F1 [Lf.bool true] w42) ∧ ((↑m41 : Int) = 2 → ((↑m61 : Int) ≠ 1 → ∀ (w43 :
    World), RowKit.Below w.heap.size w w43 → Kept [m77, m66, m65, m54, m53, m52, m51, m50, m49, m36, m35, m24, m23, m17, m16] w30 w43 → F1 [Lf.bool true] w43) ∧ ((↑m61 : Int) = 1 →
    ∀ (w44 : World), RowKit.Below w.heap.size w w44 → Kept [m77, m66, m65, m54, m53, m52, m51, m50, m49, m36, m35, m24, m23, m17, m16] w30 w44 → F1 [Lf.bool ((↑m69 : Int) != 2)]
    w44))))))))))))) ∧ ∀ (t2 : Bool) (w45 : World), RowKit.Below w.heap.size w w45 → F1 [Lf.bool t2] w45 → (t2 = true → ∀ (w46 : World), RowKit.Below w.heap.size w w46 → Kept [m77,
    m66, m65, m54, m53, m52, m51, m50, m49, m36, m35, m24, m23, m17, m16] w45 w46 → R (Ending.returned (Value.bool false)) w46) ∧ (t2 = false → ∃ (m80 : Nat), ∃ (m81 : Nat), a3 =
    some { block := m80, off := m81 } ∧ ((0 : Int) ≤ 0 ∧ 0 < (↑m6 : Int)) ∧ ∃ (x16 : Int), ∃ (x17 : Int), ∃ (x18 : Int), w45.cell? { block := m80, off := m81 + Int.toNat 0 * 3 } =
    some (Value.int IntKind.i64 x16) ∧ w45.cell? { block := m80, off := m81 + Int.toNat 0 * 3 + 1 } = some (Value.int IntKind.i64 x17) ∧ w45.cell?
    { block := m80, off := m81 + Int.toNat 0 * 3 + 1 + 1 } = some (Value.int IntKind.i64 x18) ∧ (m80 < w.heap.size ∨ m80 ≠ m77 ∧ m80 ≠ m66 ∧ m80 ≠ m65 ∧ m80 ≠ m54 ∧ m80 ≠ m53 ∧ m80
    ≠ m52 ∧ m80 ≠ m51 ∧ m80 ≠ m50 ∧ m80 ≠ m49 ∧ m80 ≠ m36 ∧ m80 ≠ m35 ∧ m80 ≠ m24 ∧ m80 ≠ m23 ∧ m80 ≠ m17 ∧ m80 ≠ m16) ∧ ∀ (w47 : World), RowKit.Below w.heap.size w w47 → KeptIn
    [(0, w45.heap.size)] [m77, m66, m65, m54, m53, m52, m51, m50, m49, m36, m35, m24, m23, m17, m16] w45 w47 → RunsTo Try.prog ((eqGuard BinOp.eql 37 (Operand.tmp 132) (Operand.tmp
    133) (Value.agg #[Value.int IntKind.i64 x16, Value.int IntKind.i64 x17, Value.int IntKind.i64 x18]) (Value.agg #[Value.int IntKind.i64 0, Value.int IntKind.i64 1006, Value.int
    IntKind.i64 990])) >>= fun _ => binOp BinOp.eql 37 (Value.agg #[Value.int IntKind.i64 x16, Value.int IntKind.i64 x17, Value.int IntKind.i64 x18]) (Value.agg #[Value.int
    IntKind.i64 0, Value.int IntKind.i64 1006, Value.int IntKind.i64 990])) w47 fun (v1 : Value) (w48 : World) => ∃ (t3 : Bool), v1 = Value.bool t3 ∧ KeepX true w.heap.size [m77,
    m66, m65, m54, m53, m52, m51, m50, m49, m36, m35, m24, m23, m17, m16] (fun _ => False) w47 w48 ∧ (t3 = true → ∀ (w49 : World), RowKit.Below w.heap.size w w49 → KeptIn [(0,
    w48.heap.size)] [m77, m66, m65, m54, m53, m52, m51, m50, m49, m36, m35, m24, m23, m17, m16] w48 w49 → Calls Try.prog 42 #[Value.int IntKind.i64 1001, Value.int IntKind.i64
    1008] w49 fun (e16 : Ending) (w50 : World) => ∃ (x19 : Int), ∃ (x20 : Int), e16 = Ending.returned (Value.agg #[Value.int IntKind.i64 x19, Value.int IntKind.i64 x20]) ∧ KeepX
    true w.heap.size [m77, m66, m65, m54, m53, m52, m51, m50, m49, m36, m35, m24, m23, m17, m16] (fun _ => False) w49 w50 ∧ ∀ (w51 : World), RowKit.Below w.heap.size w w51 → KeptIn
    [(0, w50.heap.size)] [m77, m66, m65, m54, m53, m52, m51, m50, m49, m36, m35, m24, m23, m17, m16] w50 w51 → RunsTo Try.prog ((eqGuard BinOp.eql 42 (Operand.tmp 136) (Operand.tmp
    137) (Value.agg #[Value.int IntKind.i64 x4, Value.int IntKind.i64 x5]) (Value.agg #[Value.int IntKind.i64 x19, Value.int IntKind.i64 x20])) >>= fun _ => binOp BinOp.eql 42
    (Value.agg #[Value.int IntKind.i64 x4, Value.int IntKind.i64 x5]) (Value.agg #[Value.int IntKind.i64 x19, Value.int IntKind.i64 x20])) w51 fun (v2 : Value) (w52 : World) => ∃
    (t4 : Bool), v2 = Value.bool t4 ∧ KeepX true w.heap.size [m77, m66, m65, m54, m53, m52, m51, m50, m49, m36, m35, m24, m23, m17, m16] (fun _ => False) w51 w52 ∧ (t4 = true → ∀
    (w53 : World), RowKit.Below w.heap.size w w53 → KeptIn [(0, w52.heap.size)] [m77, m66, m65, m54, m53, m52, m51, m50, m49, m36, m35, m24, m23, m17, m16] w52 w53 → Calls Try.prog
    42 #[Value.int IntKind.i64 998, Value.int IntKind.i64 1011] w53 fun (e17 : Ending) (w54 : World) => ∃ (x21 : Int), ∃ (x22 : Int), e17 = Ending.returned (Value.agg #[Value.int
    IntKind.i64 x21, Value.int IntKind.i64 x22]) ∧ KeepX true w.heap.size [m77, m66, m65, m54, m53, m52, m51, m50, m49, m36, m35, m24, m23, m17, m16] (fun _ => False) w53 w54 ∧ ∀
    (w55 : World), RowKit.Below w.heap.size w w55 → KeptIn [(0, w54.heap.size)] [m77, m66, m65, m54, m53, m52, m51, m50, m49, m36, m35, m24, m23, m17, m16] w54 w55 → RunsTo
    Try.prog ((eqGuard BinOp.eql 42 (Operand.tmp 141) (Operand.tmp 142) (Value.agg #[Value.int IntKind.i64 x6, Value.int IntKind.i64 x7]) (Value.agg #[Value.int IntKind.i64 x21,
    Value.int IntKind.i64 x22])) >>= fun _ => binOp BinOp.eql 42 (Value.agg #[Value.int IntKind.i64 x6, Value.int IntKind.i64 x7]) (Value.agg #[Value.int IntKind.i64 x21, Value.int
    IntKind.i64 x22])) w55 fun (v3 : Value) (w56 : World) => ∃ (t5 : Bool), v3 = Value.bool t5 ∧ KeepX true w.heap.size [m77, m66, m65, m54, m53, m52, m51, m50, m49, m36, m35, m24,
    m23, m17, m16] (fun _ => False) w55 w56 ∧ (t5 = true → ∃ (m87 : Nat), ∃ (m88 : Nat), a8 = some { block := m87, off := m88 } ∧ ((0 : Int) ≤ 0 ∧ 0 < (↑m27 : Int)) ∧ ∃ (x23 :
    Int), ∃ (x24 : Int), w56.cell? { block := m87, off := m88 + Int.toNat 0 * 2 } = some (Value.int IntKind.i64 x23) ∧ w56.cell? { block := m87, off := m88 + Int.toNat 0 * 2 + 1 }
    = some (Value.int IntKind.i64 x24) ∧ (m87 < w.heap.size ∨ m87 ≠ m77 ∧ m87 ≠ m66 ∧ m87 ≠ m65 ∧ m87 ≠ m54 ∧ m87 ≠ m53 ∧ m87 ≠ m52 ∧ m87 ≠ m51 ∧ m87 ≠ m50 ∧ m87 ≠ m49 ∧ m87 ≠ m36
    ∧ m87 ≠ m35 ∧ m87 ≠ m24 ∧ m87 ≠ m23 ∧ m87 ≠ m17 ∧ m87 ≠ m16) ∧ ∀ (w57 : World), RowKit.Below w.heap.size w w57 → KeptIn [(0, w56.heap.size)] [m77, m66, m65, m54, m53, m52, m51,
    m50, m49, m36, m35, m24, m23, m17, m16] w56 w57 → RunsTo Try.prog ((eqGuard BinOp.eql 68 (Operand.tmp 148) (Operand.tmp 149) (Value.agg #[Value.int IntKind.i64 x23, Value.int
    IntKind.i64 x24]) (Value.agg #[Value.int IntKind.i64 0, Value.int IntKind.i64 2])) >>= fun _ => binOp BinOp.eql 68 (Value.agg #[Value.int IntKind.i64 x23, Value.int IntKind.i64
    x24]) (Value.agg #[Value.int IntKind.i64 0, Value.int IntKind.i64 2])) w57 fun (v4 : Value) (w58 : World) => ∃ (t6 : Bool), v4 = Value.bool t6 ∧ KeepX true w.heap.size [m77,
    m66, m65, m54, m53, m52, m51, m50, m49, m36, m35, m24, m23, m17, m16] (fun _ => False) w57 w58 ∧ (t6 = true → ∃ (m90 : Nat), ∃ (m91 : Nat), a8 = some
    { block := m90, off := m91 } ∧ ((0 : Int) ≤ 2 ∧ 2 < (↑m27 : Int)) ∧ ∃ (x25 : Int), ∃ (x26 : Int), w58.cell? { block := m90, off := m91 + Int.toNat 2 * 2 } = some (Value.int
    IntKind.i64 x25) ∧ w58.cell? { block := m90, off := m91 + Int.toNat 2 * 2 + 1 } = some (Value.int IntKind.i64 x26) ∧ (m90 < w.heap.size ∨ m90 ≠ m77 ∧ m90 ≠ m66 ∧ m90 ≠ m65 ∧
    m90 ≠ m54 ∧ m90 ≠ m53 ∧ m90 ≠ m52 ∧ m90 ≠ m51 ∧ m90 ≠ m50 ∧ m90 ≠ m49 ∧ m90 ≠ m36 ∧ m90 ≠ m35 ∧ m90 ≠ m24 ∧ m90 ≠ m23 ∧ m90 ≠ m17 ∧ m90 ≠ m16) ∧ ∀ (w59 : World), RowKit.Below
    w.heap.size w w59 → KeptIn [(0, w58.heap.size)] [m77, m66, m65, m54, m53, m52, m51, m50, m49, m36, m35, m24, m23, m17, m16] w58 w59 → RunsTo Try.prog ((eqGuard BinOp.eql 68
    (Operand.tmp 155) (Operand.tmp 156) (Value.agg #[Value.int IntKind.i64 x25, Value.int IntKind.i64 x26]) (Value.agg #[Value.int IntKind.i64 2, Value.int IntKind.i64 1])) >>= fun
    _ => binOp BinOp.eql 68 (Value.agg #[Value.int IntKind.i64 x25, Value.int IntKind.i64 x26]) (Value.agg #[Value.int IntKind.i64 2, Value.int IntKind.i64 1])) w59 fun (v5 :
    Value) (w60 : World) => ∃ (t7 : Bool), v5 = Value.bool t7 ∧ KeepX true w.heap.size [m77, m66, m65, m54, m53, m52, m51, m50, m49, m36, m35, m24, m23, m17, m16] (fun _ => False)
    w59 w60 ∧ (t7 = true → ∃ (m93 : Nat), ∃ (m94 : Nat), a12 = some { block := m93, off := m94 } ∧ ((0 : Int) ≤ 1 ∧ 1 < (↑m41 : Int)) ∧ ∃ (x27 : Int), w60.cell?
    { block := m93, off := m94 + Int.toNat 1 * 1 } = some (Value.int IntKind.i64 x27) ∧ (m93 < w.heap.size ∨ m93 ≠ m77 ∧ m93 ≠ m66 ∧ m93 ≠ m65 ∧ m93 ≠ m54 ∧ m93 ≠ m53 ∧ m93 ≠ m52 ∧
    m93 ≠ m51 ∧ m93 ≠ m50 ∧ m93 ≠ m49 ∧ m93 ≠ m36 ∧ m93 ≠ m35 ∧ m93 ≠ m24 ∧ m93 ≠ m23 ∧ m93 ≠ m17 ∧ m93 ≠ m16) ∧ (x27 = 2 → ∃ (m95 : Nat), ∃ (m96 : Nat), a15 = some
    { block := m95, off := m96 } ∧ ((0 : Int) ≤ 0 ∧ 0 < (↑m61 : Int)) ∧ ∃ (x28 : Int), w60.cell? { block := m95, off := m96 + Int.toNat 0 * 1 } = some (Value.int IntKind.i64 x28) ∧
    (m95 < w.heap.size ∨ m95 ≠ m77 ∧ m95 ≠ m66 ∧ m95 ≠ m65 ∧ m95 ≠ m54 ∧ m95 ≠ m53 ∧ m95 ≠ m52 ∧ m95 ≠ m51 ∧ m95 ≠ m50 ∧ m95 ≠ m49 ∧ m95 ≠ m36 ∧ m95 ≠ m35 ∧ m95 ≠ m24 ∧ m95 ≠ m23 ∧
    m95 ≠ m17 ∧ m95 ≠ m16) ∧ (x28 = 1 → ∃ (m97 : Nat), ∃ (m98 : Nat), a16 = some { block := m97, off := m98 } ∧ ((0 : Int) ≤ 0 ∧ 0 < (↑m69 : Int)) ∧ ∃ (x29 : Int), w60.cell?
    { block := m97, off := m98 + Int.toNat 0 * 1 } = some (Value.int IntKind.i64 x29) ∧ (m97 < w.heap.size ∨ m97 ≠ m77 ∧ m97 ≠ m66 ∧ m97 ≠ m65 ∧ m97 ≠ m54 ∧ m97 ≠ m53 ∧ m97 ≠ m52 ∧
    m97 ≠ m51 ∧ m97 ≠ m50 ∧ m97 ≠ m49 ∧ m97 ≠ m36 ∧ m97 ≠ m35 ∧ m97 ≠ m24 ∧ m97 ≠ m23 ∧ m97 ≠ m17 ∧ m97 ≠ m16) ∧ (x29 = 20 → ∃ (m99 : Nat), ∃ (m100 : Nat), a16 = some
    { block := m99, off := m100 } ∧ ((0 : Int) ≤ 1 ∧ 1 < (↑m69 : Int)) ∧ ∃ (x30 : Int), w60.cell? { block := m99, off := m100 + Int.toNat 1 * 1 } = some (Value.int IntKind.i64 x30)
    ∧ (m99 < w.heap.size ∨ m99 ≠ m77 ∧ m99 ≠ m66 ∧ m99 ≠ m65 ∧ m99 ≠ m54 ∧ m99 ≠ m53 ∧ m99 ≠ m52 ∧ m99 ≠ m51 ∧ m99 ≠ m50 ∧ m99 ≠ m49 ∧ m99 ≠ m36 ∧ m99 ≠ m35 ∧ m99 ≠ m24 ∧ m99 ≠ m23
    ∧ m99 ≠ m17 ∧ m99 ≠ m16) ∧ (x30 = 10 → ∀ (w61 : World), RowKit.Below w.heap.size w w61 → Kept [m77, m66, m65, m54, m53, m52, m51, m50, m49, m36, m35, m24, m23, m17, m16] w60
    w61 → R (Ending.returned (Value.bool t1)) w61) ∧ (x30 ≠ 10 → ∀ (w62 : World), RowKit.Below w.heap.size w w62 → Kept [m77, m66, m65, m54, m53, m52, m51, m50, m49, m36, m35, m24,
    m23, m17, m16] w60 w62 → R (Ending.returned (Value.bool false)) w62)) ∧ (x29 ≠ 20 → ∀ (w63 : World), RowKit.Below w.heap.size w w63 → Kept [m77, m66, m65, m54, m53, m52, m51,
    m50, m49, m36, m35, m24, m23, m17, m16] w60 w63 → R (Ending.returned (Value.bool false)) w63)) ∧ (x28 ≠ 1 → ∀ (w64 : World), RowKit.Below w.heap.size w w64 → Kept [m77, m66,
    m65, m54, m53, m52, m51, m50, m49, m36, m35, m24, m23, m17, m16] w60 w64 → R (Ending.returned (Value.bool false)) w64)) ∧ (x27 ≠ 2 → ∀ (w65 : World), RowKit.Below w.heap.size w
    w65 → Kept [m77, m66, m65, m54, m53, m52, m51, m50, m49, m36, m35, m24, m23, m17, m16] w60 w65 → R (Ending.returned (Value.bool false)) w65)) ∧ (t7 = false → ∀ (w66 : World),
    RowKit.Below w.heap.size w w66 → Kept [m77, m66, m65, m54, m53, m52, m51, m50, m49, m36, m35, m24, m23, m17, m16] w60 w66 → R (Ending.returned (Value.bool false)) w66)) ∧ (t6 =
    false → ∀ (w67 : World), RowKit.Below w.heap.size w w67 → Kept [m77, m66, m65, m54, m53, m52, m51, m50, m49, m36, m35, m24, m23, m17, m16] w58 w67 → R (Ending.returned
    (Value.bool false)) w67)) ∧ (t5 = false → ∀ (w68 : World), RowKit.Below w.heap.size w w68 → Kept [m77, m66, m65, m54, m53, m52, m51, m50, m49, m36, m35, m24, m23, m17, m16] w56
    w68 → R (Ending.returned (Value.bool false)) w68)) ∧ (t4 = false → ∀ (w69 : World), RowKit.Below w.heap.size w w69 → Kept [m77, m66, m65, m54, m53, m52, m51, m50, m49, m36,
    m35, m24, m23, m17, m16] w52 w69 → R (Ending.returned (Value.bool false)) w69)) ∧ (t3 = false → ∀ (w70 : World), RowKit.Below w.heap.size w w70 → Kept [m77, m66, m65, m54, m53,
    m52, m51, m50, m49, m36, m35, m24, m23, m17, m16] w48 w70 → R (Ending.returned (Value.bool false)) w70))) : Calls Try.prog 14 #[] w R := calls_of_vcj (pure := true) (wrapAt :=
    []) (muts := []) (esc := []) (joins := [(2000008, [(129, 4)])]) (args := []) (vs := []) Try.func14 rfl rfl rfl (Eq.mp (by kernel_rfl) h) 
end Go.Proofs
end
section
/- The example of the laws. -/
namespace Go.Proofs.R12
open Go.Vc Go.RowKit Go.Proofs

def oneW : Wk := ⟨[[(1000, 1010)], [(990, 998)]], [⟨0, 0, 1, 0, (2, 15)⟩]⟩
theorem oneW_ok : OkW oneW := by decide +kernel
theorem oneW_small : Small oneW := ⟨by decide, by decide, by decide⟩

set_option maxRecDepth 100000 in
theorem one_l {w : World} : Calls Try.prog 45 #[] w fun e w' => ∃ pa pc fa fc, e = .returned (oneW.v pa pc fa fc) ∧ Below w.heap.size w w' ∧ LiesS w.heap.size w'.heap.size w' pa oneW.pats ∧ Lies [] w.heap.size w'.heap.size w' fa (fitsV oneW.fits) := by
  refine vc45 w _ fun m1 g1 w1 hb1 hk1 => Pure.calls (span_any _ _) fun w2 hd2 => ⟨_, _, rfl, .all hd2, fun m3 g3 w3 hb3 hk3 => Pure.calls (span_any _ _) fun w4 hd4 => ⟨_, _, rfl, .all hd4, fun m5 g5 m6 g6 w5 hb5 hk5 => Pure.calls (span_any _ _) fun w6 hd6 => ⟨_, _, rfl, .all hd6, fun m8 g8 w7 hb7 hk7 h6 h8 h3 h5 => ?_⟩⟩⟩
  have z2 := hb1.size
  have z3 := hb3.size
  have z4 := hb5.size
  have y2 := hd2.size
  have y4 := hd4.size
  have y6 := hd6.size
  have l3 := lt_of_some h3
  have l5 := lt_of_some h5
  have l6 := lt_of_some h6
  have l8 := lt_of_some h8
  have lies : ∀ {b : Nat} {vs : List Value}, w.heap.size ≤ b → b < w7.heap.size → Cells w7 (some ⟨b, 0, none⟩) vs → Lies [] w.heap.size w7.heap.size w7 (some ⟨b, 0, none⟩) vs := fun {b vs} h1 h2 hc i v hi => by
    obtain ⟨b', o', e, hcell⟩ := hc i v hi
    simp only [Option.some.injEq, Addr.mk.injEq, and_true] at e
    obtain ⟨rfl, rfl⟩ := e
    exact ⟨_, _, rfl, ⟨by simp, h1, h2⟩, hcell⟩
  refine ⟨some ⟨m6, 0, none⟩, 2, some ⟨m8, 0, none⟩, 1, rfl, hb7, fun i p hi => ?_, ?_⟩
  · match i, hi with
    | 0, hi =>
      obtain rfl := Option.some.inj hi
      exact ⟨m6, 0, some ⟨m3, 0, none⟩, 1, rfl, ⟨by omega, l6⟩, cell_obj (vs := [.slice (some ⟨m3, 0, none⟩) 1 1, .slice (some ⟨m5, 0, none⟩) 1 1]) h6 rfl, lies (by omega) l3 (Cells.obj (vs := spansV [(1000, 1010)]) h3)⟩
    | 1, hi =>
      obtain rfl := Option.some.inj hi
      exact ⟨m6, 0, some ⟨m5, 0, none⟩, 1, rfl, ⟨by omega, l6⟩, cell_obj (vs := [.slice (some ⟨m3, 0, none⟩) 1 1, .slice (some ⟨m5, 0, none⟩) 1 1]) h6 rfl, lies (by omega) l5 (Cells.obj (vs := spansV [(990, 998)]) h5)⟩
    | j + 2, hi => simp [oneW] at hi
  · exact lies (by omega) l8 (Cells.obj (vs := fitsV oneW.fits) h8)
end Go.Proofs.R12
end
section
/- What the example's calls return. -/
namespace Go.Proofs.R12
open Go.Vc Go.RowKit Go.Proofs

def kH : List Int := [1000, 1012, 1001]
def kS : List Int := [999, 995, 1003]
def lH : List Int := [1000, 1030, 1001]
def lS : List Int := [995, 996, 997]
theorem ex_gauge : gaugeM oneW 0 0 (-2, 1) = ((1001, 1008), (998, 1011), 0) := by decide +kernel
theorem ex_loose : LooseM oneW = [⟨0, 1006, 990⟩] := by decide +kernel
theorem ex_spares : SparesM (5, 9) [⟨10, 0, 20⟩] [3, 12] = ([20, 10], 0) := by decide +kernel
theorem ex_good : GoodM oneW ⟨1, [998]⟩ = (true, 0) := by decide +kernel
theorem ex_box : boxE oneW 0 kH kS = 0 := by decide +kernel
theorem ex_box2 : boxE oneW 0 lH lS = 0 := by decide +kernel
theorem ex_pair : pairM oneW 0 kH kS = [(0, 2), (1, 0), (2, 1)] := by decide +kernel
theorem ex_choose : chooseM oneW 1 [⟨0, [1010]⟩] [⟨1, [990]⟩, ⟨1, [996]⟩, ⟨1, [999]⟩] = ([1], 0) := by decide +kernel
theorem ex_pairK : pairK (fitOf oneW 0) lH lS = [(0, 0), (1, 2)] := by decide +kernel
theorem ex_lack : lackM oneW 0 lH lS = ([0, 1, 2], [0, 2]) := by
  have hp := ex_pairK
  have s2 : Short (fitOf oneW 0) lH lS [(0, 0), (1, 2)] 2 := .free (by decide) (by decide) (by decide)
  have s0 : Short (fitOf oneW 0) lH lS [(0, 0), (1, 2)] 0 := .next (h := 0) s2 (by decide) (by decide) (by decide +kernel) (by decide)
  have s1 : Short (fitOf oneW 0) lH lS [(0, 0), (1, 2)] 1 := .next (h := 2) s2 (by decide) (by decide) (by decide +kernel) (by decide)
  have f0 : FitS (fitOf oneW 0) lH lS [(0, 0), (1, 2)] 0 := ⟨by decide, 2, s2, by decide +kernel⟩
  have f2 : FitS (fitOf oneW 0) lH lS [(0, 0), (1, 2)] 2 := ⟨by decide, 2, s2, by decide +kernel⟩
  have ok : PsOk [(0, 0), (1, 2)] lS.length lH.length := by rw [← hp]; exact pairK_ok _ _ _
  have f1 : ¬ FitS (fitOf oneW 0) lH lS [(0, 0), (1, 2)] 1 := fun ⟨_, s, h1, h2⟩ => by
    obtain ⟨a, b⟩ := h1.in ok
    have : s = 0 ∨ s = 1 ∨ s = 2 := by simp only [lS, List.length_cons, List.length_nil] at b; omega
    rcases this with rfl | rfl | rfl <;> revert h2 <;> decide +kernel
  unfold lackM
  rw [if_pos ex_box2]
  unfold shortL fitL
  rw [hp]
  have i3 : idxs lS.length = [0, 1, 2] := rfl
  have i3' : idxs lH.length = [0, 1, 2] := rfl
  rw [i3, i3']
  simp [List.filter, s0, s1, s2, f0, f1, f2]
end Go.Proofs.R12
end
section
/- The example of the laws, checked. -/
namespace Go.Proofs.R12
open Go.Vc Go.RowKit Go.Proofs
theorem liesS_chg {lo hi : Nat} {w w' : World} {a : Option Addr} {ps : List (List Sp)} {S : List Nat} (h : LiesS lo hi w a ps) (hc : Chg S w w') (hs : ∀ x ∈ S, x < lo ∨ hi ≤ x) : CellsS w' a ps := fun i p hi => by
  obtain ⟨b, o, a', c, e, hb, h1, h2⟩ := h i p hi
  exact ⟨b, o, a', c, e, hc.cell (fun hm => by have := hs b hm; omega) h1, (h2.out hc hs).cells⟩
set_option maxRecDepth 100000 in
set_option maxHeartbeats 2000000 in
theorem known_any {w : World} : Calls Try.prog 14 #[] w (Pure w (.bool true)) := by
  refine vc14 w _ ?_
  intro w1 hb1 hk1
  have z1 := hk1.size
  have x1 := hb1.size
  have o1 := hk1.own
  simp only [List.not_mem_nil, false_implies, implies_true] at o1
  refine one_l.mono fun e1 w2 he => ?_
  obtain ⟨pa2, pc2, fa2, fc2, rfl, hd2, P2, F2⟩ := he
  have y2 := hd2.size
  refine ⟨_, _, _, _, _, _, rfl, .all hd2, ?_⟩
  intro w3 hb3 hk3
  have z3 := hk3.size
  have x3 := hb3.size
  have o3 := hk3.own
  simp only [List.not_mem_nil, false_implies, implies_true] at o3
  have PC3 : CellsS w3 pa2 oneW.pats := liesS_chg P2 (Chg.kept hk3) (by simp)
  have FC3 : Cells w3 fa2 (fitsV oneW.fits) := (F2.out (Chg.kept hk3) (by simp)).cells
  refine (Loose_l PC3 FC3 oneW_small).mono fun e2 w4 he => ?_
  rw [ex_loose, show checkE oneW = 0 from checkE_ok.2 oneW_ok] at he
  obtain ⟨aL, cL, rfl, hd4, D4⟩ := he
  have y4 := hd4.size
  refine ⟨_, _, _, _, rfl, .all hd4, ?_⟩
  intro w5 hb5 hk5
  have z5 := hk5.size
  have x5 := hb5.size
  have o5 := hk5.own
  simp only [List.not_mem_nil, false_implies, implies_true] at o5
  refine one_l.mono fun e3 w6 he => ?_
  obtain ⟨pa6, pc6, fa6, fc6, rfl, hd6, P6, F6⟩ := he
  have y6 := hd6.size
  refine ⟨_, _, _, _, _, _, rfl, .all hd6, ?_⟩
  intro w7 hb7 hk7
  have z7 := hk7.size
  have x7 := hb7.size
  have o7 := hk7.own
  simp only [List.not_mem_nil, false_implies, implies_true] at o7
  refine Pure.calls (span_any _ _) fun w8 hd8 => ⟨_, _, rfl, .all hd8, ?_⟩
  have y8 := hd8.size
  intro w9 hb9 hk9
  have z9 := hk9.size
  have x9 := hb9.size
  have o9 := hk9.own
  simp only [List.not_mem_nil, false_implies, implies_true] at o9
  have PC9 : CellsS w9 pa6 oneW.pats := liesS_chg P6 (((Chg.kept hk7).trans (Chg.of_below hd8)).trans (Chg.kept hk9)) (by simp)
  have FC9 : Cells w9 fa6 (fitsV oneW.fits) := (F6.out (((Chg.kept hk7).trans (Chg.of_below hd8)).trans (Chg.kept hk9)) (by simp)).cells
  refine Pure.calls (gauge_any 0 0 (-2, 1) PC9 FC9 oneW_small) fun w10 hd10 => ?_
  have y10 := hd10.size
  rw [ex_gauge]
  refine ⟨_, _, _, _, _, rfl, .all hd10, ?_⟩
  intro m16 g_m16
  intro m17 g_m17
  intro w11 hb11 hk11
  have z11 := hk11.size
  have x11 := hb11.size
  have o11 := hk11.own
  simp only [List.mem_cons, List.not_mem_nil, or_false, forall_eq_or_imp, forall_eq] at o11
  refine one_l.mono fun e6 w12 he => ?_
  obtain ⟨pa12, pc12, fa12, fc12, rfl, hd12, P12, F12⟩ := he
  have y12 := hd12.size
  refine ⟨_, _, _, _, _, _, rfl, .all hd12, ?_⟩
  intro m23 g_m23
  intro m24 g_m24
  intro w13 hb13 hk13 hc_m23 hc_m24
  have z13 := hk13.size
  have x13 := hb13.size
  have o13 := hk13.own
  simp only [List.mem_cons, List.not_mem_nil, or_false, forall_eq_or_imp, forall_eq] at o13
  have PC13 : CellsS w13 pa12 oneW.pats := liesS_chg P12 (Chg.kept hk13) (by simp only [List.mem_cons, List.not_mem_nil, or_false, forall_eq_or_imp, forall_eq]; omega)
  have FC13 : Cells w13 fa12 (fitsV oneW.fits) := (F12.out (Chg.kept hk13) (by simp only [List.mem_cons, List.not_mem_nil, or_false, forall_eq_or_imp, forall_eq]; omega)).cells
  refine (Pair_l (n := 0) (H := kH) (S := kS) PC13 FC13 oneW_small (Cells.obj (vs := ints kH) hc_m23) (Cells.obj (vs := ints kS) hc_m24) (by decide) (by decide) (fun _ => by decide)).mono fun e7 w14 he => ?_
  rw [ex_pair, ex_box] at he
  obtain ⟨aP, cP, rfl, hd14, D14⟩ := he
  have y14 := hd14.size
  refine ⟨_, _, _, _, rfl, .all hd14, ?_⟩
  intro w15 hb15 hk15
  have z15 := hk15.size
  have x15 := hb15.size
  have o15 := hk15.own
  simp only [List.mem_cons, List.not_mem_nil, or_false, forall_eq_or_imp, forall_eq] at o15
  refine one_l.mono fun e8 w16 he => ?_
  obtain ⟨pa16, pc16, fa16, fc16, rfl, hd16, P16, F16⟩ := he
  have y16 := hd16.size
  refine ⟨_, _, _, _, _, _, rfl, .all hd16, ?_⟩
  intro m35 g_m35
  intro m36 g_m36
  intro w17 hb17 hk17 hc_m35 hc_m36
  have z17 := hk17.size
  have x17 := hb17.size
  have o17 := hk17.own
  simp only [List.mem_cons, List.not_mem_nil, or_false, forall_eq_or_imp, forall_eq] at o17
  have PC17 : CellsS w17 pa16 oneW.pats := liesS_chg P16 (Chg.kept hk17) (by simp only [List.mem_cons, List.not_mem_nil, or_false, forall_eq_or_imp, forall_eq]; omega)
  have FC17 : Cells w17 fa16 (fitsV oneW.fits) := (F16.out (Chg.kept hk17) (by simp only [List.mem_cons, List.not_mem_nil, or_false, forall_eq_or_imp, forall_eq]; omega)).cells
  refine (Lack_l (n := 0) (H := lH) (S := lS) PC17 FC17 oneW_small (Cells.obj (vs := ints lH) hc_m35) (Cells.obj (vs := ints lS) hc_m36) (by decide) (by decide) (fun _ => by decide)).mono fun e9 w18 he => ?_
  rw [ex_lack, ex_box2] at he
  obtain ⟨aF, cF, aA, cA, rfl, hd18, D18, E18⟩ := he
  have y18 := hd18.size
  refine ⟨_, _, _, _, _, _, _, rfl, .all hd18, ?_⟩
  intro w19 hb19 hk19
  have z19 := hk19.size
  have x19 := hb19.size
  have o19 := hk19.own
  simp only [List.mem_cons, List.not_mem_nil, or_false, forall_eq_or_imp, forall_eq] at o19
  refine one_l.mono fun e10 w20 he => ?_
  obtain ⟨pa20, pc20, fa20, fc20, rfl, hd20, P20, F20⟩ := he
  have y20 := hd20.size
  refine ⟨_, _, _, _, _, _, rfl, .all hd20, ?_⟩
  intro m49 g_m49
  intro m50 g_m50
  intro m51 g_m51
  intro m52 g_m52
  intro m53 g_m53
  intro m54 g_m54
  intro w21 hb21 hk21 hc_m50 hc_m54 hc_m49 hc_m51 hc_m52 hc_m53
  have z21 := hk21.size
  have x21 := hb21.size
  have o21 := hk21.own
  simp only [List.mem_cons, List.not_mem_nil, or_false, forall_eq_or_imp, forall_eq] at o21
  have PC21 : CellsS w21 pa20 oneW.pats := liesS_chg P20 (Chg.kept hk21) (by simp only [List.mem_cons, List.not_mem_nil, or_false, forall_eq_or_imp, forall_eq]; omega)
  have FC21 : Cells w21 fa20 (fitsV oneW.fits) := (F20.out (Chg.kept hk21) (by simp only [List.mem_cons, List.not_mem_nil, or_false, forall_eq_or_imp, forall_eq]; omega)).cells
  have KC : CellsP w21 (some ⟨m50, 0, none⟩) [⟨0, [1010]⟩] := fun i p hi => by
    match i, hi with
    | 0, hi =>
      obtain rfl := Option.some.inj hi
      exact ⟨m50, 0, some ⟨m49, 0, none⟩, 1, rfl, cell_obj (vs := [I 0, .slice (some ⟨m49, 0, none⟩) 1 1]) hc_m50 rfl, cell_obj (vs := [I 0, .slice (some ⟨m49, 0, none⟩) 1 1]) hc_m50 rfl, Cells.obj (vs := ints [1010]) hc_m49⟩
    | j + 1, hi => simp at hi
  have KT : CellsP w21 (some ⟨m54, 0, none⟩) [⟨1, [990]⟩, ⟨1, [996]⟩, ⟨1, [999]⟩] := fun i p hi => by
    match i, hi with
    | 0, hi =>
      obtain rfl := Option.some.inj hi
      exact ⟨m54, 0, some ⟨m51, 0, none⟩, 1, rfl, cell_obj (vs := [I 1, .slice (some ⟨m51, 0, none⟩) 1 1, I 1, .slice (some ⟨m52, 0, none⟩) 1 1, I 1, .slice (some ⟨m53, 0, none⟩) 1 1]) hc_m54 rfl, cell_obj (vs := [I 1, .slice (some ⟨m51, 0, none⟩) 1 1, I 1, .slice (some ⟨m52, 0, none⟩) 1 1, I 1, .slice (some ⟨m53, 0, none⟩) 1 1]) hc_m54 rfl, Cells.obj (vs := ints [990]) hc_m51⟩
    | 1, hi =>
      obtain rfl := Option.some.inj hi
      exact ⟨m54, 0, some ⟨m52, 0, none⟩, 1, rfl, cell_obj (vs := [I 1, .slice (some ⟨m51, 0, none⟩) 1 1, I 1, .slice (some ⟨m52, 0, none⟩) 1 1, I 1, .slice (some ⟨m53, 0, none⟩) 1 1]) hc_m54 rfl, cell_obj (vs := [I 1, .slice (some ⟨m51, 0, none⟩) 1 1, I 1, .slice (some ⟨m52, 0, none⟩) 1 1, I 1, .slice (some ⟨m53, 0, none⟩) 1 1]) hc_m54 rfl, Cells.obj (vs := ints [996]) hc_m52⟩
    | 2, hi =>
      obtain rfl := Option.some.inj hi
      exact ⟨m54, 0, some ⟨m53, 0, none⟩, 1, rfl, cell_obj (vs := [I 1, .slice (some ⟨m51, 0, none⟩) 1 1, I 1, .slice (some ⟨m52, 0, none⟩) 1 1, I 1, .slice (some ⟨m53, 0, none⟩) 1 1]) hc_m54 rfl, cell_obj (vs := [I 1, .slice (some ⟨m51, 0, none⟩) 1 1, I 1, .slice (some ⟨m52, 0, none⟩) 1 1, I 1, .slice (some ⟨m53, 0, none⟩) 1 1]) hc_m54 rfl, Cells.obj (vs := ints [999]) hc_m53⟩
    | j + 3, hi => simp at hi
  refine (Choose_l (p := 1) (C := [⟨0, [1010]⟩]) (St := [⟨1, [990]⟩, ⟨1, [996]⟩, ⟨1, [999]⟩]) PC21 FC21 oneW_small KC KT (by decide) (by decide) (by decide) (by decide)).mono fun e11 w22 he => ?_
  unfold PureL at he
  rw [ex_choose] at he
  obtain ⟨aC, cC, rfl, hd22, D22⟩ := he
  have y22 := hd22.size
  refine ⟨_, _, _, _, rfl, .all hd22, ?_⟩
  intro w23 hb23 hk23
  have z23 := hk23.size
  have x23 := hb23.size
  have o23 := hk23.own
  simp only [List.mem_cons, List.not_mem_nil, or_false, forall_eq_or_imp, forall_eq] at o23
  refine Pure.calls (span_any _ _) fun w24 hd24 => ⟨_, _, rfl, .all hd24, ?_⟩
  have y24 := hd24.size
  intro m65 g_m65
  intro m66 g_m66
  intro w25 hb25 hk25 hc_m65 hc_m66
  have z25 := hk25.size
  have x25 := hb25.size
  have o25 := hk25.own
  simp only [List.mem_cons, List.not_mem_nil, or_false, forall_eq_or_imp, forall_eq] at o25
  refine (spares_l (5, 9) (l := [⟨10, 0, 20⟩]) (orders := [3, 12]) (Cells.obj (vs := consV [⟨10, 0, 20⟩]) hc_m65) (Cells.obj (vs := ints [3, 12]) hc_m66) (by decide) (by decide) (by decide)).mono fun e13 w26 he => ?_
  rw [ex_spares] at he
  obtain ⟨aS, cS, rfl, hd26, D26⟩ := he
  have y26 := hd26.size
  refine ⟨_, _, _, _, rfl, .all hd26, ?_⟩
  intro w27 hb27 hk27
  have z27 := hk27.size
  have x27 := hb27.size
  have o27 := hk27.own
  simp only [List.mem_cons, List.not_mem_nil, or_false, forall_eq_or_imp, forall_eq] at o27
  refine one_l.mono fun e14 w28 he => ?_
  obtain ⟨pa28, pc28, fa28, fc28, rfl, hd28, P28, F28⟩ := he
  have y28 := hd28.size
  refine ⟨_, _, _, _, _, _, rfl, .all hd28, ?_⟩
  intro m77 g_m77
  intro w29 hb29 hk29 hc_m77
  have z29 := hk29.size
  have x29 := hb29.size
  have o29 := hk29.own
  simp only [List.mem_cons, List.not_mem_nil, or_false, forall_eq_or_imp, forall_eq] at o29
  have PC29 : CellsS w29 pa28 oneW.pats := liesS_chg P28 (Chg.kept hk29) (by simp only [List.mem_cons, List.not_mem_nil, or_false, forall_eq_or_imp, forall_eq]; omega)
  have FC29 : Cells w29 fa28 (fitsV oneW.fits) := (F28.out (Chg.kept hk29) (by simp only [List.mem_cons, List.not_mem_nil, or_false, forall_eq_or_imp, forall_eq]; omega)).cells
  refine Pure.calls (Good_any ⟨1, [998]⟩ (Cells.obj (vs := ints [998]) hc_m77) (by decide) PC29 FC29 oneW_small) fun w30 hd30 => ?_
  have y30 := hd30.size
  rw [ex_good]
  refine ⟨_, _, rfl, .all hd30, ?_⟩
  have hs : ∀ {own : List Nat} {u v : World}, Kept own u v → (∀ x ∈ own, x ∈ [m77, m66, m65, m54, m53, m52, m51, m50, m49, m36, m35, m24, m23, m17, m16]) → Chg [m77, m66, m65, m54, m53, m52, m51, m50, m49, m36, m35, m24, m23, m17, m16] u v := fun hk h => (Chg.kept hk).mono fun x hx => .inl (h x hx)
  have hbl : ∀ {u v : World}, Below u.heap.size u v → Chg [m77, m66, m65, m54, m53, m52, m51, m50, m49, m36, m35, m24, m23, m17, m16] u v := fun h => Chg.of_below h
  have C4_14 : Chg [m77, m66, m65, m54, m53, m52, m51, m50, m49, m36, m35, m24, m23, m17, m16] w4 w14 := ((hs hk5 (by simp)).trans ((hbl hd6).trans ((hs hk7 (by simp)).trans ((hbl hd8).trans ((hs hk9 (by simp)).trans ((hbl hd10).trans ((hs hk11 (by simp)).trans ((hbl hd12).trans ((hs hk13 (by simp)).trans (hbl hd14))))))))))
  have C14_18 : Chg [m77, m66, m65, m54, m53, m52, m51, m50, m49, m36, m35, m24, m23, m17, m16] w14 w18 := ((hs hk15 (by simp)).trans ((hbl hd16).trans ((hs hk17 (by simp)).trans (hbl hd18))))
  have C18_22 : Chg [m77, m66, m65, m54, m53, m52, m51, m50, m49, m36, m35, m24, m23, m17, m16] w18 w22 := ((hs hk19 (by simp)).trans ((hbl hd20).trans ((hs hk21 (by simp)).trans (hbl hd22))))
  have C22_26 : Chg [m77, m66, m65, m54, m53, m52, m51, m50, m49, m36, m35, m24, m23, m17, m16] w22 w26 := ((hs hk23 (by simp)).trans ((hbl hd24).trans ((hs hk25 (by simp)).trans (hbl hd26))))
  have C26_30 : Chg [m77, m66, m65, m54, m53, m52, m51, m50, m49, m36, m35, m24, m23, m17, m16] w26 w30 := ((hs hk27 (by simp)).trans ((hbl hd28).trans ((hs hk29 (by simp)).trans (hbl hd30))))
  have D30 := D26.out C26_30 (by simp only [List.mem_cons, List.not_mem_nil, or_false, forall_eq_or_imp, forall_eq]; omega)
  have DC30 := (D22.out C22_26 (by simp only [List.mem_cons, List.not_mem_nil, or_false, forall_eq_or_imp, forall_eq]; omega)).out C26_30 (by simp only [List.mem_cons, List.not_mem_nil, or_false, forall_eq_or_imp, forall_eq]; omega)
  have DA30 := ((E18.out C18_22 (by simp only [List.mem_cons, List.not_mem_nil, or_false, forall_eq_or_imp, forall_eq]; omega)).out C22_26 (by simp only [List.mem_cons, List.not_mem_nil, or_false, forall_eq_or_imp, forall_eq]; omega)).out C26_30 (by simp only [List.mem_cons, List.not_mem_nil, or_false, forall_eq_or_imp, forall_eq]; omega)
  have DP30 := (((D14.out C14_18 (by simp only [List.mem_cons, List.not_mem_nil, or_false, forall_eq_or_imp, forall_eq]; omega)).out C18_22 (by simp only [List.mem_cons, List.not_mem_nil, or_false, forall_eq_or_imp, forall_eq]; omega)).out C22_26 (by simp only [List.mem_cons, List.not_mem_nil, or_false, forall_eq_or_imp, forall_eq]; omega)).out C26_30 (by simp only [List.mem_cons, List.not_mem_nil, or_false, forall_eq_or_imp, forall_eq]; omega)
  have DL30 := ((((D4.out C4_14 (by simp only [List.mem_cons, List.not_mem_nil, or_false, forall_eq_or_imp, forall_eq]; omega)).out C14_18 (by simp only [List.mem_cons, List.not_mem_nil, or_false, forall_eq_or_imp, forall_eq]; omega)).out C18_22 (by simp only [List.mem_cons, List.not_mem_nil, or_false, forall_eq_or_imp, forall_eq]; omega)).out C22_26 (by simp only [List.mem_cons, List.not_mem_nil, or_false, forall_eq_or_imp, forall_eq]; omega)).out C26_30 (by simp only [List.mem_cons, List.not_mem_nil, or_false, forall_eq_or_imp, forall_eq]; omega)
  refine ⟨fun ls w' => match ls with | [.bool t] => t = false ∧ Chg [m77, m66, m65, m54, m53, m52, m51, m50, m49, m36, m35, m24, m23, m17, m16] w30 w' | _ => False, ⟨fun h => absurd rfl h, fun _ => ⟨fun h => absurd rfl h, fun _ => ⟨fun h => absurd rfl h, fun _ => ⟨fun h => absurd rfl h, fun _ => ⟨fun h => absurd rfl h, fun _ => ⟨fun h => absurd rfl h, fun _ => ⟨fun h => absurd rfl h, fun _ => ⟨fun h => absurd rfl h, fun _ => ⟨fun h => absurd rfl h, fun _ => ⟨fun h => absurd rfl h, fun _ => ⟨fun h => absurd rfl h, fun _ => ⟨fun h => absurd rfl h, fun _ => fun w44 hb44 hk44 => ⟨rfl, hs hk44 (fun _ h => h)⟩⟩⟩⟩⟩⟩⟩⟩⟩⟩⟩⟩⟩, ?_⟩
  rintro t2 w45 hb45 ⟨rfl, c45⟩
  refine ⟨fun h => (by cases h), fun _ => ?_⟩
  have z45 := c45.size
  have D45 := D30.out c45 (by simp only [List.mem_cons, List.not_mem_nil, or_false, forall_eq_or_imp, forall_eq]; omega)
  have DC45 := DC30.out c45 (by simp only [List.mem_cons, List.not_mem_nil, or_false, forall_eq_or_imp, forall_eq]; omega)
  have DA45 := DA30.out c45 (by simp only [List.mem_cons, List.not_mem_nil, or_false, forall_eq_or_imp, forall_eq]; omega)
  have DP45 := DP30.out c45 (by simp only [List.mem_cons, List.not_mem_nil, or_false, forall_eq_or_imp, forall_eq]; omega)
  have DL45 := DL30.out c45 (by simp only [List.mem_cons, List.not_mem_nil, or_false, forall_eq_or_imp, forall_eq]; omega)
  obtain ⟨b1, p1, rfl, ⟨_, l1, h1⟩, q1⟩ := DL45 0 _ rfl
  refine ⟨b1, p1, rfl, ⟨by omega, by decide⟩, 0, 1006, 990, cell_at' q1 (by simp), cell_at' (DL45.at (i := 1) rfl).2 (by simp), cell_at' (DL45.at (i := 2) rfl).2 (by simp), .inr ⟨by omega, by omega, by omega, by omega, by omega, by omega, by omega, by omega, by omega, by omega, by omega, by omega, by omega, by omega, by omega⟩, fun w47 hb47 hk47 => eqlr_gap ⟨true, rfl, .all (.refl _ _), fun _ => ?_, fun h => (by cases h)⟩⟩
  intro w49 hb49 hk49
  refine Pure.calls (span_any _ _) fun w50 hd50 => ⟨_, _, rfl, .all hd50, fun w51 hb51 hk51 => eqlr_span ⟨true, rfl, .all (.refl _ _), fun _ => ?_, fun h => (by cases h)⟩⟩
  intro w53 hb53 hk53
  refine Pure.calls (span_any _ _) fun w54 hd54 => ⟨_, _, rfl, .all hd54, fun w55 hb55 hk55 => eqlr_span ⟨true, rfl, .all (.refl _ _), fun _ => ?_, fun h => (by cases h)⟩⟩
  have c55 : Chg [m77, m66, m65, m54, m53, m52, m51, m50, m49, m36, m35, m24, m23, m17, m16] w45 w55 := hk47.chg.trans (hk49.chg.trans ((hbl hd50).trans (hk51.chg.trans (hk53.chg.trans ((hbl hd54).trans hk55.chg)))))
  have D55 := D45.out c55 (by simp only [List.mem_cons, List.not_mem_nil, or_false, forall_eq_or_imp, forall_eq]; omega)
  have DC55 := DC45.out c55 (by simp only [List.mem_cons, List.not_mem_nil, or_false, forall_eq_or_imp, forall_eq]; omega)
  have DA55 := DA45.out c55 (by simp only [List.mem_cons, List.not_mem_nil, or_false, forall_eq_or_imp, forall_eq]; omega)
  have DP55 := DP45.out c55 (by simp only [List.mem_cons, List.not_mem_nil, or_false, forall_eq_or_imp, forall_eq]; omega)
  obtain ⟨b2, p2, rfl, ⟨_, l2, h2⟩, q2⟩ := DP55 0 _ rfl
  refine ⟨b2, p2, rfl, ⟨by omega, by decide⟩, 0, 2, cell_at' q2 (by simp), cell_at' (DP55.at (i := 1) rfl).2 (by simp), .inr ⟨by omega, by omega, by omega, by omega, by omega, by omega, by omega, by omega, by omega, by omega, by omega, by omega, by omega, by omega, by omega⟩, fun w57 hb57 hk57 => ⟨.bool true, w57, by kernel_rfl, true, rfl, .all (.refl _ _), fun _ => ?_, fun h => (by cases h)⟩⟩
  have DP57 := DP55.out hk57.chg (by simp only [List.mem_cons, List.not_mem_nil, or_false, forall_eq_or_imp, forall_eq]; omega)
  refine ⟨b2, p2, rfl, ⟨by omega, by decide⟩, 2, 1, cell_at' (DP57.at (i := 4) rfl).2 (by simp), cell_at' (DP57.at (i := 5) rfl).2 (by simp), .inr ⟨by omega, by omega, by omega, by omega, by omega, by omega, by omega, by omega, by omega, by omega, by omega, by omega, by omega, by omega, by omega⟩, fun w59 hb59 hk59 => ⟨.bool true, w59, by kernel_rfl, true, rfl, .all (.refl _ _), fun _ => ?_, fun h => (by cases h)⟩⟩
  have D59 := (D55.out hk57.chg (by simp only [List.mem_cons, List.not_mem_nil, or_false, forall_eq_or_imp, forall_eq]; omega)).out hk59.chg (by simp only [List.mem_cons, List.not_mem_nil, or_false, forall_eq_or_imp, forall_eq]; omega)
  have DC59 := (DC55.out hk57.chg (by simp only [List.mem_cons, List.not_mem_nil, or_false, forall_eq_or_imp, forall_eq]; omega)).out hk59.chg (by simp only [List.mem_cons, List.not_mem_nil, or_false, forall_eq_or_imp, forall_eq]; omega)
  have DA59 := (DA55.out hk57.chg (by simp only [List.mem_cons, List.not_mem_nil, or_false, forall_eq_or_imp, forall_eq]; omega)).out hk59.chg (by simp only [List.mem_cons, List.not_mem_nil, or_false, forall_eq_or_imp, forall_eq]; omega)
  obtain ⟨b3, p3, rfl, ⟨_, l3, h3⟩, q3⟩ := DA59 0 _ rfl
  obtain ⟨b4, p4, rfl, ⟨_, l4, h4⟩, q4⟩ := DC59 0 _ rfl
  obtain ⟨b5, p5, rfl, ⟨_, l5, h5⟩, q5⟩ := D59 0 _ rfl
  refine ⟨b3, p3, rfl, ⟨by omega, by decide⟩, 2, cell_at' (DA59.at (i := 1) rfl).2 (by simp), .inr ⟨by omega, by omega, by omega, by omega, by omega, by omega, by omega, by omega, by omega, by omega, by omega, by omega, by omega, by omega, by omega⟩, fun _ => ?_, fun h => absurd rfl h⟩
  refine ⟨b4, p4, rfl, ⟨by omega, by decide⟩, 1, cell_at' q4 (by simp), .inr ⟨by omega, by omega, by omega, by omega, by omega, by omega, by omega, by omega, by omega, by omega, by omega, by omega, by omega, by omega, by omega⟩, fun _ => ?_, fun h => absurd rfl h⟩
  refine ⟨b5, p5, rfl, ⟨by omega, by decide⟩, 20, cell_at' q5 (by simp), .inr ⟨by omega, by omega, by omega, by omega, by omega, by omega, by omega, by omega, by omega, by omega, by omega, by omega, by omega, by omega, by omega⟩, fun _ => ?_, fun h => absurd rfl h⟩
  refine ⟨b5, p5, rfl, ⟨by omega, by decide⟩, 10, cell_at' (D59.at (i := 1) rfl).2 (by simp), .inr ⟨by omega, by omega, by omega, by omega, by omega, by omega, by omega, by omega, by omega, by omega, by omega, by omega, by omega, by omega, by omega⟩, fun _ w61 hb61 _ => ⟨rfl, hb61⟩, fun h => absurd rfl h⟩
end Go.Proofs.R12
end
section
/- The conditions of the functions, printed by program; each is what the generator reckons (kernel_rfl). -/
namespace Go.Proofs
open Go.Vc
end Go.Proofs
end
section
/- The law PartSpares, walked. -/
namespace Go.Proofs.R12
open Go.Vc Go.RowKit Go.Proofs
end Go.Proofs.R12
end
section
/- The laws' arguments, opened. -/
namespace Go.Proofs.R12
open Go.Vc Go.RowKit Go.Proofs

theorem Try.own : ownKnob Try.prog.godebug = none := by kernel_rfl
theorem Try.laidOut : laidOutB Try.prog = true := by kernel_rfl
abbrev Li : Leaf := .int .i64
def In64 (x : Int) : Prop := rng .i64 x
section
variable {w : World}
end
section
variable {w : World} {H : Type} {enc : TypeId × Value → H} {base b0 : Nat} {held : Bool} {spare : Nat → Bool} {reach : Reach}
end
end Go.Proofs.R12
end
section
/- The laws PartLooses and PartGauges, walked. -/
namespace Go.Proofs.R12
open Go.Vc Go.RowKit Go.Proofs
end Go.Proofs.R12
end
section
/- Enough spares: the plain law. -/
namespace Go.Proofs.R12
open Go.Vc Go.RowKit Go.Proofs

/-- Replacements of one clock before a year. -/
def qT (lo frm Y : Int) : Int := max 0 ((Y - 1 - frm).tdiv lo)
theorem qT_nonneg (lo frm Y : Int) : 0 ≤ qT lo frm Y := by unfold qT; omega
theorem qT_ge {lo frm Y k : Int} (hl : 1 ≤ lo) (hk : 1 ≤ k) : k ≤ qT lo frm Y ↔ frm + k * lo ≤ Y - 1 := by
  unfold qT
  have hd := Int.mul_tdiv_add_tmod (Y - 1 - frm) lo
  by_cases hn : 0 ≤ Y - 1 - frm
  · have e : (Y - 1 - frm).tdiv lo = (Y - 1 - frm) / lo := Int.tdiv_eq_ediv_of_nonneg hn
    rw [e]
    have h2 : k ≤ (Y - 1 - frm) / lo ↔ k * lo ≤ Y - 1 - frm := Int.le_ediv_iff_mul_le (by omega)
    constructor
    · intro h
      have : k ≤ (Y - 1 - frm) / lo := by omega
      have := h2.1 this; omega
    · intro h
      have := h2.2 (by omega); omega
  · have e : (Y - 1 - frm).tdiv lo ≤ 0 := by
      by_cases hz : (Y - 1 - frm).tdiv lo ≤ 0
      · exact hz
      · exfalso
        have hm : lo * 1 ≤ lo * (Y - 1 - frm).tdiv lo := Int.mul_le_mul_of_nonneg_left (by omega) (by omega)
        have hr : (Y - 1 - frm).tmod lo ≤ 0 ∧ -lo < (Y - 1 - frm).tmod lo := ⟨by
          have := Int.tmod_nonneg (a := -(Y - 1 - frm)) lo (by omega)
          rw [Int.neg_tmod] at this; omega, by
          have := Int.tmod_lt_of_pos (-(Y - 1 - frm)) (b := lo) (by omega)
          rw [Int.neg_tmod] at this; omega⟩
        omega
    constructor
    · intro h; omega
    · intro h
      have : 1 * lo ≤ k * lo := Int.mul_le_mul_of_nonneg_right hk (by omega)
      omega
theorem qT_mono {lo frm Y Z : Int} (hl : 1 ≤ lo) (h : Y ≤ Z) : qT lo frm Y ≤ qT lo frm Z := by
  by_cases h0 : qT lo frm Y ≤ 0
  · have := qT_nonneg lo frm Z; omega
  · have h1 := (qT_ge (Y := Y) (frm := frm) (k := qT lo frm Y) hl (by omega)).1 (Int.le_refl _)
    exact (qT_ge hl (by omega)).2 (by omega)
theorem qT_bd {lo frm Y : Int} (hl : 1 ≤ lo) (hf : 0 ≤ frm) (hY : Y ≤ 1000) : qT lo frm Y ≤ 1000 := by
  by_cases h0 : qT lo frm Y ≤ 0
  · omega
  · have h1 := (qT_ge (Y := Y) (frm := frm) (k := qT lo frm Y) hl (by omega)).1 (Int.le_refl _)
    have : qT lo frm Y * 1 ≤ qT lo frm Y * lo := Int.mul_le_mul_of_nonneg_left hl (by omega)
    omega
theorem most_q (x : Con) (Y lo : Int) : mostM x Y lo = x.clocks * qT lo x.frm (min Y x.to) := rfl

/-- What was used before a year. -/
def cum (U : List Int) (Y : Int) : Int := (U.take Y.toNat).sum
theorem cum_zero (U : List Int) : cum U 0 = 0 := by simp [cum]
theorem cum_step {U : List Int} {Y : Int} (h0 : 0 ≤ Y) (h : Y < U.length) : cum U (Y + 1) = cum U Y + U.getD Y.toNat 0 := by
  unfold cum
  rw [show (Y + 1).toNat = Y.toNat + 1 by omega, List.take_add_one, getElem_of_lt (by omega), List.sum_append, List.getD_eq_getElem?_getD, getElem_of_lt (by omega)]
  simp
theorem sum_set {U : List Int} : ∀ {i n : Nat} {x : Int}, i < U.length → ((U.set i x).take n).sum = (U.take n).sum + (if i < n then x - U.getD i 0 else 0) := by
  induction U with
  | nil => intro i n x h; simp at h
  | cons a U ih =>
    intro i n x h
    cases n with
    | zero => simp
    | succ n =>
      cases i with
      | zero => simp; omega
      | succ i =>
        have := ih (i := i) (n := n) (x := x) (by simpa using h)
        simp only [List.set_cons_succ, List.take_succ_cons, List.sum_cons, this, List.getD_cons_succ, Nat.add_lt_add_iff_right]
        omega
theorem cum_set {U : List Int} {y : Int} {Y : Int} (h0 : 0 ≤ y) (h : y < U.length) (hY : 0 ≤ Y) : cum (U.set y.toNat (U.getD y.toNat 0 + 1)) Y = cum U Y + if y < Y then 1 else 0 := by
  unfold cum
  rw [sum_set (by omega)]
  by_cases hy : y < Y
  · rw [if_pos hy, if_pos (by omega)]; omega
  · rw [if_neg hy, if_neg (by omega)]
theorem cum_mono {U : List Int} (hU : ∀ x ∈ U, 0 ≤ x) {n m : Nat} (h : n ≤ m) : (U.take n).sum ≤ (U.take m).sum := by
  induction U generalizing n m with
  | nil => simp
  | cons a U ih =>
    cases n with
    | zero =>
      simp only [List.take_zero, List.sum_nil]
      have : ∀ {l : List Int}, (∀ x ∈ l, 0 ≤ x) → 0 ≤ l.sum := fun {l} => by
        induction l with
        | nil => simp
        | cons b l ih => intro hh; rw [List.sum_cons]; have := ih fun x hx => hh x (by simp [hx]); have := hh b (by simp); omega
      exact this fun x hx => hU x (List.mem_of_mem_take hx)
    | succ n =>
      cases m with
      | zero => omega
      | succ m =>
        rw [List.take_succ_cons, List.take_succ_cons, List.sum_cons, List.sum_cons]
        have := ih (fun x hx => hU x (by simp [hx])) (n := n) (m := m) (by omega)
        omega
theorem cum_le {U : List Int} (hU : ∀ x ∈ U, 0 ≤ x) {Y Z : Int} (h : Y ≤ Z) : cum U Y ≤ cum U Z := cum_mono hU (by omega)
theorem cum_nonneg {U : List Int} (hU : ∀ x ∈ U, 0 ≤ x) (Y : Int) : 0 ≤ cum U Y := by
  have := cum_mono hU (n := 0) (m := Y.toNat) (by omega)
  simpa [cum] using this

/-- Contracts as the law makes them. -/
structure ConOk (lo : Int) (x : Con) : Prop where
  c : 0 ≤ x.clocks ∧ x.clocks ≤ 5
  f : lo ≤ x.frm ∧ x.frm ≤ x.to
  t : x.to ≤ 200
theorem most_mono {lo : Int} {x : Con} (hl : 1 ≤ lo) (hx : ConOk lo x) {Y Z : Int} (h : Y ≤ Z) : mostM x Y lo ≤ mostM x Z lo := by
  rw [most_q, most_q]
  exact Int.mul_le_mul_of_nonneg_left (qT_mono hl (by omega)) hx.c.1
theorem most_bdE {lo : Int} {x : Con} (hl : 1 ≤ lo) (hx : ConOk lo x) (Y : Int) : 0 ≤ mostM x Y lo ∧ mostM x Y lo ≤ 5000 := by
  rw [most_q]
  have h1 := qT_nonneg lo x.frm (min Y x.to)
  have h2 := qT_bd (Y := min Y x.to) hl (frm := x.frm) (by have := hx.f; omega) (by have := hx.t; omega)
  have h3 : 0 ≤ x.clocks * qT lo x.frm (min Y x.to) := Int.mul_nonneg hx.c.1 h1
  have h4 : x.clocks * qT lo x.frm (min Y x.to) ≤ 5 * qT lo x.frm (min Y x.to) := Int.mul_le_mul_of_nonneg_right hx.c.2 h1
  omega
section
variable {lo : Int} {l : List Con} (hl : 1 ≤ lo) (hc : ∀ x ∈ l, ConOk lo x)
include hl hc
theorem sumB_mono {Y Z : Int} (h : Y ≤ Z) : ∀ k, k ≤ l.length → sumB lo l Y k ≤ sumB lo l Z k
  | 0, _ => Int.le_refl _
  | k + 1, hk => by
    rw [sumB_succ, sumB_succ]
    have h1 := sumB_mono h k (by omega)
    have h2 := most_mono hl ((all_getD (d := ⟨0, 0, 0⟩)).1 hc k (by omega)) h
    omega
theorem sumB_bdE (Y : Int) : ∀ k, k ≤ l.length → 0 ≤ sumB lo l Y k ∧ sumB lo l Y k ≤ 5000 * k
  | 0, _ => ⟨Int.le_refl _, by simp [sumB]⟩
  | k + 1, hk => by
    rw [sumB_succ]
    have h1 := sumB_bdE Y k (by omega)
    have h2 := most_bdE hl ((all_getD (d := ⟨0, 0, 0⟩)).1 hc k (by omega)) Y
    omega
theorem sumB_early {Y : Int} (h : Y ≤ 2 * lo) : ∀ k, k ≤ l.length → sumB lo l Y k = 0
  | 0, _ => rfl
  | k + 1, hk => by
    rw [sumB_succ, sumB_early h k (by omega), most_q]
    have hx := (all_getD (d := ⟨0, 0, 0⟩)).1 hc k (by omega)
    have hq : qT lo (l.getD k ⟨0, 0, 0⟩).frm (min Y (l.getD k ⟨0, 0, 0⟩).to) = 0 := by
      have h0 := qT_nonneg lo (l.getD k ⟨0, 0, 0⟩).frm (min Y (l.getD k ⟨0, 0, 0⟩).to)
      by_cases h1 : 1 ≤ qT lo (l.getD k ⟨0, 0, 0⟩).frm (min Y (l.getD k ⟨0, 0, 0⟩).to)
      · have := (qT_ge hl (Int.le_refl 1)).1 h1
        have := hx.f
        omega
      · omega
    rw [hq]; simp
end
/-- Orders as the law makes them. -/
structure OrdOk (lo : Int) (o : List Int) : Prop where
  n : 0 < o.length ∧ o.length ≤ 6
  inc : ∀ j : Nat, j < o.length → 0 < j → o.getD (j - 1) 0 < o.getD j 0
  bd : ∀ y ∈ o, 0 ≤ y ∧ y ≤ 200
  fst : o.getD 0 0 < 2 * lo
theorem OrdOk.lt {lo : Int} {o : List Int} (h : OrdOk lo o) {i j : Nat} (hij : i < j) (hj : j < o.length) : o.getD i 0 < o.getD j 0 := by
  induction j with
  | zero => omega
  | succ j ih =>
    have h1 := h.inc (j + 1) hj (by omega)
    simp only [Nat.add_sub_cancel] at h1
    by_cases e : i = j
    · subst e; exact h1
    · have := ih (by omega) (by omega); omega
def nextO (o : List Int) (j : Nat) : Int := (nexts o).getD j 0
theorem nextO_eq {o : List Int} {j : Nat} (hj : j < o.length) : nextO o j = if j + 1 < o.length then o.getD (j + 1) 0 else 201 := by
  unfold nextO nexts
  rw [List.getD_eq_getElem?_getD, List.getElem?_append]
  by_cases h : j + 1 < o.length
  · rw [if_pos h, if_pos (by simp; omega), List.getElem?_drop, Nat.add_comm, List.getD_eq_getElem?_getD]
  · rw [if_neg h, if_neg (by simp; omega)]
    have : j - (o.drop 1).length = 0 := by simp; omega
    rw [this]; rfl
theorem nextO_gt {lo : Int} {o : List Int} (h : OrdOk lo o) {j : Nat} (hj : j < o.length) : o.getD j 0 < nextO o j ∧ nextO o j ≤ 201 := by
  rw [nextO_eq hj]
  have h1 := (all_getD (d := 0)).1 h.bd j hj
  split
  · rename_i hj2
    have h2 := (all_getD (d := 0)).1 h.bd (j + 1) hj2
    exact ⟨h.lt (Nat.lt_succ_self j) hj2, by omega⟩
  · omega
section
variable {lo hi : Int} {l : List Con} {o : List Int}
theorem spares_ok (hl : 1 ≤ lo ∧ lo ≤ hi ∧ hi ≤ 200) (hn : l.length ≤ 4) (hc : ∀ x ∈ l, ConOk lo x) (ho : OrdOk lo o) : SparesM (lo, hi) l o = (outL lo l o o.length, 0) := by
  have hoc : ∀ x ∈ l, okCon x := fun x hx => by
    have := hc x hx
    obtain ⟨⟨a, b⟩, ⟨c, d⟩, e⟩ := this
    unfold okCon; omega
  unfold SparesM
  rw [if_neg (by unfold okS; simp only; omega), if_neg (by have := ho.n; omega), if_neg (by simpa using hoc), if_neg (by simp only [Decidable.not_not]; exact ⟨fun j hj h0 => ho.inc j hj h0, ho.n.1, ho.bd⟩), if_neg]
  rw [sumB_early hl.1 hc (by have := ho.fst; omega) _ (Nat.le_refl _)]
  decide
theorem outL_get {j k : Nat} (h : j < k) : (outL lo l o k).getD j 0 = bought lo l o (j + 1) - bought lo l o j := by
  unfold outL
  rw [List.getD_eq_getElem?_getD, List.getElem?_map, List.getElem?_range h]
  rfl
theorem bought_succ (j : Nat) : bought lo l o (j + 1) = sumB lo l (nextO o j) l.length := rfl
theorem bought_bdE (hl : 1 ≤ lo) (hn : l.length ≤ 4) (hc : ∀ x ∈ l, ConOk lo x) (j : Nat) : 0 ≤ bought lo l o j ∧ bought lo l o j ≤ 20000 := by
  cases j with
  | zero => simp [bought]
  | succ j =>
    rw [bought_succ]
    have := sumB_bdE hl hc (nextO o j) l.length (Nat.le_refl _)
    omega
theorem bought_mono (hl : 1 ≤ lo) (hc : ∀ x ∈ l, ConOk lo x) (ho : OrdOk lo o) {j : Nat} (hj : j < o.length) : bought lo l o j ≤ bought lo l o (j + 1) := by
  cases j with
  | zero => exact (sumB_bdE hl hc (nextO o 0) l.length (Nat.le_refl _)).1
  | succ j =>
    rw [bought_succ, bought_succ]
    refine sumB_mono hl hc ?_ _ (Nat.le_refl _)
    rw [nextO_eq (by omega), if_pos hj]
    have := (nextO_gt ho hj).1
    omega

/-- What one truth uses: no more than is said, and just as much if all lives are short. -/
structure Uses (tr : Int) (U : List Int) (B : Int → Int) : Prop where
  n : U.length = 201
  p : ∀ x ∈ U, 0 ≤ x
  le : ∀ Y, 0 ≤ Y → Y ≤ 201 → cum U Y ≤ B Y
  eq : tr = 1 → ∀ Y, 0 ≤ Y → Y ≤ 201 → cum U Y = B Y
theorem Uses.zero (tr : Int) : Uses tr (List.replicate 201 0) fun _ => 0 := by
  have : ∀ Y, cum (List.replicate 201 0) Y = 0 := fun Y => by
    unfold cum; rw [List.take_replicate, List.sum_replicate_int]; omega
  exact ⟨List.length_replicate, fun x hx => by rw [List.eq_of_mem_replicate hx]; omega, fun Y _ _ => by rw [this]; omega, fun _ Y _ _ => this Y⟩
theorem Uses.mono {tr : Int} {U : List Int} {B C : Int → Int} (h : Uses tr U B) (e : ∀ Y, 0 ≤ Y → Y ≤ 201 → B Y = C Y) : Uses tr U C :=
  ⟨h.n, h.p, fun Y a b => by rw [← e Y a b]; exact h.le Y a b, fun t Y a b => by rw [← e Y a b]; exact h.eq t Y a b⟩
/-- A clock's k replacements: the last one in year y. -/
structure Clock (tr lo frm to k y : Int) : Prop where
  kn : 0 ≤ k
  yl : frm + k * lo ≤ y
  ye : tr = 1 → y = frm + k * lo
  yt : k = 0 ∨ y < to
def kq (lo frm k Y : Int) : Int := min k (qT lo frm Y)
theorem Uses.more {tr frm to k y lives : Int} {U : List Int} {B : Int → Int} (hl : 1 ≤ lo) (hf : lo ≤ frm) (ht : to ≤ 200) (h : Uses tr U fun Y => B Y + kq lo frm k Y) (hc : Clock tr lo frm to k y) (hv : lo ≤ lives) (hv1 : tr = 1 → lives = lo) (hy : y + lives < to) :
    Uses tr (U.set (y + lives).toNat (U.getD (y + lives).toNat 0 + 1)) (fun Y => B Y + kq lo frm (k + 1) Y) ∧ Clock tr lo frm to (k + 1) (y + lives) ∧ cum (U.set (y + lives).toNat (U.getD (y + lives).toNat 0 + 1)) 201 = cum U 201 + 1 := by
  have hk := hc.kn
  have hkl : 0 ≤ k * lo := Int.mul_nonneg hk (by omega)
  have e1 : (k + 1) * lo = k * lo + lo := by rw [Int.add_mul, Int.one_mul]
  have hy1 := hc.yl
  have hlen := h.n
  have hyr : 0 ≤ y + lives ∧ y + lives < U.length := by omega
  have hset := fun Y (hY : 0 ≤ Y) => cum_set (U := U) (y := y + lives) (Y := Y) hyr.1 hyr.2 hY
  have key : ∀ Y, 0 ≤ Y → (Y ≤ y + lives → kq lo frm k Y ≤ kq lo frm (k + 1) Y) ∧ (y + lives < Y → kq lo frm (k + 1) Y = k + 1 ∧ kq lo frm k Y = k) := fun Y hY => by
    constructor
    · intro _; unfold kq; omega
    · intro hY2
      have : k + 1 ≤ qT lo frm Y := (qT_ge hl (by omega)).2 (by omega)
      unfold kq; omega
  refine ⟨⟨by rw [List.length_set]; exact hlen, fun x hx => ?_, fun Y a b => ?_, fun t Y a b => ?_⟩, ⟨by omega, by rw [e1]; omega, fun t => ?_, .inr hy⟩, ?_⟩
  · rcases List.mem_or_eq_of_mem_set hx with hx | rfl
    · exact h.p x hx
    · have := (all_getD (d := 0)).1 h.p (y + lives).toNat (by omega); omega
  · have h1 := h.le Y a b
    have h2 := key Y a
    try simp only at h1 ⊢
    rw [hset Y a]
    split <;> omega
  · have h1 := h.eq t Y a b
    have h2 := key Y a
    have h3 := hc.ye t
    have h4 := hv1 t
    try simp only at h1 ⊢
    rw [hset Y a]
    by_cases hY : y + lives < Y
    · rw [if_pos hY]; omega
    · rw [if_neg hY]
      have : kq lo frm (k + 1) Y = kq lo frm k Y := by
        have hq : ¬ (k + 1 ≤ qT lo frm Y) := fun hh => by have := (qT_ge hl (by omega)).1 hh; omega
        unfold kq; omega
      omega
  · rw [e1, hc.ye t, hv1 t]; omega
  · rw [hset 201 (by omega), if_pos (by omega)]
theorem Uses.done {tr frm to k y lives : Int} {U : List Int} {B : Int → Int} (hl : 1 ≤ lo) (h : Uses tr U fun Y => B Y + kq lo frm k Y) (hc : Clock tr lo frm to k y) (hv : lo ≤ lives) (hv1 : tr = 1 → lives = lo) (hy : to ≤ y + lives) :
    Uses tr U (fun Y => B Y + qT lo frm (min Y to)) := by
  have hk := hc.kn
  have e1 : (k + 1) * lo = k * lo + lo := by rw [Int.add_mul, Int.one_mul]
  have hy1 := hc.yl
  have hkto : k ≤ qT lo frm to := by
    rcases hc.yt with h0 | h0
    · have := qT_nonneg lo frm to; omega
    · by_cases h1 : k = 0
      · have := qT_nonneg lo frm to; omega
      · exact (qT_ge hl (by omega)).2 (by omega)
  have hmin : ∀ Y, qT lo frm (min Y to) = min (qT lo frm Y) (qT lo frm to) := fun Y => by
    rcases Int.le_total Y to with hh | hh
    · have := qT_mono (frm := frm) hl hh; rw [Int.min_eq_left hh]; omega
    · have := qT_mono (frm := frm) hl hh; rw [Int.min_eq_right hh]; omega
  refine ⟨h.n, h.p, fun Y a b => ?_, fun t Y a b => ?_⟩
  · have := h.le Y a b
    try simp only at this ⊢
    rw [hmin]; unfold kq at this; omega
  · have := h.eq t Y a b
    have h3 := hc.ye t
    have h4 := hv1 t
    have hq : ¬ (k + 1 ≤ qT lo frm to) := fun hh => by have := (qT_ge hl (by omega)).1 hh; omega
    try simp only at this ⊢
    rw [hmin]; unfold kq at this; omega

/-- The office's stock at the beginning of a year. -/
structure Stock (lo : Int) (l : List Con) (o : List Int) (tr : Int) (U Lm : List Int) (st ord y : Int) : Prop where
  ob : 0 ≤ ord ∧ ord ≤ o.length
  past : ∀ j : Nat, (j : Int) < ord → o.getD j 0 < y
  next : ord < o.length → y ≤ o.getD ord.toNat 0
  se : st = bought lo l o ord.toNat - cum U y
  ln : Lm.length = o.length
  lm : ∀ j : Nat, j < o.length → nextO o j ≤ y → Lm.getD j 0 = bought lo l o (j + 1) - cum U (nextO o j)
/-- .. and after its orders. -/
structure Stock2 (lo : Int) (l : List Con) (o : List Int) (U Lm : List Int) (st ord y : Int) : Prop where
  ob : 0 ≤ ord ∧ ord ≤ o.length
  past : ∀ j : Nat, (j : Int) < ord → o.getD j 0 ≤ y
  next : ord < o.length → y < o.getD ord.toNat 0
  se : st = bought lo l o ord.toNat - cum U y
  ln : Lm.length = o.length
  lm : ∀ j : Nat, j < o.length → nextO o j ≤ y → Lm.getD j 0 = bought lo l o (j + 1) - cum U (nextO o j)
theorem Stock.zero {tr : Int} {U : List Int} (ho : OrdOk lo o) : Stock lo l o tr U (List.replicate o.length 0) 0 0 0 := by
  refine ⟨by omega, fun j hj => by omega, fun _ => ((all_getD (d := 0)).1 ho.bd _ (by have := ho.n; omega)).1, by rw [cum_zero]; rfl, by simp, fun j hj hn => ?_⟩
  have := (nextO_gt ho hj).1
  have := ((all_getD (d := 0)).1 ho.bd j hj).1
  omega
theorem Stock.order {tr : Int} {U Lm : List Int} {st ord y : Int} (ho : OrdOk lo o) (h : Stock lo l o tr U Lm st ord y) (h1 : ord < o.length) (h2 : o.getD ord.toNat 0 = y) : Stock2 lo l o U Lm (st + (outL lo l o o.length).getD ord.toNat 0) (ord + 1) y := by
  have hor := h.ob
  refine ⟨by omega, fun j hj => ?_, fun h3 => ?_, ?_, h.ln, h.lm⟩
  · by_cases e : (j : Int) = ord
    · rw [show j = ord.toNat by omega]; omega
    · have := h.past j (by omega); omega
  · rw [← h2]; exact ho.lt (by omega) (by omega)
  · rw [outL_get (by omega), h.se, show (ord + 1).toNat = ord.toNat + 1 by omega]; omega
theorem Stock.noOrder {tr : Int} {U Lm : List Int} {st ord y : Int} (h : Stock lo l o tr U Lm st ord y) (h1 : ord < o.length → o.getD ord.toNat 0 ≠ y) : Stock2 lo l o U Lm st ord y :=
  ⟨h.ob, fun j hj => by have := h.past j hj; omega, fun h3 => by have := h.next h3; have := h1 h3; omega, h.se, h.ln, h.lm⟩
theorem Stock2.enough {tr : Int} {U Lm : List Int} {st ord y : Int} (hl : 1 ≤ lo) (hc : ∀ x ∈ l, ConOk lo x) (ho : OrdOk lo o) (hU : Uses tr U fun Y => sumB lo l Y l.length) (hy : 0 ≤ y ∧ y ≤ 200) (h : Stock2 lo l o U Lm st ord y) : 0 ≤ st - U.getD y.toNat 0 ∧ (ord = 0 → U.getD y.toNat 0 = 0) := by
  have hs := h.se
  have h1 := cum_step (U := U) (Y := y) hy.1 (by rw [hU.n]; omega)
  have h2 := hU.le (y + 1) (by omega) (by omega)
  have h3 := (all_getD (d := 0)).1 hU.p y.toNat (by rw [hU.n]; omega)
  have h4 := cum_nonneg hU.p y
  have hor := h.ob
  try simp only at h2
  by_cases h0 : ord = 0
  · subst h0
    have := h.next (by have := ho.n; omega)
    have hf := ho.fst
    rw [sumB_early hl hc (by simp only [Int.toNat_zero] at this; omega) _ (Nat.le_refl _)] at h2
    rw [show (0 : Int).toNat = 0 from rfl] at hs
    have : bought lo l o 0 = 0 := rfl
    omega
  · refine ⟨?_, fun e => absurd e h0⟩
    have hj : ord.toNat - 1 < o.length := by omega
    have hb : bought lo l o ord.toNat = sumB lo l (nextO o (ord.toNat - 1)) l.length := by
      rw [← bought_succ, show ord.toNat - 1 + 1 = ord.toNat by omega]
    have hn : y + 1 ≤ nextO o (ord.toNat - 1) := by
      rw [nextO_eq hj]
      split
      · rename_i h5
        have := h.next (by omega)
        rw [show ord.toNat - 1 + 1 = ord.toNat by omega]; omega
      · omega
    have := sumB_mono hl hc hn l.length (Nat.le_refl _)
    omega
theorem Stock2.step {tr : Int} {U Lm : List Int} {st ord y : Int} (ho : OrdOk lo o) (hU : U.length = 201) (hy : 0 ≤ y ∧ y ≤ 200) (h : Stock2 lo l o U Lm st ord y) :
    Stock lo l o tr U (if 0 < ord then Lm.set (ord - 1).toNat (st - U.getD y.toNat 0) else Lm) (st - U.getD y.toNat 0) ord (y + 1) := by
  have hor := h.ob
  have h1 := cum_step (U := U) (Y := y) hy.1 (by rw [hU]; omega)
  have hst : st - U.getD y.toNat 0 = bought lo l o ord.toNat - cum U (y + 1) := by have := h.se; omega
  refine ⟨hor, fun j hj => by have := h.past j hj; omega, fun h3 => by have := h.next h3; omega, hst, by split <;> simp [h.ln], fun j hj hn => ?_⟩
  by_cases e : nextO o j ≤ y
  · have hne : (j : Int) ≠ ord - 1 := fun hh => by
      have h3 : nextO o j = if j + 1 < o.length then o.getD (j + 1) 0 else 201 := nextO_eq hj
      split at h3
      · have := h.next (by omega)
        rw [show ord.toNat = j + 1 by omega] at this; omega
      · omega
    have := h.lm j hj e
    split
    · rw [List.getD_eq_getElem?_getD, List.getElem?_set_ne (by omega), ← List.getD_eq_getElem?_getD]; exact this
    · exact this
  · have e2 : nextO o j = y + 1 := by omega
    have h4 := (nextO_gt ho hj).1
    have hjo : (j : Int) < ord := by
      by_cases hh : (j : Int) < ord
      · exact hh
      · exfalso
        have := h.next (by omega)
        by_cases e3 : j = ord.toNat
        · subst e3; omega
        · have := ho.lt (i := ord.toNat) (j := j) (by omega) hj; omega
    have hj1 : (j : Int) = ord - 1 := by
      by_cases hh : (j : Int) = ord - 1
      · exact hh
      · exfalso
        have h5 := h.past (j + 1) (by omega)
        rw [nextO_eq hj, if_pos (by omega)] at e2
        omega
    rw [if_pos (by omega), List.getD_eq_getElem?_getD, show (ord - 1).toNat = j by omega, List.getElem?_set_self (by rw [h.ln]; exact hj), e2, show j + 1 = ord.toNat by omega]
    exact hst
theorem Stock.last {U Lm : List Int} {st ord : Int} (hU : Uses 1 U fun Y => sumB lo l Y l.length) (ho : OrdOk lo o) (h : Stock lo l o 1 U Lm st ord 201) {j : Nat} (hj : j < o.length) : Lm.getD j 0 = 0 := by
  have hn := nextO_gt ho hj
  have hb := ((all_getD (d := 0)).1 ho.bd j hj).1
  rw [h.lm j hj hn.2, hU.eq rfl _ (by omega) hn.2, bought_succ]
  omega
end
end Go.Proofs.R12
end
section
/- The conditions of the functions, printed by program; each is what the generator reckons (kernel_rfl). -/
namespace Go.Proofs
open Go.Vc
set_option maxRecDepth 100000 in
set_option maxHeartbeats 2000000 in
theorem vc11 (x0 : Int) (x1 : Int) (x2a : Option Addr) (x2n : Nat) (x2c : Nat) (x3a : Option Addr) (x3n : Nat) (x3c : Nat) (x4a : Option Addr) (x4n : Nat) (x4c : Nat) (w : World)
    (R : Ending → World → Prop) (h : ∀ (m1 : Nat), w.heap.size ≤ m1 → (-9223372036854775808 ≤ x0 ∧ x0 ≤ 9223372036854775807) ∧ (15 : Int) ≠ 0 ∧ ((-9223372036854775808 : Int) ≤ 1 +
    x0.tmod 15 ∧ 1 + x0.tmod (15 : Int) ≤ 9223372036854775807) ∧ (-9223372036854775808 ≤ x0 ∧ x0 ≤ 9223372036854775807) ∧ (15 : Int) ≠ 0 ∧ ((-9223372036854775808 : Int) ≤ 1 +
    x0.tmod 15 ∧ 1 + x0.tmod (15 : Int) ≤ 9223372036854775807) ∧ (-9223372036854775808 ≤ x1 ∧ x1 ≤ 9223372036854775807) ∧ (8 : Int) ≠ 0 ∧ ((-9223372036854775808 : Int) ≤ 1 +
    x0.tmod 15 + x1.tmod 8 ∧ 1 + x0.tmod 15 + x1.tmod (8 : Int) ≤ 9223372036854775807) ∧ ∀ (w1 : World), RowKit.Below w.heap.size w w1 → Kept [m1] w w1 → Calls Try.prog 42
    #[Value.int IntKind.i64 (1 + x0.tmod 15), Value.int IntKind.i64 (1 + x0.tmod 15 + x1.tmod 8)] w1 fun (e1 : Ending) (w2 : World) => ∃ (x1_1 : Int), ∃ (x2 : Int), e1 =
    Ending.returned (Value.agg #[Value.int IntKind.i64 x1_1, Value.int IntKind.i64 x2]) ∧ KeepX true w.heap.size [m1] (fun _ => False) w1 w2 ∧ ∀ (m3 : Nat), w2.heap.size ≤ m3 → ∀
    (m4 : Nat), w2.heap.size ≤ m4 → ∀ (m5 : Nat), w2.heap.size ≤ m5 → ∃ (F1 : List Lf → World → Prop), ∃ (F2 : List Lf → Nat), (∀ (w4 : World), RowKit.Below w.heap.size w w4 → Kept
    [m5, m4, m3, m1] w2 w4 → w4.heap[m4]? = some (Obj.cells #[] 80) → F1 [Lf.sl (some { block := m4, off := 0 }) 0 0, Lf.int IntKind.i64 0] w4) ∧ ∀ (a1 : Option Addr) (m7 m8 : Nat)
    (x3 : Int) (w5 : World), RowKit.Below w.heap.size w w5 → F1 [Lf.sl a1 m7 m8, Lf.int IntKind.i64 x3] w5 → ∃ (F3 : List Lf → World → Prop), ((x3 < (↑x2n : Int) → ∀ (w7 : World),
    RowKit.Below w.heap.size w w7 → Kept [m5, m3, m1] w5 w7 → w7.heap[m1]? = some (Obj.cells #[Value.int IntKind.u8 x0, Value.int IntKind.u8 x1, Value.slice x2a x2n x2c,
    Value.slice x3a x3n x3c, Value.slice x4a x4n x4c] 99) → F3 [Lf.bool (decide (x3 < 4))] w7) ∧ ((↑x2n : Int) ≤ x3 → ∀ (w8 : World), RowKit.Below w.heap.size w w8 → Kept [m5, m3,
    m1] w5 w8 → w8.heap[m1]? = some (Obj.cells #[Value.int IntKind.u8 x0, Value.int IntKind.u8 x1, Value.slice x2a x2n x2c, Value.slice x3a x3n x3c, Value.slice x4a x4n x4c] 99) →
    F3 [Lf.bool false] w8)) ∧ ∀ (t1 : Bool) (w9 : World), RowKit.Below w.heap.size w w9 → F3 [Lf.bool t1] w9 → (t1 = true → ∃ (m13 : Nat), ∃ (m14 : Nat), x2a = some
    { block := m13, off := m14 } ∧ (0 ≤ x3 ∧ x3 < (↑x2n : Int)) ∧ ∃ (x5 : Int), ∃ (x6 : Int), ∃ (x7 : Int), w9.cell? { block := m13, off := m14 + x3.toNat * 3 } = some (Value.int
    IntKind.u8 x5) ∧ w9.cell? { block := m13, off := m14 + x3.toNat * 3 + 1 } = some (Value.int IntKind.u8 x6) ∧ w9.cell? { block := m13, off := m14 + x3.toNat * 3 + 1 + 1 } = some
    (Value.int IntKind.u8 x7) ∧ (m13 < w.heap.size ∨ m13 ≠ m5 ∧ m13 ≠ m3 ∧ m13 ≠ m1) ∧ ∀ (m15 : Nat), w9.heap.size ≤ m15 → (-9223372036854775808 ≤ x6 ∧ x6 ≤ 9223372036854775807) ∧
    (30 : Int) ≠ 0 ∧ (-9223372036854775808 ≤ x1_1 + x6.tmod 30 ∧ x1_1 + x6.tmod (30 : Int) ≤ 9223372036854775807) ∧ (-9223372036854775808 ≤ x5 ∧ x5 ≤ 9223372036854775807) ∧ (6 :
    Int) ≠ 0 ∧ (-9223372036854775808 ≤ x7 ∧ x7 ≤ 9223372036854775807) ∧ (60 : Int) ≠ 0 ∧ (-9223372036854775808 ≤ x1_1 + x6.tmod 30 + x7.tmod 60 ∧ x1_1 + x6.tmod 30 + x7.tmod (60 :
    Int) ≤ 9223372036854775807) ∧ ∀ (m16 : Nat), w9.heap.size ≤ m16 → ∀ (w10 : World), RowKit.Below w.heap.size w w10 → Kept [m16, m5, m15, m3, m1] w9 w10 → w10.heap[m16]? = some
    (Obj.cells #[Value.int IntKind.i64 (x5.tmod 6), Value.int IntKind.i64 (x1_1 + x6.tmod 30), Value.int IntKind.i64 (min 200 (x1_1 + x6.tmod 30 + x7.tmod 60))] 80) → RunsTo
    Try.prog (Builtin.append_ #[77, 77] 77 #[Value.slice a1 m7 m8, Value.slice (some { block := m16, off := 0 }) 1 1]) w10 fun (v1 : Value) (w11 : World) => ∃ (a2 : Option Addr), ∃
    (m18 : Nat), ∃ (m19 : Nat), v1 = Value.slice a2 m18 m19 ∧ KeepX true w.heap.size [m16, m5, m15, m3, m1] (fun _ => False) w10 w11 ∧ (-9223372036854775808 ≤ x3 + 1 ∧ x3 + (1 :
    Int) ≤ 9223372036854775807) ∧ ∀ (w12 : World), RowKit.Below w.heap.size w w12 → Kept [m16, m5, m15, m3, m1] w11 w12 → F1 [Lf.sl a2 m18 m19, Lf.int IntKind.i64 (x3 + 1)] w12 ∧
    F2 [Lf.sl a2 m18 m19, Lf.int IntKind.i64 (x3 + 1)] < F2 [Lf.sl a1 m7 m8, Lf.int IntKind.i64 x3]) ∧ (t1 = false → ∃ (F4 : List Lf → World → Prop), ∃ (F5 : List Lf → Nat), (∀
    (w14 : World), RowKit.Below w.heap.size w w14 → Kept [m5, m3, m1] w9 w14 → w14.heap[m5]? = some (Obj.cells #[] 3) → F4 [Lf.sl (some { block := m5, off := 0 }) 0 0, Lf.int
    IntKind.i64 0, Lf.int IntKind.i64 0] w14) ∧ ∀ (a3 : Option Addr) (m22 m23 : Nat) (x8 x9 : Int) (w15 : World), RowKit.Below w.heap.size w w15 → F4 [Lf.sl a3 m22 m23, Lf.int
    IntKind.i64 x8, Lf.int IntKind.i64 x9] w15 → ∃ (F6 : List Lf → World → Prop), ((x9 = 0 → ∀ (w17 : World), RowKit.Below w.heap.size w w17 → Kept [m3, m1] w15 w17 → F6 [Lf.bool
    true] w17) ∧ (x9 ≠ 0 → (x9 < (↑x3n : Int) → ∀ (w18 : World), RowKit.Below w.heap.size w w18 → Kept [m3, m1] w15 w18 → w18.heap[m1]? = some (Obj.cells #[Value.int IntKind.u8 x0,
    Value.int IntKind.u8 x1, Value.slice x2a x2n x2c, Value.slice x3a x3n x3c, Value.slice x4a x4n x4c] 99) → F6 [Lf.bool (decide (x9 < 6))] w18) ∧ ((↑x3n : Int) ≤ x9 → ∀ (w19 :
    World), RowKit.Below w.heap.size w w19 → Kept [m3, m1] w15 w19 → w19.heap[m1]? = some (Obj.cells #[Value.int IntKind.u8 x0, Value.int IntKind.u8 x1, Value.slice x2a x2n x2c,
    Value.slice x3a x3n x3c, Value.slice x4a x4n x4c] 99) → F6 [Lf.bool false] w19))) ∧ ∀ (t2 : Bool) (w20 : World), RowKit.Below w.heap.size w w20 → F6 [Lf.bool t2] w20 → (t2 =
    true → ∀ (w21 : World), RowKit.Below w.heap.size w w21 → Kept [m3, m1] w20 w21 → Calls Try.prog 44 #[Value.slice x3a x3n x3c, Value.int IntKind.i64 x9] w21 fun (e2 : Ending)
    (w22 : World) => ∃ (x11 : Int), e2 = Ending.returned (Value.int IntKind.i64 x11) ∧ KeepX true w.heap.size [m3, m1] (fun _ => False) w21 w22 ∧ (20 : Int) ≠ 0 ∧
    (-9223372036854775808 ≤ x8 + x11.tmod 20 ∧ x8 + x11.tmod (20 : Int) ≤ 9223372036854775807) ∧ ∃ (F7 : List Lf → World → Prop), ((x9 = 0 → ∀ (w24 : World), RowKit.Below
    w.heap.size w w24 → KeptIn [(0, w22.heap.size)] [m3, m1] w22 w24 → Calls Try.prog 44 #[Value.slice x3a x3n x3c, Value.int IntKind.i64 0] w24 fun (e3 : Ending) (w25 : World) =>
    ∃ (x12 : Int), e3 = Ending.returned (Value.int IntKind.i64 x12) ∧ KeepX true w.heap.size [m3, m1] (fun _ => False) w24 w25 ∧ ((-9223372036854775808 : Int) ≤ 2 * x1_1 ∧ 2 * x1_1
    ≤ 9223372036854775807) ∧ 2 * x1_1 ≠ 0 ∧ ∀ (w26 : World), RowKit.Below w.heap.size w w26 → Kept [m3, m1] w25 w26 → w26.heap[m1]? = some (Obj.cells #[Value.int IntKind.u8 x0,
    Value.int IntKind.u8 x1, Value.slice x2a x2n x2c, Value.slice x3a x3n x3c, Value.slice x4a x4n x4c] 99) → w26.heap[m3]? = some (Obj.cells #[Value.int IntKind.i64 x1_1,
    Value.int IntKind.i64 x2] 42) → F7 [Lf.int IntKind.i64 (x12.tmod (2 * x1_1))] w26) ∧ (x9 ≠ 0 → ∀ (w27 : World), RowKit.Below w.heap.size w w27 → Kept [m3, m1] w22 w27 → F7
    [Lf.int IntKind.i64 (x8 + x11.tmod 20)] w27)) ∧ ∀ (x13 : Int) (w28 : World), RowKit.Below w.heap.size w w28 → F7 [Lf.int IntKind.i64 x13] w28 → ∃ (F8 : List Lf → World → Prop),
    (((↑m22 : Int) = 0 → ∀ (w30 : World), RowKit.Below w.heap.size w w30 → Kept [m3, m1] w28 w30 → F8 [Lf.bool true] w30) ∧ ((↑m22 : Int) ≠ 0 → (-9223372036854775808 ≤ (↑m22 : Int)
    - 1 ∧ (↑m22 : Int) - (1 : Int) ≤ 9223372036854775807) ∧ ∃ (m32 : Nat), ∃ (m33 : Nat), a3 = some { block := m32, off := m33 } ∧ (0 ≤ (↑m22 : Int) - 1 ∧ (↑m22 : Int) - 1 < (↑m22
    : Int)) ∧ ∃ (x14 : Int), w28.cell? { block := m32, off := m33 + ((↑m22 : Int) - 1).toNat * 1 } = some (Value.int IntKind.i64 x14) ∧ (m32 < w.heap.size ∨ m32 ≠ m3 ∧ m32 ≠ m1) ∧
    ∀ (w31 : World), RowKit.Below w.heap.size w w31 → Kept [m3, m1] w28 w31 → F8 [Lf.bool (decide (x14 < x13))] w31)) ∧ ∀ (t3 : Bool) (w32 : World), RowKit.Below w.heap.size w w32
    → F8 [Lf.bool t3] w32 → ∃ (F9 : List Lf → World → Prop), ((t3 = true → ∀ (m36 : Nat), w32.heap.size ≤ m36 → ∀ (w34 : World), RowKit.Below w.heap.size w w34 → Kept [m36, m3, m1]
    w32 w34 → w34.heap[m36]? = some (Obj.cells #[Value.int IntKind.i64 x13] 3) → RunsTo Try.prog (Builtin.append_ #[38, 38] 38 #[Value.slice a3 m22 m23, Value.slice (some
    { block := m36, off := 0 }) 1 1]) w34 fun (v2 : Value) (w35 : World) => ∃ (a4 : Option Addr), ∃ (m38 : Nat), ∃ (m39 : Nat), v2 = Value.slice a4 m38 m39 ∧ KeepX true w.heap.size
    [m36, m3, m1] (fun _ => False) w34 w35 ∧ ∀ (w36 : World), RowKit.Below w.heap.size w w36 → Kept [m36, m3, m1] w35 w36 → w36.heap[m36]? = some (Obj.cells #[Value.int IntKind.i64
    x13] 3) → F9 [Lf.sl a4 m38 m39] w36) ∧ (t3 = false → ∀ (w37 : World), RowKit.Below w.heap.size w w37 → Kept [m3, m1] w32 w37 → F9 [Lf.sl a3 m22 m23] w37)) ∧ ∀ (a5 : Option
    Addr) (m42 m43 : Nat) (w38 : World), RowKit.Below w.heap.size w w38 → F9 [Lf.sl a5 m42 m43] w38 → (-9223372036854775808 ≤ x9 + 1 ∧ x9 + (1 : Int) ≤ 9223372036854775807) ∧ ∀
    (w39 : World), RowKit.Below w.heap.size w w39 → Kept [m3, m1] w38 w39 → F4 [Lf.sl a5 m42 m43, Lf.int IntKind.i64 x13, Lf.int IntKind.i64 (x9 + 1)] w39 ∧ F5 [Lf.sl a5 m42 m43,
    Lf.int IntKind.i64 x13, Lf.int IntKind.i64 (x9 + 1)] < F5 [Lf.sl a3 m22 m23, Lf.int IntKind.i64 x8, Lf.int IntKind.i64 x9]) ∧ (t2 = false → ∀ (m44 : Nat), w20.heap.size ≤ m44 →
    ∀ (w40 : World), RowKit.Below w.heap.size w w40 → KeptIn [(0, w20.heap.size)] [m44, m3, m1] w20 w40 → w40.heap[m44]? = some (Obj.cells #[] 80) → RunsTo Try.prog
    (Builtin.append_ #[77, 77] 77 #[Value.slice (some { block := m44, off := 0 }) 0 0, Value.slice a1 m7 m8]) w40 fun (v3 : Value) (w41 : World) => ∃ (a6 : Option Addr), ∃ (m46 :
    Nat), ∃ (m47 : Nat), v3 = Value.slice a6 m46 m47 ∧ KeepX true w.heap.size [m44, m3, m1] (fun _ => False) w40 w41 ∧ ∀ (w42 : World), RowKit.Below w.heap.size w w42 → KeptIn [(0,
    w41.heap.size)] [m44, m3, m1] w41 w42 → Calls Try.prog 29 #[Value.slice a3 m22 m23] w42 fun (e4 : Ending) (w43 : World) => ∃ (a7 : Option Addr), ∃ (m49 : Nat), ∃ (m50 : Nat),
    e4 = Ending.returned (Value.slice a7 m49 m50) ∧ KeepX true w.heap.size [m44, m3, m1] (fun _ => False) w42 w43 ∧ ∀ (w44 : World), RowKit.Below w.heap.size w w44 → KeptIn [(0,
    w43.heap.size)] [m44, m3, m1] w43 w44 → Calls Try.prog 38 #[Value.agg #[Value.int IntKind.i64 x1_1, Value.int IntKind.i64 x2], Value.slice a6 m46 m47, Value.slice a7 m49 m50]
    w44 fun (e5 : Ending) (w45 : World) => ∃ (a8 : Option Addr), ∃ (m52 : Nat), ∃ (m53 : Nat), ∃ (x16 : Int), e5 = Ending.returned (Value.tuple #[Value.slice a8 m52 m53, Value.int
    IntKind.i64 x16]) ∧ KeepX true w.heap.size [m44, m3, m1] (fun _ => False) w44 w45 ∧ ∃ (F10 : List Lf → World → Prop), ((x16 ≠ 0 → ∀ (w47 : World), RowKit.Below w.heap.size w
    w47 → Kept [m44, m3, m1] w45 w47 → F10 [Lf.bool true] w47) ∧ (x16 = 0 → ∀ (w48 : World), RowKit.Below w.heap.size w w48 → Kept [m44, m3, m1] w45 w48 → F10 [Lf.bool ((↑m52 :
    Int) != (↑m22 : Int))] w48)) ∧ ∀ (t4 : Bool) (w49 : World), RowKit.Below w.heap.size w w49 → F10 [Lf.bool t4] w49 → (t4 = true → ∀ (w50 : World), RowKit.Below w.heap.size w w50
    → Kept [m44, m3, m1] w49 w50 → R (Ending.returned (Value.bool false)) w50) ∧ (t4 = false → ∃ (F11 : List Lf → World → Prop), ∃ (F12 : List Lf → Nat), (∀ (w52 : World),
    RowKit.Below w.heap.size w w52 → Kept [m44, m3, m1] w49 w52 → F11 [Lf.bool false, Lf.int IntKind.i64 0] w52) ∧ ∀ (t5 : Bool) (x17 : Int) (w53 : World), RowKit.Below w.heap.size
    w w53 → F11 [Lf.bool t5, Lf.int IntKind.i64 x17] w53 → (x17 < 2 → ∀ (w54 : World), RowKit.Below w.heap.size w w54 → Kept [m44, m3, m1] w53 w54 → RunsTo Try.prog
    (Instr.makeSlice 38 (Value.int IntKind.i64 201) (Value.int IntKind.i64 201)) w54 fun (v4 : Value) (w55 : World) => ∃ (a9 : Option Addr), ∃ (m55 : Nat), ∃ (m56 : Nat), v4 =
    Value.slice a9 m55 m56 ∧ KeepX true w.heap.size [m44, m3, m1] (fun _ => False) w54 w55 ∧ ∃ (F13 : List Lf → World → Prop), ∃ (F14 : List Lf → Nat), (∀ (w57 : World),
    RowKit.Below w.heap.size w w57 → Kept [m44, m3, m1] w55 w57 → F13 [Lf.int IntKind.i64 0, Lf.int IntKind.i64 0] w57) ∧ ∀ (x18 x19 : Int) (w58 : World), RowKit.Below w.heap.size
    w w58 → F13 [Lf.int IntKind.i64 x18, Lf.int IntKind.i64 x19] w58 → (x19 < (↑m7 : Int) → ∃ (F15 : List Lf → World → Prop), ∃ (F16 : List Lf → Nat), (∀ (w60 : World),
    RowKit.Below w.heap.size w w60 → Kept [m44, m3, m1] w58 w60 → F15 [Lf.int IntKind.i64 x18, Lf.int IntKind.i64 0] w60) ∧ ∀ (x20 x21 : Int) (w61 : World), RowKit.Below
    w.heap.size w w61 → F15 [Lf.int IntKind.i64 x20, Lf.int IntKind.i64 x21] w61 → ∃ (m58 : Nat), ∃ (m59 : Nat), a1 = some { block := m58, off := m59 } ∧ (0 ≤ x19 ∧ x19 < (↑m7 :
    Int)) ∧ ∃ (x22 : Int), w61.cell? { block := m58, off := m59 + x19.toNat * 3 + 0 } = some (Value.int IntKind.i64 x22) ∧ (m58 < w.heap.size ∨ m58 ≠ m44 ∧ m58 ≠ m3 ∧ m58 ≠ m1) ∧
    (x21 < x22 → ∃ (m60 : Nat), ∃ (m61 : Nat), a1 = some { block := m60, off := m61 } ∧ (0 ≤ x19 ∧ x19 < (↑m7 : Int)) ∧ ∃ (x23 : Int), w61.cell?
    { block := m60, off := m61 + x19.toNat * 3 + 1 } = some (Value.int IntKind.i64 x23) ∧ (m60 < w.heap.size ∨ m60 ≠ m44 ∧ m60 ≠ m3 ∧ m60 ≠ m1) ∧ ∃ (F17 : List Lf → World → Prop),
    ∃ (F18 : List Lf → Nat), (∀ (w63 : World), RowKit.Below w.heap.size w w63 → Kept [m44, m3, m1] w61 w63 → F17 [Lf.int IntKind.i64 x20, Lf.int IntKind.i64 x23] w63) ∧ ∀ (x24 x25
    : Int) (w64 : World), RowKit.Below w.heap.size w w64 → F17 [Lf.int IntKind.i64 x24, Lf.int IntKind.i64 x25] w64 → ∃ (F19 : List Lf → World → Prop), ((x17 = 0 → ∀ (w66 : World),
    RowKit.Below w.heap.size w w66 → KeptIn [(0, w64.heap.size)] [m44, m3, m1] w64 w66 → Calls Try.prog 44 #[Value.slice x4a x4n x4c, Value.int IntKind.i64 x24] w66 fun (e6 :
    Ending) (w67 : World) => ∃ (x26 : Int), e6 = Ending.returned (Value.int IntKind.i64 x26) ∧ KeepX true w.heap.size [m44, m3, m1] (fun _ => False) w66 w67 ∧ (-9223372036854775808
    ≤ x2 - x1_1 ∧ x2 - x1_1 ≤ 9223372036854775807) ∧ (-9223372036854775808 ≤ x2 - x1_1 + 1 ∧ x2 - x1_1 + (1 : Int) ≤ 9223372036854775807) ∧ x2 - x1_1 + (1 : Int) ≠ 0 ∧
    (-9223372036854775808 ≤ x1_1 + x26.tmod (x2 - x1_1 + 1) ∧ x1_1 + x26.tmod (x2 - x1_1 + 1) ≤ 9223372036854775807) ∧ (-9223372036854775808 ≤ x24 + 1 ∧ x24 + (1 : Int) ≤
    9223372036854775807) ∧ ∀ (w68 : World), RowKit.Below w.heap.size w w68 → Kept [m44, m3, m1] w67 w68 → w68.heap[m1]? = some (Obj.cells #[Value.int IntKind.u8 x0, Value.int
    IntKind.u8 x1, Value.slice x2a x2n x2c, Value.slice x3a x3n x3c, Value.slice x4a x4n x4c] 99) → w68.heap[m3]? = some (Obj.cells #[Value.int IntKind.i64 x1_1, Value.int
    IntKind.i64 x2] 42) → w68.heap[m3]? = some (Obj.cells #[Value.int IntKind.i64 x1_1, Value.int IntKind.i64 x2] 42) → F19 [Lf.int IntKind.i64 (x24 + 1), Lf.int IntKind.i64 (x1_1
    + x26.tmod (x2 - x1_1 + 1))] w68) ∧ (x17 ≠ 0 → ∀ (w69 : World), RowKit.Below w.heap.size w w69 → Kept [m44, m3, m1] w64 w69 → F19 [Lf.int IntKind.i64 x24, Lf.int IntKind.i64
    x1_1] w69)) ∧ ∀ (x27 x28 : Int) (w70 : World), RowKit.Below w.heap.size w w70 → F19 [Lf.int IntKind.i64 x27, Lf.int IntKind.i64 x28] w70 → (-9223372036854775808 ≤ x25 + x28 ∧
    x25 + x28 ≤ 9223372036854775807) ∧ ∃ (m66 : Nat), ∃ (m67 : Nat), a1 = some { block := m66, off := m67 } ∧ (0 ≤ x19 ∧ x19 < (↑m7 : Int)) ∧ ∃ (x29 : Int), w70.cell?
    { block := m66, off := m67 + x19.toNat * 3 + 2 } = some (Value.int IntKind.i64 x29) ∧ (m66 < w.heap.size ∨ m66 ≠ m44 ∧ m66 ≠ m3 ∧ m66 ≠ m1) ∧ (x29 ≤ x25 + x28 →
    (-9223372036854775808 ≤ x21 + 1 ∧ x21 + (1 : Int) ≤ 9223372036854775807) ∧ ∀ (w71 : World), RowKit.Below w.heap.size w w71 → Kept [m44, m3, m1] w70 w71 → F15 [Lf.int
    IntKind.i64 x27, Lf.int IntKind.i64 (x21 + 1)] w71 ∧ F16 [Lf.int IntKind.i64 x27, Lf.int IntKind.i64 (x21 + 1)] < F16 [Lf.int IntKind.i64 x20, Lf.int IntKind.i64 x21]) ∧ (x25 +
    x28 < x29 → ∃ (m68 : Nat), ∃ (m69 : Nat), a9 = some { block := m68, off := m69 } ∧ (0 ≤ x25 + x28 ∧ x25 + x28 < (↑m55 : Int)) ∧ ∃ (x30 : Int), w70.cell?
    { block := m68, off := m69 + (x25 + x28).toNat * 1 } = some (Value.int IntKind.i64 x30) ∧ (m68 < w.heap.size ∨ m68 ≠ m44 ∧ m68 ≠ m3 ∧ m68 ≠ m1) ∧ (-9223372036854775808 ≤ x30 +
    1 ∧ x30 + (1 : Int) ≤ 9223372036854775807) ∧ ∃ (m70 : Nat), ∃ (m71 : Nat), a9 = some { block := m70, off := m71 } ∧ (0 ≤ x25 + x28 ∧ x25 + x28 < (↑m55 : Int)) ∧ ∀ (w72 :
    World), RowKit.Below w.heap.size w w72 → Kept [m44, m3, m1] w70 w72 → RunsTo Try.prog ((Instr.storeAt 3 (Value.pointer (some
    { block := m70, off := m71 + (x25 + x28).toNat * 1 })) (Value.int IntKind.i64 (x30 + 1))) >>= fun _ => pure (Value.tuple #[])) w72 fun (v5 : Value) (w73 : World) => KeepX true
    w.heap.size [m44, m3, m1] (fun _ => False) w72 w73 ∧ ∀ (w74 : World), RowKit.Below w.heap.size w w74 → Kept [m44, m3, m1] w73 w74 → F17 [Lf.int IntKind.i64 x27, Lf.int
    IntKind.i64 (x25 + x28)] w74 ∧ F18 [Lf.int IntKind.i64 x27, Lf.int IntKind.i64 (x25 + x28)] < F18 [Lf.int IntKind.i64 x24, Lf.int IntKind.i64 x25])) ∧ (x22 ≤ x21 →
    (-9223372036854775808 ≤ x19 + 1 ∧ x19 + (1 : Int) ≤ 9223372036854775807) ∧ ∀ (w75 : World), RowKit.Below w.heap.size w w75 → Kept [m44, m3, m1] w61 w75 → F13 [Lf.int
    IntKind.i64 x20, Lf.int IntKind.i64 (x19 + 1)] w75 ∧ F14 [Lf.int IntKind.i64 x20, Lf.int IntKind.i64 (x19 + 1)] < F14 [Lf.int IntKind.i64 x18, Lf.int IntKind.i64 x19])) ∧ ((↑m7
    : Int) ≤ x19 → ∀ (w76 : World), RowKit.Below w.heap.size w w76 → KeptIn [(0, w58.heap.size)] [m44, m3, m1] w58 w76 → RunsTo Try.prog (Instr.makeSlice 38 (Value.int IntKind.i64
    (↑m22 : Int)) (Value.int IntKind.i64 (↑m22 : Int))) w76 fun (v6 : Value) (w77 : World) => ∃ (a10 : Option Addr), ∃ (m73 : Nat), ∃ (m74 : Nat), v6 = Value.slice a10 m73 m74 ∧
    KeepX true w.heap.size [m44, m3, m1] (fun _ => False) w76 w77 ∧ ∃ (F20 : List Lf → World → Prop), ∃ (F21 : List Lf → Nat), (∀ (w79 : World), RowKit.Below w.heap.size w w79 →
    Kept [m44, m3, m1] w77 w79 → F20 [Lf.bool t5, Lf.int IntKind.i64 0, Lf.int IntKind.i64 0, Lf.int IntKind.i64 0] w79) ∧ ∀ (t6 : Bool) (x31 x32 x33 : Int) (w80 : World),
    RowKit.Below w.heap.size w w80 → F20 [Lf.bool t6, Lf.int IntKind.i64 x31, Lf.int IntKind.i64 x32, Lf.int IntKind.i64 x33] w80 → (x33 < (↑m55 : Int) → ∃ (F22 : List Lf → World →
    Prop), ((x32 < (↑m22 : Int) → ∃ (m76 : Nat), ∃ (m77 : Nat), a3 = some { block := m76, off := m77 } ∧ (0 ≤ x32 ∧ x32 < (↑m22 : Int)) ∧ ∃ (x34 : Int), w80.cell?
    { block := m76, off := m77 + x32.toNat * 1 } = some (Value.int IntKind.i64 x34) ∧ (m76 < w.heap.size ∨ m76 ≠ m44 ∧ m76 ≠ m3 ∧ m76 ≠ m1) ∧ ∀ (w82 : World), RowKit.Below
    w.heap.size w w82 → Kept [m44, m3, m1] w80 w82 → F22 [Lf.bool (x34 == x33)] w82) ∧ ((↑m22 : Int) ≤ x32 → ∀ (w83 : World), RowKit.Below w.heap.size w w83 → Kept [m44, m3, m1]
    w80 w83 → F22 [Lf.bool false] w83)) ∧ ∀ (t7 : Bool) (w84 : World), RowKit.Below w.heap.size w w84 → F22 [Lf.bool t7] w84 → ∃ (F23 : List Lf → World → Prop), ((t7 = true → ∃
    (m78 : Nat), ∃ (m79 : Nat), a8 = some { block := m78, off := m79 } ∧ (0 ≤ x32 ∧ x32 < (↑m52 : Int)) ∧ ∃ (x35 : Int), w84.cell? { block := m78, off := m79 + x32.toNat * 1 } =
    some (Value.int IntKind.i64 x35) ∧ (m78 < w.heap.size ∨ m78 ≠ m44 ∧ m78 ≠ m3 ∧ m78 ≠ m1) ∧ (-9223372036854775808 ≤ x31 + x35 ∧ x31 + x35 ≤ 9223372036854775807) ∧
    (-9223372036854775808 ≤ x32 + 1 ∧ x32 + (1 : Int) ≤ 9223372036854775807) ∧ ∀ (w86 : World), RowKit.Below w.heap.size w w86 → Kept [m44, m3, m1] w84 w86 → F23 [Lf.int
    IntKind.i64 (x31 + x35), Lf.int IntKind.i64 (x32 + 1)] w86) ∧ (t7 = false → ∀ (w87 : World), RowKit.Below w.heap.size w w87 → Kept [m44, m3, m1] w84 w87 → F23 [Lf.int
    IntKind.i64 x31, Lf.int IntKind.i64 x32] w87)) ∧ ∀ (x36 x37 : Int) (w88 : World), RowKit.Below w.heap.size w w88 → F23 [Lf.int IntKind.i64 x36, Lf.int IntKind.i64 x37] w88 → ∃
    (m80 : Nat), ∃ (m81 : Nat), a9 = some { block := m80, off := m81 } ∧ (0 ≤ x33 ∧ x33 < (↑m55 : Int)) ∧ ∃ (x38 : Int), w88.cell? { block := m80, off := m81 + x33.toNat * 1 } =
    some (Value.int IntKind.i64 x38) ∧ (m80 < w.heap.size ∨ m80 ≠ m44 ∧ m80 ≠ m3 ∧ m80 ≠ m1) ∧ (-9223372036854775808 ≤ x36 - x38 ∧ x36 - x38 ≤ 9223372036854775807) ∧ ∃ (F24 : List
    Lf → World → Prop), ((x36 - x38 < 0 → ∀ (w90 : World), RowKit.Below w.heap.size w w90 → Kept [m44, m3, m1] w88 w90 → F24 [Lf.bool true] w90) ∧ (0 ≤ x36 - x38 → (x37 = 0 → ∃
    (m82 : Nat), ∃ (m83 : Nat), a9 = some { block := m82, off := m83 } ∧ (0 ≤ x33 ∧ x33 < (↑m55 : Int)) ∧ ∃ (x39 : Int), w88.cell? { block := m82, off := m83 + x33.toNat * 1 } =
    some (Value.int IntKind.i64 x39) ∧ (m82 < w.heap.size ∨ m82 ≠ m44 ∧ m82 ≠ m3 ∧ m82 ≠ m1) ∧ ∀ (w91 : World), RowKit.Below w.heap.size w w91 → Kept [m44, m3, m1] w88 w91 → F24
    [Lf.bool (decide (0 < x39))] w91) ∧ (x37 ≠ 0 → ∀ (w92 : World), RowKit.Below w.heap.size w w92 → Kept [m44, m3, m1] w88 w92 → F24 [Lf.bool false] w92))) ∧ ∀ (t8 : Bool) (w93 :
    World), RowKit.Below w.heap.size w w93 → F24 [Lf.bool t8] w93 → ∃ (F25 : List Lf → World → Prop), ((t8 = true → ∀ (w95 : World), RowKit.Below w.heap.size w w95 → Kept [m44, m3,
    m1] w93 w95 → R (Ending.returned (Value.bool false)) w95) ∧ (t8 = false → ∀ (w96 : World), RowKit.Below w.heap.size w w96 → Kept [m44, m3, m1] w93 w96 → F25 [Lf.bool t6] w96))
    ∧ ∀ (t9 : Bool) (w97 : World), RowKit.Below w.heap.size w w97 → F25 [Lf.bool t9] w97 → ∃ (F26 : List Lf → World → Prop), ((0 < x37 → (-9223372036854775808 ≤ x37 - 1 ∧ x37 - (1
    : Int) ≤ 9223372036854775807) ∧ ∃ (m86 : Nat), ∃ (m87 : Nat), a10 = some { block := m86, off := m87 } ∧ (0 ≤ x37 - 1 ∧ x37 - 1 < (↑m73 : Int)) ∧ ∀ (w99 : World), RowKit.Below
    w.heap.size w w99 → Kept [m44, m3, m1] w97 w99 → RunsTo Try.prog ((Instr.storeAt 3 (Value.pointer (some { block := m86, off := m87 + (x37 - 1).toNat * 1 })) (Value.int
    IntKind.i64 (x36 - x38))) >>= fun _ => pure (Value.tuple #[])) w99 fun (v7 : Value) (w100 : World) => KeepX true w.heap.size [m44, m3, m1] (fun _ => False) w99 w100 ∧ ∀ (w101 :
    World), RowKit.Below w.heap.size w w101 → Kept [m44, m3, m1] w100 w101 → F26 [] w101) ∧ (x37 ≤ 0 → ∀ (w102 : World), RowKit.Below w.heap.size w w102 → Kept [m44, m3, m1] w97
    w102 → F26 [] w102)) ∧ ∀ (w103 : World), RowKit.Below w.heap.size w w103 → F26 [] w103 → (-9223372036854775808 ≤ x33 + 1 ∧ x33 + (1 : Int) ≤ 9223372036854775807) ∧ ∀ (w104 :
    World), RowKit.Below w.heap.size w w104 → Kept [m44, m3, m1] w103 w104 → F20 [Lf.bool t9, Lf.int IntKind.i64 (x36 - x38), Lf.int IntKind.i64 x37, Lf.int IntKind.i64 (x33 + 1)]
    w104 ∧ F21 [Lf.bool t9, Lf.int IntKind.i64 (x36 - x38), Lf.int IntKind.i64 x37, Lf.int IntKind.i64 (x33 + 1)] < F21 [Lf.bool t6, Lf.int IntKind.i64 x31, Lf.int IntKind.i64 x32,
    Lf.int IntKind.i64 x33]) ∧ ((↑m55 : Int) ≤ x33 → ∃ (F27 : List Lf → World → Prop), ∃ (F28 : List Lf → Nat), (∀ (w106 : World), RowKit.Below w.heap.size w w106 → Kept [m44, m3,
    m1] w80 w106 → F27 [Lf.bool t6, Lf.int IntKind.i64 0] w106) ∧ ∀ (t10 : Bool) (x41 : Int) (w107 : World), RowKit.Below w.heap.size w w107 → F27 [Lf.bool t10, Lf.int IntKind.i64
    x41] w107 → ∃ (F29 : List Lf → World → Prop), ((x41 < (↑m22 : Int) → ∀ (w109 : World), RowKit.Below w.heap.size w w109 → Kept [m44, m3, m1] w107 w109 → F29 [Lf.bool (x17 == 1)]
    w109) ∧ ((↑m22 : Int) ≤ x41 → ∀ (w110 : World), RowKit.Below w.heap.size w w110 → Kept [m44, m3, m1] w107 w110 → F29 [Lf.bool false] w110)) ∧ ∀ (t11 : Bool) (w111 : World),
    RowKit.Below w.heap.size w w111 → F29 [Lf.bool t11] w111 → (t11 = true → ∃ (F30 : List Lf → World → Prop), (∃ (m89 : Nat), ∃ (m90 : Nat), a10 = some
    { block := m89, off := m90 } ∧ (0 ≤ x41 ∧ x41 < (↑m73 : Int)) ∧ ∃ (x42 : Int), w111.cell? { block := m89, off := m90 + x41.toNat * 1 } = some (Value.int IntKind.i64 x42) ∧ (m89
    < w.heap.size ∨ m89 ≠ m44 ∧ m89 ≠ m3 ∧ m89 ≠ m1) ∧ (x42 ≠ 0 → ∀ (w113 : World), RowKit.Below w.heap.size w w113 → Kept [m44, m3, m1] w111 w113 → F30 [Lf.bool true] w113) ∧ (x42
    = 0 → ∃ (m91 : Nat), ∃ (m92 : Nat), a8 = some { block := m91, off := m92 } ∧ (0 ≤ x41 ∧ x41 < (↑m52 : Int)) ∧ ∃ (x43 : Int), w111.cell?
    { block := m91, off := m92 + x41.toNat * 1 } = some (Value.int IntKind.i64 x43) ∧ (m91 < w.heap.size ∨ m91 ≠ m44 ∧ m91 ≠ m3 ∧ m91 ≠ m1) ∧ ∀ (w114 : World), RowKit.Below
    w.heap.size w w114 → Kept [m44, m3, m1] w111 w114 → F30 [Lf.bool (decide (x43 < 0))] w114)) ∧ ∀ (t12 : Bool) (w115 : World), RowKit.Below w.heap.size w w115 → F30 [Lf.bool t12]
    w115 → (t12 = true → ∀ (w116 : World), RowKit.Below w.heap.size w w116 → Kept [m44, m3, m1] w115 w116 → R (Ending.returned (Value.bool false)) w116) ∧ (t12 = false →
    (-9223372036854775808 ≤ x41 + 1 ∧ x41 + (1 : Int) ≤ 9223372036854775807) ∧ ∀ (w117 : World), RowKit.Below w.heap.size w w117 → Kept [m44, m3, m1] w115 w117 → F27 [Lf.bool t10,
    Lf.int IntKind.i64 (x41 + 1)] w117 ∧ F28 [Lf.bool t10, Lf.int IntKind.i64 (x41 + 1)] < F28 [Lf.bool t10, Lf.int IntKind.i64 x41])) ∧ (t11 = false → (-9223372036854775808 ≤ x17
    + 1 ∧ x17 + (1 : Int) ≤ 9223372036854775807) ∧ ∀ (w118 : World), RowKit.Below w.heap.size w w118 → Kept [m44, m3, m1] w111 w118 → F11 [Lf.bool t10, Lf.int IntKind.i64 (x17 +
    1)] w118 ∧ F12 [Lf.bool t10, Lf.int IntKind.i64 (x17 + 1)] < F12 [Lf.bool t5, Lf.int IntKind.i64 x17])))) ∧ (2 ≤ x17 → ∀ (w119 : World), RowKit.Below w.heap.size w w119 → Kept
    [m44, m3, m1] w53 w119 → Calls Try.prog 14 #[] w119 fun (e7 : Ending) (w120 : World) => ∃ (t13 : Bool), e7 = Ending.returned (Value.bool t13) ∧ KeepX true w.heap.size [m44, m3,
    m1] (fun _ => False) w119 w120 ∧ ∀ (w121 : World), RowKit.Below w.heap.size w w121 → Kept [m44, m3, m1] w120 w121 → R (Ending.returned (Value.bool t13)) w121))))) : Calls
    Try.prog 11 #[Value.agg #[Value.int IntKind.u8 x0, Value.int IntKind.u8 x1, Value.slice x2a x2n x2c, Value.slice x3a x3n x3c, Value.slice x4a x4n x4c]] w R := calls_of_vcj
    (pure := true) (wrapAt := []) (muts := []) (esc := []) (joins := [(2000004, [(54, 4)]), (2000011, [(97, 4)]), (108, [(9, 3)]), (2000016, [(128, 4)]), (128, [(5, 38)]),
    (2000019, [(151, 4)]), (180, [(15, 3), (19, 3)]), (2000043, [(232, 4)]), (232, [(20, 3), (21, 3)]), (2000046, [(259, 4)]), (259, [(2, 4)]), (261, []), (2000051, [(274, 4)]),
    (2000053, [(288, 4)]), (9000000, [])]) (args := [SV.pv (PV.agg [Lf.int IntKind.u8 x0, Lf.int IntKind.u8 x1, Lf.sl x2a x2n x2c, Lf.sl x3a x3n x3c, Lf.sl x4a x4n x4c])]) (vs :=
    [Value.agg #[Value.int IntKind.u8 x0, Value.int IntKind.u8 x1, Value.slice x2a x2n x2c, Value.slice x3a x3n x3c, Value.slice x4a x4n x4c]]) Try.func11 rfl rfl rfl (Eq.mp (by
    kernel_rfl) h) 
end Go.Proofs
end
section
/- The law PartEnough, walked. -/
namespace Go.Proofs.R12
open Go.Vc Go.RowKit Go.Proofs
def u8s (l : List Int) : List Value := l.map (Value.int .u8)
def byteM (l : List Int) (i : Int) : Int := if l.length = 0 then 0 else l.getD (i.tmod l.length).toNat 0
theorem tmod_bd {a b : Int} (h : 0 ≤ a) (hb : 0 < b) : 0 ≤ a.tmod b ∧ a.tmod b < b := ⟨Int.tmod_nonneg _ h, Int.tmod_lt_of_pos _ hb⟩
theorem byteM_bd {l : List Int} (hl : ∀ x ∈ l, 0 ≤ x ∧ x ≤ 255) (i : Int) : 0 ≤ byteM l i ∧ byteM l i ≤ 255 := by
  unfold byteM
  split
  · omega
  · rcases getD_mem (l := l) (i := (i.tmod l.length).toNat) (d := 0) with e | e
    · rw [e]; omega
    · exact hl _ e
theorem byteOf_any {w : World} {l : List Int} {a : Option Addr} {c : Nat} (i : Int) (hi : 0 ≤ i) (hc : Cells w a (u8s l)) (hl : ∀ x ∈ l, 0 ≤ x ∧ x ≤ 255) : Calls Try.prog 44 #[.slice a l.length c, I i] w (Pure w (I (byteM l i))) := by
  refine vc44 _ _ _ _ w _ ⟨fun h0 w1 hb1 _ => ⟨by rw [byteM, if_pos (by omega)], hb1⟩, fun h0 => ?_⟩
  have q := tmod_bd (a := i) (b := l.length) hi (by omega)
  have hj : (i.tmod l.length).toNat < l.length := by omega
  have hg : l.getD (i.tmod l.length).toNat 0 = l[(i.tmod l.length).toNat] := by rw [List.getD_eq_getElem?_getD, getElem_of_lt hj]; rfl
  have hv : (u8s l)[(i.tmod l.length).toNat]? = some (Value.int .u8 (l.getD (i.tmod l.length).toNat 0)) := by
    unfold u8s; rw [List.getElem?_map, getElem_of_lt hj, hg]; rfl
  obtain ⟨b, o, rfl, hcell⟩ := hc _ _ hv
  have hbd := hl _ (List.getElem_mem hj)
  rw [← hg] at hbd
  exact ⟨h0, b, o, rfl, q, _, cell_at' hcell (by omega), ⟨by omega, by omega⟩, fun w2 hb2 _ => ⟨by rw [byteM, if_neg (by omega)], hb2⟩⟩
def tripsV (l : List (Int × Int × Int)) : List Value := l.flatMap fun t => [.int .u8 t.1, .int .u8 t.2.1, .int .u8 t.2.2]
theorem trips_get {l : List (Int × Int × Int)} {i : Nat} {s : Int × Int × Int} (h : l[i]? = some s) (j : Nat) (hj : j < 3) : (tripsV l)[i * 3 + j]? = [Value.int .u8 s.1, .int .u8 s.2.1, .int .u8 s.2.2][j]? := flat_get (k := 3) (f := fun t : Int × Int × Int => [Value.int .u8 t.1, .int .u8 t.2.1, .int .u8 t.2.2]) (fun _ => rfl) h hj
theorem load_trip {w wj : World} {a : Option Addr} {l : List (Int × Int × Int)} {i : Int} {X : Nat → Nat → Int → Int → Int → Prop} (h : Cells w a (tripsV l)) (hb : Below w.heap.size w wj) (hi0 : 0 ≤ i ∧ i < (l.length : Int)) (k : ∀ m o, m < w.heap.size → X m o (l.getD i.toNat (0, 0, 0)).1 (l.getD i.toNat (0, 0, 0)).2.1 (l.getD i.toNat (0, 0, 0)).2.2) : ∃ m o, a = some ⟨m, o, none⟩ ∧ (0 ≤ i ∧ i < (l.length : Int)) ∧ ∃ x0 x1 x2 : Int, wj.cell? ⟨m, o + i.toNat * 3, none⟩ = some (.int .u8 x0) ∧ wj.cell? ⟨m, o + i.toNat * 3 + 1, none⟩ = some (.int .u8 x1) ∧ wj.cell? ⟨m, o + i.toNat * 3 + 1 + 1, none⟩ = some (.int .u8 x2) ∧ X m o x0 x1 x2 := by
  have hi : i.toNat < l.length := by omega
  have hg : l.getD i.toNat (0, 0, 0) = l[i.toNat] := by simp [List.getD_eq_getElem?_getD, getElem_of_lt hi]
  obtain ⟨b0, o0, e0, d0⟩ := h (i.toNat * 3 + 0) _ (trips_get (getElem_of_lt hi) 0 (by omega))
  obtain ⟨b1, o1, e1, d1⟩ := h (i.toNat * 3 + 1) _ (trips_get (getElem_of_lt hi) 1 (by omega))
  obtain ⟨rfl, rfl⟩ : b0 = b1 ∧ o0 = o1 := by rw [e0] at e1; simpa using e1
  obtain ⟨b2, o2, e2, d2⟩ := h (i.toNat * 3 + 2) _ (trips_get (getElem_of_lt hi) 2 (by omega))
  obtain ⟨rfl, rfl⟩ : b0 = b2 ∧ o0 = o2 := by rw [e0] at e2; simpa using e2
  exact ⟨b0, o0, e0, hi0, _, _, _, cell_at' (cell_keep hb d0) (by omega), cell_at' (cell_keep hb d1) (by omega), cell_at' (cell_keep hb d2) (by omega), by have := k b0 o0 (cell_lt d0); rw [hg] at this; exact this⟩
theorem trip_bd {T : List (Int × Int × Int)} (hT : ∀ t ∈ T, (0 ≤ t.1 ∧ t.1 ≤ 255) ∧ (0 ≤ t.2.1 ∧ t.2.1 ≤ 255) ∧ 0 ≤ t.2.2 ∧ t.2.2 ≤ 255) (i : Nat) : (0 ≤ (T.getD i (0, 0, 0)).1 ∧ (T.getD i (0, 0, 0)).1 ≤ 255) ∧ (0 ≤ (T.getD i (0, 0, 0)).2.1 ∧ (T.getD i (0, 0, 0)).2.1 ≤ 255) ∧ 0 ≤ (T.getD i (0, 0, 0)).2.2 ∧ (T.getD i (0, 0, 0)).2.2 ≤ 255 := by
  rcases getD_mem (l := T) (i := i) (d := (0, 0, 0)) with e | e
  · rw [e]; simp
  · exact hT _ e
/-- Since a world: nothing but some blocks of what was there has turned. -/
structure SinceL (T : List Nat) (u w : World) : Prop where
  h : Chg T u w
section
variable {T : List Nat} {u w w' : World}
theorem SinceL.step {S : List Nat} (h : SinceL T u w) (hc : Chg S w w') (hs : ∀ x ∈ S, x ∈ T ∨ u.heap.size ≤ x) : SinceL T u w' := by
  have h2 : Chg (T ++ S) u w' := (h.h.mono (T := T ++ S) fun x hx => .inl (List.mem_append_left _ hx)).trans (hc.mono fun x hx => .inl (List.mem_append_right _ hx))
  exact ⟨h2.mono fun x hx => by
    rcases List.mem_append.1 hx with hx | hx
    · exact .inl hx
    · exact hs x hx⟩
theorem SinceL.ko {bs : List Nat} (h : SinceL T u w) (hk : Kept bs w w') (hs : ∀ x ∈ bs, x ∈ T ∨ u.heap.size ≤ x) : SinceL T u w' := h.step (Chg.kept hk) hs
theorem SinceL.kio {bs : List Nat} {rs : List (Nat × Nat)} (h : SinceL T u w) (hk : KeptIn ((0, w.heap.size) :: rs) bs w w') (hs : ∀ x ∈ bs, x ∈ T ∨ u.heap.size ≤ x) : SinceL T u w' := h.step hk.chg hs
theorem SinceL.below (h : SinceL T u w) (hb : Below w.heap.size w w') : SinceL T u w' := h.step (S := []) (Chg.of_below hb) (by simp)
theorem SinceL.size (h : SinceL T u w) : u.heap.size ≤ w.heap.size := h.h.size
theorem SinceL.refl : SinceL T u u := ⟨⟨rfl, rfl, rfl, Nat.le_refl _, fun _ _ _ => rfl⟩⟩
end
/-- Integers in a block of their own. -/
structure IntsAt (b n : Nat) (l : List Int) (w : World) : Prop where
  h : w.heap[b]? = some (.cells (ints l).toArray 3 (0, 0))
  len : l.length = n
section
variable {b n : Nat} {l : List Int} {w w' : World}
theorem IntsAt.lt (h : IntsAt b n l w) : b < w.heap.size := lt_of_some h.h
theorem IntsAt.out {S : List Nat} (h : IntsAt b n l w) (hc : Chg S w w') (hs : ∀ x ∈ S, x < b ∨ b + 1 ≤ x) : IntsAt b n l w' := ⟨by rw [hc.keep b h.lt fun hm => by have := hs b hm; omega]; exact h.h, h.len⟩
theorem IntsAt.ko {bs : List Nat} (h : IntsAt b n l w) (hk : Kept bs w w') (hs : ∀ x ∈ bs, x < b ∨ b + 1 ≤ x) : IntsAt b n l w' := h.out (Chg.kept hk) hs
theorem IntsAt.kio {bs : List Nat} {rs : List (Nat × Nat)} (h : IntsAt b n l w) (hk : KeptIn ((0, w.heap.size) :: rs) bs w w') (hs : ∀ x ∈ bs, x < b ∨ b + 1 ≤ x) : IntsAt b n l w' := h.out hk.chg hs
theorem IntsAt.below (h : IntsAt b n l w) (hb : Below w.heap.size w w') : IntsAt b n l w' := h.out (S := []) (Chg.of_below hb) (by simp)
theorem load_obj {i : Int} {X : Nat → Nat → Int → Prop} (h : IntsAt b n l w) (hi0 : 0 ≤ i ∧ i < (n : Int)) (k : ∀ m o, m = b → X m o (l.getD i.toNat 0)) : ∃ m o, (some ⟨b, 0, none⟩ : Option Addr) = some ⟨m, o, none⟩ ∧ (0 ≤ i ∧ i < (n : Int)) ∧ ∃ x : Int, w.cell? ⟨m, o + i.toNat * 1, none⟩ = some (I x) ∧ X m o x := by
  have hi : i.toNat < l.length := by have := h.len; omega
  have hv : (ints l)[i.toNat]? = some (I (l.getD i.toNat 0)) := by
    unfold ints; rw [List.getElem?_map, getElem_of_lt hi, List.getD_eq_getElem?_getD, getElem_of_lt hi]; rfl
  exact ⟨b, 0, rfl, hi0, _, cell_at' (cell_obj h.h hv) (by omega), k b 0 rfl⟩
theorem store_obj {i x : Int} {R : Value → World → Prop} (h : IntsAt b n l w) (hi : 0 ≤ i ∧ i < (n : Int)) (hR : ∀ w', IntsAt b n (l.set i.toNat x) w' → Chg [b] w w' → R (.tuple #[]) w') : RunsTo Try.prog ((Instr.storeAt 3 (.pointer (some ⟨b, 0 + i.toNat * 1, none⟩)) (I x)) >>= fun _ => pure (Value.tuple #[])) w R := by
  have hl := h.len
  refine obj_store (cs := ints l) (vs := [I x]) h.h (by kernel_rfl) (by kernel_rfl) (by simp [ints]; omega) rfl (by simp; trivial) fun w' hh hc => hR w' ⟨?_, by rw [List.length_set]; exact hl⟩ hc
  rw [hh]
  congr 3
  unfold ints
  rw [show 0 + i.toNat * 1 = i.toNat by omega]
  apply List.ext_getElem?
  intro j
  rw [List.getElem?_map, List.getElem?_set]
  have hlen : ((l.map I).take i.toNat).length = i.toNat := by simp; omega
  by_cases hj : j < i.toNat
  · rw [if_neg (by omega), List.append_assoc, List.getElem?_append_left (by rw [hlen]; exact hj), List.getElem?_take, if_pos hj, List.getElem?_map]
  · by_cases he : i.toNat = j
    · rw [if_pos he, if_pos (by omega), List.append_assoc, List.getElem?_append_right (by rw [hlen]; omega), hlen, he]; simp
    · rw [if_neg he, List.getElem?_append_right (by rw [List.length_append, hlen]; simp; omega), List.length_append, hlen, List.getElem?_drop, List.getElem?_map]
      congr 2; simp; omega
theorem mk_ints {n : Int} {R : Value → World → Prop} (h0 : 0 ≤ n) (h1 : n ≤ 1000000) (hR : ∀ w', Below w.heap.size w w' → IntsAt w.heap.size n.toNat (List.replicate n.toNat 0) w' → R (.slice (some ⟨w.heap.size, 0, none⟩) n.toNat n.toNat) w') : RunsTo Try.prog (Instr.makeSlice 38 (I n) (I n)) w R := by
  obtain ⟨i, hi⟩ : ∃ i, Try.prog.info? 3 = some i := Option.isSome_iff_exists.1 (by kernel_rfl)
  have hz : (Try.prog.info? 3).map (fun i => (i.zero, i.size, i.bytes)) = some (some (I 0), 1, 8) := by kernel_rfl
  rw [hi] at hz
  simp only [Option.map_some, Option.some.injEq, Prod.mk.injEq] at hz
  have hr := run_make (P := Try.prog) w 38 3 i (I 0) (by kernel_rfl) hi hz.1 .i64 .i64 n n h0 (Int.le_refl _) (by rw [hz.2.2]; omega) (by omega)
  refine ⟨_, _, hr, hR _ ?_ ⟨?_, by simp⟩⟩
  · exact (Below.refl _ _).alloc (Nat.le_refl _) _
  · rw [hz.2.1]
    have e : madeCells (I 0).cells (n.toNat * 1) = (ints (List.replicate n.toNat 0)).toArray := by
      apply Array.ext
      · simp [madeCells, ints]
      · intro j h1 h2
        simp [madeCells, ints, Value.cells, Nat.mod_one]
    rw [e]
    show (w.heap.push _)[w.heap.size]? = _
    rw [Array.getElem?_push_size]
end
theorem consV_append (l : List Con) (c : Con) : consV (l ++ [c]) = consV l ++ [I c.clocks, I c.frm, I c.to] := by simp [consV]
theorem outL_len2 (lo : Int) (l : List Con) (o : List Int) (k : Nat) : (outL lo l o k).length = k := by unfold outL; simp
theorem spares_e {w : World} {lo hi : Int} {l : List Con} {o : List Int} {la oa : Option Addr} {lc oc : Nat} (hb : 1 ≤ lo ∧ lo ≤ hi ∧ hi ≤ 200) (hn : l.length ≤ 4) (hC : ∀ x ∈ l, ConOk lo x) (hO : OrdOk lo o) (hc : Cells w la (consV l)) (ho : Cells w oa (ints o)) (hcap : o.length ≤ oc) : Calls Try.prog 38 #[.agg #[I lo, I hi], .slice la l.length lc, .slice oa o.length oc] w (fun e w' => ∃ a' c', e = .returned (.tuple #[.slice a' o.length c', I 0]) ∧ Below w.heap.size w w' ∧ Lies [] w.heap.size w'.heap.size w' a' (ints (outL lo l o o.length))) := by
  have h := spares_l (lc := lc) (lo, hi) hc ho (by omega) (by have := hO.n; omega) hcap
  rw [spares_ok hb hn hC hO] at h
  rw [outL_len2] at h
  exact h
/-- The orders that are made so far. -/
structure OrdI (lo : Int) (o : List Int) (ii yr : Int) : Prop where
  n : (o.length : Int) ≤ ii
  e : ii = 0 → o.length = 0
  inc : ∀ j : Nat, j < o.length → 0 < j → o.getD (j - 1) 0 < o.getD j 0
  bd : ∀ y ∈ o, 0 ≤ y ∧ y ≤ yr
  yr : 0 ≤ yr ∧ yr ≤ 30 + 20 * ii
  fst : 0 < ii → 0 < o.length ∧ o.getD 0 0 < 2 * lo
theorem OrdI.skip {lo : Int} {o : List Int} {ii yr x : Int} (h : OrdI lo o ii yr) (hi : 0 < ii) (hx : yr ≤ x ∧ x ≤ yr + 19) : OrdI lo o (ii + 1) x := by
  have := h.yr; have := h.n
  exact ⟨by omega, fun _ => by omega, h.inc, fun y hy => by have := h.bd y hy; omega, by omega, fun _ => h.fst hi⟩
theorem OrdI.push {lo : Int} {o : List Int} {ii yr x : Int} (hl : 1 ≤ lo ∧ lo ≤ 15) (h : OrdI lo o ii yr) (hi : 0 ≤ ii) (hx : (ii = 0 → 0 ≤ x ∧ x < 2 * lo) ∧ (ii ≠ 0 → yr ≤ x ∧ x ≤ yr + 19)) (hlast : o.length = 0 ∨ o.getD (o.length - 1) 0 < x) : OrdI lo (o ++ [x]) (ii + 1) x := by
  have hyr := h.yr; have hn := h.n
  have hg : ∀ j, j < o.length → (o ++ [x]).getD j 0 = o.getD j 0 := fun j hj => by rw [List.getD_eq_getElem?_getD, List.getElem?_append_left hj, ← List.getD_eq_getElem?_getD]
  have hgx : (o ++ [x]).getD o.length 0 = x := by rw [List.getD_eq_getElem?_getD, List.getElem?_append_right (Nat.le_refl _)]; simp
  by_cases h0 : ii = 0
  · have e0 := h.e h0
    have eo : o = [] := List.length_eq_zero_iff.1 e0
    subst eo
    have hx0 := hx.1 h0
    exact ⟨by simp; omega, fun _ => by omega, fun j hj hj0 => by simp at hj; omega, fun y hy => by simp at hy; omega, by omega, fun _ => ⟨by simp, by simpa using hx0.2⟩⟩
  · have hx1 := hx.2 h0
    have hf := h.fst (by omega)
    refine ⟨by simp; omega, fun _ => by omega, fun j hj hj0 => ?_, fun y hy => ?_, by omega, fun _ => ⟨by simp, by rw [hg 0 hf.1]; exact hf.2⟩⟩
    · rw [List.length_append, List.length_singleton] at hj
      by_cases e : j < o.length
      · rw [hg j e, hg (j - 1) (by omega)]; exact h.inc j e hj0
      · have ej : j = o.length := by omega
        subst ej
        rw [hgx, hg _ (by omega)]
        rcases hlast with hh | hh
        · omega
        · exact hh
    · rcases List.mem_append.1 hy with hy | hy
      · have := h.bd y hy; omega
      · simp only [List.mem_singleton] at hy; omega
theorem OrdI.ok {lo : Int} {o : List Int} {ii yr : Int} (h : OrdI lo o ii yr) (hi : 0 < ii ∧ ii ≤ 6) : OrdOk lo o := by
  have hf := h.fst hi.1; have := h.n; have hy := h.yr
  exact ⟨⟨hf.1, by omega⟩, h.inc, fun y hy => by have := h.bd y hy; omega, hf.2⟩
theorem stock_bd {lo : Int} {l : List Con} {o : List Int} {tr st ord y : Int} {U Lm : List Int} (hl : 1 ≤ lo) (hn : l.length ≤ 4) (hc : ∀ x ∈ l, ConOk lo x) (hU : Uses tr U fun Y => sumB lo l Y l.length) (hy : 0 ≤ y ∧ y ≤ 201) (h : Stock lo l o tr U Lm st ord y) : -20000 ≤ st ∧ st ≤ 20000 := by
  have h1 := bought_bdE (o := o) hl hn hc ord.toNat
  have h2 := hU.le y hy.1 hy.2
  have h3 := sumB_bdE hl hc y l.length (Nat.le_refl _)
  have h4 := cum_nonneg hU.p y
  have := h.se
  try simp only at h2
  omega
theorem stock2_bd {lo : Int} {l : List Con} {o : List Int} {tr st ord y : Int} {U Lm : List Int} (hl : 1 ≤ lo) (hn : l.length ≤ 4) (hc : ∀ x ∈ l, ConOk lo x) (hU : Uses tr U fun Y => sumB lo l Y l.length) (hy : 0 ≤ y ∧ y ≤ 200) (h : Stock2 lo l o U Lm st ord y) : st ≤ 20000 ∧ 0 ≤ U.getD y.toNat 0 ∧ (ord ≤ o.length ∧ 0 ≤ ord) := by
  have h1 := bought_bdE (o := o) hl hn hc ord.toNat
  have h4 := cum_nonneg hU.p y
  have := h.se
  have h3 := (all_getD (d := 0)).1 hU.p y.toNat (by rw [hU.n]; omega)
  have := h.ob
  omega
theorem out_bd {lo : Int} {l : List Con} {o : List Int} (hl : 1 ≤ lo) (hn : l.length ≤ 4) (hc : ∀ x ∈ l, ConOk lo x) (ho : OrdOk lo o) {j : Nat} (hj : j < o.length) : 0 ≤ (outL lo l o o.length).getD j 0 ∧ (outL lo l o o.length).getD j 0 ≤ 20000 := by
  rw [outL_get hj]
  have := bought_mono hl hc ho hj
  have := bought_bdE (o := o) hl hn hc j
  have := bought_bdE (o := o) hl hn hc (j + 1)
  omega
theorem load_lenL {lo hi n : Nat} {w : World} {a : Option Addr} {l : List Int} {i : Int} {X : Nat → Nat → Int → Prop} (hn : l.length = n) (h : Lies [] lo hi w a (ints l)) (hi0 : 0 ≤ i ∧ i < (n : Int)) (k : ∀ m o, lo ≤ m ∧ m < hi → X m o (l.getD i.toNat 0)) : ∃ m o, a = some ⟨m, o, none⟩ ∧ (0 ≤ i ∧ i < (n : Int)) ∧ ∃ x0 : Int, w.cell? ⟨m, o + i.toNat * 1, none⟩ = some (I x0) ∧ X m o x0 := by
  subst hn
  exact load_intL h hi0 k
theorem cum_bdE {lo : Int} {l : List Con} {tr c k : Int} {U : List Int} {x : Con} {i : Nat} (hl : 1 ≤ lo) (hn : l.length ≤ 4) (hc : ∀ x ∈ l, ConOk lo x) (hi : i ≤ l.length) (hx : ConOk lo x) (h0 : 0 ≤ c ∧ c ≤ 5) (hU : Uses tr U fun Y => (sumB lo l Y i + c * qT lo x.frm (min Y x.to)) + kq lo x.frm k Y) : cum U 201 ≤ 30000 := by
  have h1 := hU.le 201 (by omega) (by omega)
  try simp only at h1
  have h2 := sumB_bdE hl hc 201 i hi
  have hf := hx.f
  have ht := hx.t
  have h3 := qT_bd (Y := min 201 x.to) hl (frm := x.frm) (by omega) (by omega)
  have h5 := qT_nonneg lo x.frm (min 201 x.to)
  have h4 : c * qT lo x.frm (min 201 x.to) ≤ 5 * qT lo x.frm (min 201 x.to) := Int.mul_le_mul_of_nonneg_right h0.2 h5
  have h6 := qT_bd (Y := 201) hl (frm := x.frm) (by omega) (by omega)
  have h7 : kq lo x.frm k 201 ≤ qT lo x.frm 201 := by unfold kq; omega
  omega
theorem get_cum {U : List Int} (hn : U.length = 201) (hp : ∀ x ∈ U, 0 ≤ x) (i : Nat) : U.getD i 0 ≤ cum U 201 ∧ 0 ≤ U.getD i 0 := by
  have h0 := cum_nonneg hp 201
  by_cases h : i < U.length
  · have h1 := cum_step (U := U) (Y := i) (by omega) (by omega)
    have h2 := cum_le hp (Y := (i : Int) + 1) (Z := 201) (by omega)
    have h3 := cum_nonneg hp (i : Int)
    have h4 := (all_getD (d := 0)).1 hp i h
    rw [show (i : Int).toNat = i by omega] at h1
    omega
  · rw [List.getD_eq_getElem?_getD, List.getElem?_eq_none (by omega)]
    simp; exact h0
theorem span_any2 {w : World} (a b : Int) : Calls Try.prog 42 #[I a, I b] w (Pure w (.agg #[I a, I b])) := span_any a b
abbrev Held11 (B b9 B2 b20 b44 b45 : Nat) (a1 a3 a8 : Option Addr) (l : List Con) (o n : List Int) (w : World) : Prop := (Lies [] B b9 w a1 (consV l) ∧ Lies [] B2 b20 w a3 (ints o) ∧ Lies [] b44 b45 w a8 (ints n)) ∧ b45 ≤ w.heap.size
end Go.Proofs.R12
end
section
/- The law PartEnough, walked. -/
namespace Go.Proofs.R12
open Go.Vc Go.RowKit Go.Proofs
set_option maxRecDepth 100000 in
set_option maxHeartbeats 8000000 in
theorem law11 {w : World} {x0 x1 : Int} {T : List (Int × Int × Int)} {O Lv : List Int} {x2a x3a x4a : Option Addr} {x2c x3c x4c : Nat} (hx0 : 0 ≤ x0 ∧ x0 ≤ 255) (hx1 : 0 ≤ x1 ∧ x1 ≤ 255) (hT0 : Cells w x2a (tripsV T)) (hO0 : Cells w x3a (u8s O)) (hL0 : Cells w x4a (u8s Lv)) (hT : ∀ t ∈ T, (0 ≤ t.1 ∧ t.1 ≤ 255) ∧ (0 ≤ t.2.1 ∧ t.2.1 ≤ 255) ∧ 0 ≤ t.2.2 ∧ t.2.2 ≤ 255) (hO : ∀ x ∈ O, 0 ≤ x ∧ x ≤ 255) (hL : ∀ x ∈ Lv, 0 ≤ x ∧ x ≤ 255) : Calls Try.prog 11 #[.agg #[.int .u8 x0, .int .u8 x1, .slice x2a T.length x2c, .slice x3a O.length x3c, .slice x4a Lv.length x4c]] w (Pure w (.bool true)) := by
  have q15 := tmod_bd (b := 15) hx0.1 (by omega)
  have q8 := tmod_bd (b := 8) hx1.1 (by omega)
  refine vc11 _ _ _ _ _ _ _ _ _ _ _ w _ ?_
  intro m1 g_m1
  refine ⟨(by first | omega | (simp only; omega)), (by first | omega | (simp only; omega)), (by first | omega | (simp only; omega)), (by first | omega | (simp only; omega)), (by first | omega | (simp only; omega)), (by first | omega | (simp only; omega)), (by first | omega | (simp only; omega)), (by first | omega | (simp only; omega)), (by first | omega | (simp only; omega)), ?_⟩
  intro w1 hb1 hk1
  have y1 := hb1.size
  have z1 := hk1.size; have o1 := hk1.own
  simp only [List.mem_cons, List.not_mem_nil, or_false, forall_eq] at o1
  refine Pure.calls (span_any2 _ _) fun w2 hd2 => ?_
  have hb2 := hb1.trans (hd2.mono hb1.size)
  refine ⟨_, _, rfl, .all hd2, ?_⟩
  intro m3 g_m3 m4 g_m4 m5 g_m5
  generalize hlo : 1 + x0.tmod 15 = lo at *
  generalize hhi : lo + x1.tmod 8 = hi at *
  have hb1 : 1 ≤ lo ∧ lo ≤ 15 := by omega
  have hb2 : lo ≤ hi ∧ hi ≤ lo + 7 := by omega
  refine ⟨fun ls w' => match ls with | [.sl a n c, .int _ ii] => (0 ≤ ii ∧ ii ≤ 4 ∧ ii ≤ T.length) ∧ ∃ (B : Nat) (l : List Con), (m1 < B ∧ m3 < B ∧ m5 < B ∧ B ≤ w'.heap.size) ∧ n = l.length ∧ (l.length : Int) ≤ ii ∧ (∀ x ∈ l, ConOk lo x) ∧ RowE 80 3 B [m5, m3, m1] a n c (consV l) w' | _ => False, fun ls => match ls with | [_, .int _ ii] => (5 - ii).toNat | _ => 0, ?_, ?_⟩
  · intro w4 hb4 hk4 hc4_m4
    have y4 := hb4.size
    have z4 := hk4.size; have o4 := hk4.own
    simp only [List.mem_cons, List.not_mem_nil, or_false, forall_eq_or_imp, forall_eq] at o4
    exact ⟨⟨by omega, by omega, by omega⟩, w4.heap.size, [], ⟨by omega, by omega, by omega, Nat.le_refl _⟩, rfl, by simp, by simp, .lit⟩
  rintro a1 m7 m8 x3 w5 hb5 ⟨x3b, B, l, hB, hnn, hll, hC, RR⟩
  have y5 := hb5.size
  subst hnn
  have S : SinceL [m5, m3, m1] w5 w5 := SinceL.refl
  refine ⟨fun ls w' => match ls with | [.bool t] => t = (decide (x3 < (T.length : Int)) && decide (x3 < 4)) ∧ SinceL [m5, m3, m1] w5 w' | _ => False, ?_, ?_⟩
  · refine ⟨?_, ?_⟩
    · intro h1 w7 hb7 hk7 hc7_m1
      try simp only [Bool.not_eq_true', Bool.not_eq_false', decide_eq_true_eq, decide_eq_false_iff_not] at h1
      have y7 := hb7.size
      have z7 := hk7.size; have o7 := hk7.own
      simp only [List.mem_cons, List.not_mem_nil, or_false, forall_eq_or_imp, forall_eq] at o7
      have S_7 := S.ko hk7 (allc (.inl (by simp)) (allc (.inl (by simp)) (allc (.inl (by simp)) all0)))
      have RR_7 := RR.chg (Chg.kept hk7) (fun _ h => h)
      exact ⟨by rw [decide_eq_true (show x3 < (T.length : Int) by assumption), Bool.true_and], S_7⟩
    · intro h2 w8 hb8 hk8 hc8_m1
      try simp only [Bool.not_eq_true', Bool.not_eq_false', decide_eq_true_eq, decide_eq_false_iff_not] at h2
      have y8 := hb8.size
      have z8 := hk8.size; have o8 := hk8.own
      simp only [List.mem_cons, List.not_mem_nil, or_false, forall_eq_or_imp, forall_eq] at o8
      have S_8 := S.ko hk8 (allc (.inl (by simp)) (allc (.inl (by simp)) (allc (.inl (by simp)) all0)))
      have RR_8 := RR.chg (Chg.kept hk8) (fun _ h => h)
      exact ⟨by rw [decide_eq_false (show ¬ x3 < (T.length : Int) by omega), Bool.false_and], S_8⟩
  rintro t1 w9 hb9 ⟨ht1, S⟩
  have y9 := hb9.size
  have zz3 := S.size
  have RS := RR.chg S.h (fun _ h => h)
  have LA_9 := rowE_lies RS (Nat.le_refl _)
  have hTb := trip_bd hT x3.toNat
  refine ⟨?_, ?_⟩
  · intro h3
    try simp only [Bool.not_eq_true', Bool.not_eq_false', decide_eq_true_eq, decide_eq_false_iff_not] at h3
    refine load_trip hT0 hb9 (by have := ht1.symm.trans (by assumption : t1 = true); simp only [Bool.and_eq_true, decide_eq_true_eq] at this; omega) fun m13 m14 hm1 => ?_
    have h1t := ht1.symm.trans (by assumption : t1 = true)
    simp only [Bool.and_eq_true, decide_eq_true_eq] at h1t
    have q6 := tmod_bd (b := 6) hTb.1.1 (by omega)
    have q30 := tmod_bd (b := 30) hTb.2.1.1 (by omega)
    have q60 := tmod_bd (b := 60) hTb.2.2.1 (by omega)
    have hnew : ConOk lo ⟨(T.getD x3.toNat (0, 0, 0)).1.tmod 6, lo + (T.getD x3.toNat (0, 0, 0)).2.1.tmod 30, min 200 (lo + (T.getD x3.toNat (0, 0, 0)).2.1.tmod 30 + (T.getD x3.toNat (0, 0, 0)).2.2.tmod 60)⟩ := ⟨by simp only; omega, by simp only; omega, by simp only; omega⟩
    refine ⟨(by first | omega | (simp only; omega)), ?_⟩
    intro m15 g_m15
    refine ⟨(by first | omega | (simp only; omega)), (by first | omega | (simp only; omega)), (by first | omega | (simp only; omega)), (by first | omega | (simp only; omega)), (by first | omega | (simp only; omega)), (by first | omega | (simp only; omega)), (by first | omega | (simp only; omega)), (by first | omega | (simp only; omega)), ?_⟩
    intro m16 g_m16 w10 hb10 hk10 hc10_m16
    have y10 := hb10.size
    have z10 := hk10.size; have o10 := hk10.own
    simp only [List.mem_cons, List.not_mem_nil, or_false, forall_eq_or_imp, forall_eq] at o10
    have S_10 := S.ko hk10 (allc (.inr (by omega)) (allc (.inl (by simp)) (allc (.inr (by omega)) (allc (.inl (by simp)) (allc (.inl (by simp)) all0)))))
    have RS_10 := ((RS.grow (ms := [m16, m15]) (allc g_m16 (allc g_m15 all0))).chg (Chg.kept hk10) (fun x hx => by simp only [List.mem_append, List.mem_cons, List.not_mem_nil, or_false] at hx ⊢; omega)).less (ns' := [m16, m5, m15, m3, m1]) (fun x hx => by simp only [List.mem_append, List.mem_cons, List.not_mem_nil, or_false] at hx ⊢; omega)
    refine append_rowE (P := Try.prog) (bytes := 24) (by kernel_rfl) (by omega) RS_10 (m := 1) (news := [I _, I _, I _]) (Cells.obj (vs := [I _, I _, I _]) hc10_m16) rfl (List.forall_mem_cons.2 ⟨rfl, List.forall_mem_cons.2 ⟨rfl, List.forall_mem_cons.2 ⟨rfl, by simp⟩⟩⟩) (by omega) (by omega) (by have := hb10.size; omega) hk10.own (by omega) fun aR11 cR11 w11 RS_11r S11 cS11 hS11 => ?_
    have RS_11 : RowE _ _ _ _ _ _ _ _ _ := .inr RS_11r
    have z11 := cS11.size
    have kx11 : KeepX true w.heap.size [m16, m5, m15, m3, m1] (fun _ => False) w10 w11 := cS11.own (fun x hx => ⟨hk10.own x hx, fun h => (hS11 x h).2 hx⟩) (by simp) (fun _ => ⟨hb10.size, fun x hx => by have := (hS11 x hx).1; omega⟩)
    refine ⟨_, _, _, rfl, kx11, (by first | omega | (simp only; omega)), ?_⟩
    intro w12 hb12 hk12
    have y12 := hb12.size
    have z12 := hk12.size; have o12 := hk12.own
    simp only [List.mem_cons, List.not_mem_nil, or_false, forall_eq_or_imp, forall_eq] at o12
    have RS_12 := RS_11.chg (Chg.kept hk12) (fun _ h => h)
    refine ⟨?_, (by first | omega | (simp only; omega))⟩
    exact ⟨⟨by omega, by omega, by omega⟩, B, l ++ [⟨(T.getD x3.toNat (0, 0, 0)).1.tmod 6, lo + (T.getD x3.toNat (0, 0, 0)).2.1.tmod 30, min 200 (lo + (T.getD x3.toNat (0, 0, 0)).2.1.tmod 30 + (T.getD x3.toNat (0, 0, 0)).2.2.tmod 60)⟩], ⟨by omega, by omega, by omega, by omega⟩, by rw [List.length_append]; rfl, by rw [List.length_append, List.length_singleton]; omega, fun x hx => by
      rcases List.mem_append.1 hx with hx | hx
      · exact hC x hx
      · obtain rfl := List.mem_singleton.1 hx
        exact hnew, by rw [consV_append]; exact RS_12.less (by simp)⟩
  · intro h4
    try simp only [Bool.not_eq_true', Bool.not_eq_false', decide_eq_true_eq, decide_eq_false_iff_not] at h4
    have ht1f := ht1.symm.trans (by assumption : t1 = false)
    have hlen4 : l.length ≤ 4 := by omega
    refine ⟨fun ls w' => match ls with | [.sl a n c, .int _ yr, .int _ ii] => (0 ≤ ii ∧ ii ≤ 6 ∧ (ii ≤ O.length ∨ ii ≤ 1)) ∧ ∃ (B2 : Nat) (o : List Int), (m1 < B2 ∧ m3 < B2 ∧ w9.heap.size ≤ B2 ∧ B2 ≤ w'.heap.size) ∧ n = o.length ∧ OrdI lo o ii yr ∧ RowE 3 1 B2 [m3, m1] a n c (ints o) w' ∧ Lies [] B w9.heap.size w' a1 (consV l) | _ => False, fun ls => match ls with | [_, _, .int _ ii] => (7 - ii).toNat | _ => 0, ?_, ?_⟩
    · intro w14 hb14 hk14 hc14_m5
      have y14 := hb14.size
      have z14 := hk14.size; have o14 := hk14.own
      simp only [List.mem_cons, List.not_mem_nil, or_false, forall_eq_or_imp, forall_eq] at o14
      have S_14 := S.ko hk14 (allc (.inl (by simp)) (allc (.inl (by simp)) (allc (.inl (by simp)) all0)))
      have LA_14 := LA_9.ko hk14 (allc (.inl (by omega)) (allc (.inl (by omega)) (allc (.inl (by omega)) all0)))
      exact ⟨⟨by omega, by omega, by omega⟩, w14.heap.size, [], ⟨by omega, by omega, by omega, Nat.le_refl _⟩, rfl, ⟨by simp, fun _ => rfl, fun j hj => by simp at hj, by simp, by omega, fun h => by omega⟩, .lit, LA_14⟩
    rintro a3 m22 m23 x8 x9 w15 hb15 ⟨x9b, B2, o, hB2, hnn, hOI, RO, LA⟩
    have y15 := hb15.size
    subst hnn
    have S : SinceL [m3, m1] w15 w15 := SinceL.refl
    refine ⟨fun ls w' => match ls with | [.bool t] => t = (decide (x9 = 0) || (decide (x9 < (O.length : Int)) && decide (x9 < 6))) ∧ SinceL [m3, m1] w15 w' | _ => False, ?_, ?_⟩
    · refine ⟨?_, ?_⟩
      · intro h5 w17 hb17 hk17
        try simp only [Bool.not_eq_true', Bool.not_eq_false', decide_eq_true_eq, decide_eq_false_iff_not] at h5
        have y17 := hb17.size
        have z17 := hk17.size; have o17 := hk17.own
        simp only [List.mem_cons, List.not_mem_nil, or_false, forall_eq_or_imp, forall_eq] at o17
        have S_17 := S.ko hk17 (allc (.inl (by simp)) (allc (.inl (by simp)) all0))
        exact ⟨by rw [decide_eq_true (show x9 = 0 by assumption), Bool.true_or], S_17⟩
      · intro h6
        try simp only [Bool.not_eq_true', Bool.not_eq_false', decide_eq_true_eq, decide_eq_false_iff_not] at h6
        refine ⟨?_, ?_⟩
        · intro h7 w18 hb18 hk18 hc18_m1
          try simp only [Bool.not_eq_true', Bool.not_eq_false', decide_eq_true_eq, decide_eq_false_iff_not] at h7
          have y18 := hb18.size
          have z18 := hk18.size; have o18 := hk18.own
          simp only [List.mem_cons, List.not_mem_nil, or_false, forall_eq_or_imp, forall_eq] at o18
          have S_18 := S.ko hk18 (allc (.inl (by simp)) (allc (.inl (by simp)) all0))
          exact ⟨by rw [decide_eq_false (show ¬ x9 = 0 by assumption), Bool.false_or, decide_eq_true (show x9 < (O.length : Int) by assumption), Bool.true_and], S_18⟩
        · intro h8 w19 hb19 hk19 hc19_m1
          try simp only [Bool.not_eq_true', Bool.not_eq_false', decide_eq_true_eq, decide_eq_false_iff_not] at h8
          have y19 := hb19.size
          have z19 := hk19.size; have o19 := hk19.own
          simp only [List.mem_cons, List.not_mem_nil, or_false, forall_eq_or_imp, forall_eq] at o19
          have S_19 := S.ko hk19 (allc (.inl (by simp)) (allc (.inl (by simp)) all0))
          exact ⟨by rw [decide_eq_false (show ¬ x9 = 0 by assumption), Bool.false_or, decide_eq_false (show ¬ x9 < (O.length : Int) by omega), Bool.false_and], S_19⟩
    rintro t2 w20 hb20 ⟨ht2, S⟩
    have y20 := hb20.size
    have zz6 := S.size
    have RS := RO.chg S.h (fun _ h => h)
    have LA_20 := LA.out S.h (by simp only [List.mem_cons, List.not_mem_nil, or_false, forall_eq_or_imp, forall_eq]; omega)
    have LO_20 := rowE_lies RS (Nat.le_refl _)
    have hy := hOI.yr
    have hon := hOI.n
    have hx9 : t2 = false → 0 < x9 ∧ x9 ≤ 6 := fun h => by have := ht2.symm.trans h; simp only [Bool.or_eq_false_iff, decide_eq_false_iff_not] at this; omega
    refine ⟨?_, ?_⟩
    · intro h9 w21 hb21 hk21
      try simp only [Bool.not_eq_true', Bool.not_eq_false', decide_eq_true_eq, decide_eq_false_iff_not] at h9
      have y21 := hb21.size
      have z21 := hk21.size; have o21 := hk21.own
      simp only [List.mem_cons, List.not_mem_nil, or_false, forall_eq_or_imp, forall_eq] at o21
      have S_21 := S.ko hk21 (allc (.inl (by simp)) (allc (.inl (by simp)) all0))
      have LA_21 := LA_20.ko hk21 (allc (.inl (by omega)) (allc (.inl (by omega)) all0))
      have LO_21 := LO_20.ko hk21 (allc (.inl (by omega)) (allc (.inl (by omega)) all0))
      refine Pure.calls (byteOf_any (x9) (by omega) (hO0.keep hb21) hO) fun w22 hd22 => ?_
      have hb22 := hb21.trans (hd22.mono hb21.size)
      have z22 := hd22.size
      have qb22 := byteM_bd hO x9
      have qm22 := tmod_bd (b := 20) qb22.1 (by omega)
      have S_22 := S_21.below hd22
      have LA_22 := LA_21.below hd22
      have LO_22 := LO_21.below hd22
      refine ⟨_, rfl, .all hd22, (by first | omega | (simp only; omega)), (by first | omega | (simp only; omega)), ?_⟩
      have ht2t := ht2.symm.trans (by assumption : t2 = true)
      simp only [Bool.or_eq_true, Bool.and_eq_true, decide_eq_true_eq] at ht2t
      refine ⟨fun ls w' => match ls with | [.int _ x] => ((x9 = 0 → 0 ≤ x ∧ x < 2 * lo) ∧ (x9 ≠ 0 → x8 ≤ x ∧ x ≤ x8 + 19)) ∧ SinceL [m3, m1] w15 w' | _ => False, ?_, ?_⟩
      · refine ⟨?_, ?_⟩
        · intro h10 w24 hb24 hk24
          try simp only [Bool.not_eq_true', Bool.not_eq_false', decide_eq_true_eq, decide_eq_false_iff_not] at h10
          have y24 := hb24.size
          have z24 := hk24.size; have o24 := hk24.own
          simp only [List.mem_cons, List.not_mem_nil, or_false, forall_eq_or_imp, forall_eq] at o24
          have S_24 := S_22.kio hk24 (allc (.inl (by simp)) (allc (.inl (by simp)) all0))
          have LA_24 := LA_22.out hk24.chg (allc (.inl (by omega)) (allc (.inl (by omega)) all0))
          have LO_24 := LO_22.out hk24.chg (allc (.inl (by omega)) (allc (.inl (by omega)) all0))
          refine Pure.calls (byteOf_any 0 (by omega) (hO0.keep hb24) hO) fun w25 hd25 => ?_
          have hb25 := hb24.trans (hd25.mono hb24.size)
          have z25 := hd25.size
          have qb25 := byteM_bd hO 0
          have S_25 := S_24.below hd25
          have LA_25 := LA_24.below hd25
          have LO_25 := LO_24.below hd25
          refine ⟨_, rfl, .all hd25, (by first | omega | (simp only; omega)), (by first | omega | (simp only; omega)), ?_⟩
          intro w26 hb26 hk26 hc26_m1 hc26_m3
          have y26 := hb26.size
          have z26 := hk26.size; have o26 := hk26.own
          simp only [List.mem_cons, List.not_mem_nil, or_false, forall_eq_or_imp, forall_eq] at o26
          have S_26 := S_25.ko hk26 (allc (.inl (by simp)) (allc (.inl (by simp)) all0))
          have LA_26 := LA_25.ko hk26 (allc (.inl (by omega)) (allc (.inl (by omega)) all0))
          have LO_26 := LO_25.ko hk26 (allc (.inl (by omega)) (allc (.inl (by omega)) all0))
          exact ⟨⟨fun _ => tmod_bd (byteM_bd hO _).1 (by omega), fun h => absurd (by assumption) h⟩, S_26⟩
        · intro h11 w27 hb27 hk27
          try simp only [Bool.not_eq_true', Bool.not_eq_false', decide_eq_true_eq, decide_eq_false_iff_not] at h11
          have y27 := hb27.size
          have z27 := hk27.size; have o27 := hk27.own
          simp only [List.mem_cons, List.not_mem_nil, or_false, forall_eq_or_imp, forall_eq] at o27
          have S_27 := S_22.ko hk27 (allc (.inl (by simp)) (allc (.inl (by simp)) all0))
          have LA_27 := LA_22.ko hk27 (allc (.inl (by omega)) (allc (.inl (by omega)) all0))
          have LO_27 := LO_22.ko hk27 (allc (.inl (by omega)) (allc (.inl (by omega)) all0))
          exact ⟨⟨fun h => absurd h (by assumption), fun _ => by omega⟩, S_27⟩
      rintro x13 w28 hb28 ⟨hx13, S⟩
      have y28 := hb28.size
      have zz7 := S.size
      have RS := RO.chg S.h (fun _ h => h)
      refine ⟨fun ls w' => match ls with | [.bool t] => t = (decide (o.length = 0) || decide (o.getD (o.length - 1) 0 < x13)) ∧ SinceL [m3, m1] w15 w' | _ => False, ?_, ?_⟩
      · refine ⟨?_, ?_⟩
        · intro h12 w30 hb30 hk30
          try simp only [Bool.not_eq_true', Bool.not_eq_false', decide_eq_true_eq, decide_eq_false_iff_not] at h12
          have y30 := hb30.size
          have z30 := hk30.size; have o30 := hk30.own
          simp only [List.mem_cons, List.not_mem_nil, or_false, forall_eq_or_imp, forall_eq] at o30
          have S_30 := S.ko hk30 (allc (.inl (by simp)) (allc (.inl (by simp)) all0))
          have RS_30 := RS.chg (Chg.kept hk30) (fun _ h => h)
          exact ⟨by rw [decide_eq_true (by omega), Bool.true_or], S_30⟩
        · intro h13
          try simp only [Bool.not_eq_true', Bool.not_eq_false', decide_eq_true_eq, decide_eq_false_iff_not] at h13
          refine ⟨(by first | omega | (simp only; omega)), ?_⟩
          refine load_row_int RS (by first | rfl | simp) (by omega) fun m32 m33 hm2 hn2 => ⟨.inr (by simp only [List.mem_cons, List.not_mem_nil, or_false, not_or] at hn2; omega), ?_⟩
          intro w31 hb31 hk31
          have y31 := hb31.size
          have z31 := hk31.size; have o31 := hk31.own
          simp only [List.mem_cons, List.not_mem_nil, or_false, forall_eq_or_imp, forall_eq] at o31
          have S_31 := S.ko hk31 (allc (.inl (by simp)) (allc (.inl (by simp)) all0))
          have RS_31 := RS.chg (Chg.kept hk31) (fun _ h => h)
          exact ⟨by rw [decide_eq_false (show ¬ o.length = 0 by omega), Bool.false_or, show ((o.length : Int) - 1).toNat = o.length - 1 by omega], S_31⟩
      rintro t3 w32 hb32 ⟨ht3, S⟩
      have y32 := hb32.size
      have zz8 := S.size
      have RS := RO.chg S.h (fun _ h => h)
      have LA_32 := LA.out S.h (by simp only [List.mem_cons, List.not_mem_nil, or_false, forall_eq_or_imp, forall_eq]; omega)
      refine ⟨fun ls w' => match ls with | [.sl a n c] => ∃ o2 : List Int, n = o2.length ∧ OrdI lo o2 (x9 + 1) x13 ∧ RowE 3 1 B2 [m3, m1] a n c (ints o2) w' ∧ Lies [] B w9.heap.size w' a1 (consV l) ∧ B2 ≤ w'.heap.size | _ => False, ?_, ?_⟩
      · refine ⟨?_, ?_⟩
        · intro h14 m36 g_m36 w34 hb34 hk34 hc34_m36
          try simp only [Bool.not_eq_true', Bool.not_eq_false', decide_eq_true_eq, decide_eq_false_iff_not] at h14
          have y34 := hb34.size
          have z34 := hk34.size; have o34 := hk34.own
          simp only [List.mem_cons, List.not_mem_nil, or_false, forall_eq_or_imp, forall_eq] at o34
          have LA_34 := LA_32.ko hk34 (allc (.inr (by omega)) (allc (.inl (by omega)) (allc (.inl (by omega)) all0)))
          have RS_34 := (RS.grow (ms := [m36]) (allc g_m36 all0)).chg (Chg.kept hk34) (fun _ h => h)
          refine append_rowE (P := Try.prog) (bytes := 8) (by kernel_rfl) (by omega) RS_34 (m := 1) (news := [I _]) (Cells.obj (vs := [I _]) hc34_m36) rfl (List.forall_mem_cons.2 ⟨rfl, by simp⟩) (by omega) (by omega) (by have := hb34.size; omega) hk34.own (by omega) fun aR35 cR35 w35 RS_35r S35 cS35 hS35 => ?_
          have RS_35 : RowE _ _ _ _ _ _ _ _ _ := .inr RS_35r
          have z35 := cS35.size
          have kx35 : KeepX true w.heap.size [m36, m3, m1] (fun _ => False) w34 w35 := cS35.own (fun x hx => ⟨hk34.own x hx, fun h => (hS35 x h).2 hx⟩) (by simp) (fun _ => ⟨hb34.size, fun x hx => by have := (hS35 x hx).1; omega⟩)
          have LA_35 := LA_34.out cS35 (fun x hx => by have := (hS35 x hx).1; omega)
          refine ⟨_, _, _, rfl, kx35, ?_⟩
          intro w36 hb36 hk36 hc36_m36
          have y36 := hb36.size
          have z36 := hk36.size; have o36 := hk36.own
          simp only [List.mem_cons, List.not_mem_nil, or_false, forall_eq_or_imp, forall_eq] at o36
          have LA_36 := LA_35.ko hk36 (allc (.inr (by omega)) (allc (.inl (by omega)) (allc (.inl (by omega)) all0)))
          have RS_36 := RS_35.chg (Chg.kept hk36) (fun _ h => h)
          have h3 := ht3.symm.trans (by assumption : t3 = true)
          simp only [Bool.or_eq_true, decide_eq_true_eq] at h3
          exact ⟨o ++ [x13], by rw [List.length_append]; rfl, OrdI.push hb1 hOI (by omega) hx13 h3, by rw [ints_append]; exact RS_36.less (by simp), LA_36, by omega⟩
        · intro h15 w37 hb37 hk37
          try simp only [Bool.not_eq_true', Bool.not_eq_false', decide_eq_true_eq, decide_eq_false_iff_not] at h15
          have y37 := hb37.size
          have z37 := hk37.size; have o37 := hk37.own
          simp only [List.mem_cons, List.not_mem_nil, or_false, forall_eq_or_imp, forall_eq] at o37
          have LA_37 := LA_32.ko hk37 (allc (.inl (by omega)) (allc (.inl (by omega)) all0))
          have RS_37 := RS.chg (Chg.kept hk37) (fun _ h => h)
          have h3 := ht3.symm.trans (by assumption : t3 = false)
          simp only [Bool.or_eq_false_iff, decide_eq_false_iff_not] at h3
          exact ⟨o, rfl, OrdI.skip hOI (by have := hOI.n; omega) (hx13.2 (by intro h; exact h3.1 (hOI.e h))), RS_37.less (by simp), LA_37, by omega⟩
      rintro a5 m42 m43 w38 hb38 ⟨o2, hnn, hOI2, RO2, LA, zB⟩
      have y38 := hb38.size
      subst hnn
      refine ⟨(by first | omega | (simp only; omega)), ?_⟩
      intro w39 hb39 hk39
      have y39 := hb39.size
      have z39 := hk39.size; have o39 := hk39.own
      simp only [List.mem_cons, List.not_mem_nil, or_false, forall_eq_or_imp, forall_eq] at o39
      have LA_39 := LA.ko hk39 (allc (.inl (by omega)) (allc (.inl (by omega)) all0))
      have RO2_39 := RO2.chg (Chg.kept hk39) (fun _ h => h)
      refine ⟨?_, (by first | omega | (simp only; omega))⟩
      exact ⟨⟨by omega, by omega, by omega⟩, B2, o2, ⟨by omega, by omega, by omega, by omega⟩, rfl, hOI2, RO2_39, LA_39⟩
    · intro h16 m44 g_m44 w40 hb40 hk40 hc40_m44
      try simp only [Bool.not_eq_true', Bool.not_eq_false', decide_eq_true_eq, decide_eq_false_iff_not] at h16
      have y40 := hb40.size
      have z40 := hk40.size; have o40 := hk40.own
      simp only [List.mem_cons, List.not_mem_nil, or_false, forall_eq_or_imp, forall_eq] at o40
      have S_40 := S.kio hk40 (allc (.inr (by omega)) (allc (.inl (by simp)) (allc (.inl (by simp)) all0)))
      have LA_40 := LA_20.out hk40.chg (allc (.inr (by omega)) (allc (.inl (by omega)) (allc (.inl (by omega)) all0)))
      have LO_40 := LO_20.out hk40.chg (allc (.inr (by omega)) (allc (.inl (by omega)) (allc (.inl (by omega)) all0)))
      refine append_copy (P := Try.prog) (e := 80) (bytes := 24) (size := 3) (by kernel_rfl) (by omega) LA_40.cells (consV_len _) (by omega) (by omega) fun aC41 cC41 w41 hd41 hC41 nC41 xC41 rC41 => ?_
      have hb41 := hb40.trans (hd41.mono hb40.size)
      have z41 := hd41.size
      have S_41 := S_40.below hd41
      have LA_41 := LA_40.below hd41
      have LO_41 := LO_40.below hd41
      have C41_41 : Lies [] w40.heap.size w41.heap.size w41 aC41 _ := Lies.new hC41 nC41 (by simp)
      refine ⟨_, _, _, rfl, .all hd41, ?_⟩
      intro w42 hb42 hk42
      have y42 := hb42.size
      have z42 := hk42.size; have o42 := hk42.own
      simp only [List.mem_cons, List.not_mem_nil, or_false, forall_eq_or_imp, forall_eq] at o42
      have S_42 := S_41.kio hk42 (allc (.inr (by omega)) (allc (.inl (by simp)) (allc (.inl (by simp)) all0)))
      have LA_42 := LA_41.out hk42.chg (allc (.inr (by omega)) (allc (.inl (by omega)) (allc (.inl (by omega)) all0)))
      have LO_42 := LO_41.out hk42.chg (allc (.inr (by omega)) (allc (.inl (by omega)) (allc (.inl (by omega)) all0)))
      have C41_42 := C41_41.kio hk42 (allc (.inl (by omega)) (allc (.inl (by omega)) (allc (.inl (by omega)) all0))) ⟨(0, w41.heap.size), by simp, by simp only; omega, by simp only; omega⟩
      refine (ints_c LO_42.cells (by omega)).mono fun e43 w43 he => ?_
      obtain ⟨a43, c43, rfl, hd43, LI43_43, hcap43⟩ := he
      have hb43 := hb42.trans (hd43.mono hb42.size)
      have z43 := hd43.size
      have S_43 := S_42.below hd43
      have LA_43 := LA_42.below hd43
      have LO_43 := LO_42.below hd43
      have C41_43 := C41_42.below hd43
      refine ⟨_, _, _, rfl, .all hd43, ?_⟩
      intro w44 hb44 hk44
      have y44 := hb44.size
      have z44 := hk44.size; have o44 := hk44.own
      simp only [List.mem_cons, List.not_mem_nil, or_false, forall_eq_or_imp, forall_eq] at o44
      have S_44 := S_43.kio hk44 (allc (.inr (by omega)) (allc (.inl (by simp)) (allc (.inl (by simp)) all0)))
      have LA_44 := LA_43.out hk44.chg (allc (.inr (by omega)) (allc (.inl (by omega)) (allc (.inl (by omega)) all0)))
      have LO_44 := LO_43.out hk44.chg (allc (.inr (by omega)) (allc (.inl (by omega)) (allc (.inl (by omega)) all0)))
      have C41_44 := C41_43.kio hk44 (allc (.inl (by omega)) (allc (.inl (by omega)) (allc (.inl (by omega)) all0))) ⟨(0, w43.heap.size), by simp, by simp only; omega, by simp only; omega⟩
      have LI43_44 := LI43_43.kio hk44 (allc (.inl (by omega)) (allc (.inl (by omega)) (allc (.inl (by omega)) all0))) ⟨(0, w43.heap.size), by simp, by simp only; omega, by simp only; omega⟩
      refine (spares_e (l := l) (o := o) (by omega) hlen4 hC (hOI.ok (hx9 (by assumption))) C41_44.cells LI43_44.cells hcap43).mono fun e45 w45 he => ?_
      obtain ⟨a45, c45, rfl, hd45, LN_45⟩ := he
      have hb45 := hb44.trans (hd45.mono hb44.size)
      have z45 := hd45.size
      have S_45 := S_44.below hd45
      have LA_45 := LA_44.below hd45
      have LO_45 := LO_44.below hd45
      have C41_45 := C41_44.below hd45
      have LI43_45 := LI43_44.below hd45
      refine ⟨_, _, _, _, rfl, .all hd45, ?_⟩
      refine ⟨fun ls w' => match ls with | [.bool t] => t = false ∧ Held11 B w9.heap.size B2 w20.heap.size w44.heap.size w45.heap.size a1 a3 a45 l o (outL lo l o o.length) w' | _ => False, ?_, ?_⟩
      · refine ⟨?_, ?_⟩
        · intro h17 w47 hb47 hk47
          try simp only [Bool.not_eq_true', Bool.not_eq_false', decide_eq_true_eq, decide_eq_false_iff_not] at h17
          have y47 := hb47.size
          have z47 := hk47.size; have o47 := hk47.own
          simp only [List.mem_cons, List.not_mem_nil, or_false, forall_eq_or_imp, forall_eq] at o47
          have S_47 := S_45.ko hk47 (allc (.inr (by omega)) (allc (.inl (by simp)) (allc (.inl (by simp)) all0)))
          have LA_47 := LA_45.ko hk47 (allc (.inr (by omega)) (allc (.inl (by omega)) (allc (.inl (by omega)) all0)))
          have LO_47 := LO_45.ko hk47 (allc (.inr (by omega)) (allc (.inl (by omega)) (allc (.inl (by omega)) all0)))
          have C41_47 := C41_45.ko hk47 (allc (.inl (by omega)) (allc (.inl (by omega)) (allc (.inl (by omega)) all0)))
          have LI43_47 := LI43_45.ko hk47 (allc (.inl (by omega)) (allc (.inl (by omega)) (allc (.inl (by omega)) all0)))
          have LN_47 := LN_45.ko hk47 (allc (.inl (by omega)) (allc (.inl (by omega)) (allc (.inl (by omega)) all0)))
          exact absurd rfl (by assumption)
        · intro h18 w48 hb48 hk48
          try simp only [] at h18
          have y48 := hb48.size
          have z48 := hk48.size; have o48 := hk48.own
          simp only [List.mem_cons, List.not_mem_nil, or_false, forall_eq_or_imp, forall_eq] at o48
          have S_48 := S_45.ko hk48 (allc (.inr (by omega)) (allc (.inl (by simp)) (allc (.inl (by simp)) all0)))
          have LA_48 := LA_45.ko hk48 (allc (.inr (by omega)) (allc (.inl (by omega)) (allc (.inl (by omega)) all0)))
          have LO_48 := LO_45.ko hk48 (allc (.inr (by omega)) (allc (.inl (by omega)) (allc (.inl (by omega)) all0)))
          have C41_48 := C41_45.ko hk48 (allc (.inl (by omega)) (allc (.inl (by omega)) (allc (.inl (by omega)) all0)))
          have LI43_48 := LI43_45.ko hk48 (allc (.inl (by omega)) (allc (.inl (by omega)) (allc (.inl (by omega)) all0)))
          have LN_48 := LN_45.ko hk48 (allc (.inl (by omega)) (allc (.inl (by omega)) (allc (.inl (by omega)) all0)))
          exact ⟨by simp, ⟨⟨LA_48, LO_48, LN_48⟩, by omega⟩⟩
      rintro t4 w49 hb49 ⟨ht4, ⟨⟨LA, LO, LN⟩, zh⟩⟩
      have y49 := hb49.size
      refine ⟨?_, ?_⟩
      · intro h19 w50 hb50 hk50
        try simp only [Bool.not_eq_true', Bool.not_eq_false', decide_eq_true_eq, decide_eq_false_iff_not] at h19
        have y50 := hb50.size
        have z50 := hk50.size; have o50 := hk50.own
        simp only [List.mem_cons, List.not_mem_nil, or_false, forall_eq_or_imp, forall_eq] at o50
        have LA_50 := LA.ko hk50 (allc (.inr (by omega)) (allc (.inl (by omega)) (allc (.inl (by omega)) all0)))
        have LO_50 := LO.ko hk50 (allc (.inr (by omega)) (allc (.inl (by omega)) (allc (.inl (by omega)) all0)))
        have LN_50 := LN.ko hk50 (allc (.inl (by omega)) (allc (.inl (by omega)) (allc (.inl (by omega)) all0)))
        exact absurd (ht4.symm.trans (by assumption)) (by decide)
      · intro h20
        try simp only [Bool.not_eq_true', Bool.not_eq_false', decide_eq_true_eq, decide_eq_false_iff_not] at h20
        refine ⟨fun ls w' => match ls with | [.bool _, .int _ tr] => (0 ≤ tr ∧ tr ≤ 2) ∧ Held11 B w9.heap.size B2 w20.heap.size w44.heap.size w45.heap.size a1 a3 a45 l o (outL lo l o o.length) w' | _ => False, fun ls => match ls with | [_, .int _ tr] => (2 - tr).toNat | _ => 0, ?_, ?_⟩
        · intro w52 hb52 hk52
          have y52 := hb52.size
          have z52 := hk52.size; have o52 := hk52.own
          simp only [List.mem_cons, List.not_mem_nil, or_false, forall_eq_or_imp, forall_eq] at o52
          have LA_52 := LA.ko hk52 (allc (.inr (by omega)) (allc (.inl (by omega)) (allc (.inl (by omega)) all0)))
          have LO_52 := LO.ko hk52 (allc (.inr (by omega)) (allc (.inl (by omega)) (allc (.inl (by omega)) all0)))
          have LN_52 := LN.ko hk52 (allc (.inl (by omega)) (allc (.inl (by omega)) (allc (.inl (by omega)) all0)))
          exact ⟨⟨by omega, by omega⟩, ⟨⟨LA_52, LO_52, LN_52⟩, by omega⟩⟩
        rintro t5 x17 w53 hb53 ⟨x17b, ⟨⟨LA, LO, LN⟩, zh⟩⟩
        have y53 := hb53.size
        refine ⟨?_, ?_⟩
        · intro h21 w54 hb54 hk54
          try simp only [Bool.not_eq_true', Bool.not_eq_false', decide_eq_true_eq, decide_eq_false_iff_not] at h21
          have y54 := hb54.size
          have z54 := hk54.size; have o54 := hk54.own
          simp only [List.mem_cons, List.not_mem_nil, or_false, forall_eq_or_imp, forall_eq] at o54
          have LA_54 := LA.ko hk54 (allc (.inr (by omega)) (allc (.inl (by omega)) (allc (.inl (by omega)) all0)))
          have LO_54 := LO.ko hk54 (allc (.inr (by omega)) (allc (.inl (by omega)) (allc (.inl (by omega)) all0)))
          have LN_54 := LN.ko hk54 (allc (.inl (by omega)) (allc (.inl (by omega)) (allc (.inl (by omega)) all0)))
          refine mk_ints (by omega) (by omega) fun w55 hd55 OU_55 => ?_
          have hb55 := hb54.trans (hd55.mono hb54.size)
          have z55 := hd55.size
          have LA_55 := LA_54.below hd55
          have LO_55 := LO_54.below hd55
          have LN_55 := LN_54.below hd55
          refine ⟨_, _, _, rfl, .all hd55, ?_⟩
          refine ⟨fun ls w' => match ls with | [.int _ tries, .int _ ii] => (0 ≤ ii ∧ ii ≤ l.length) ∧ ∃ U : List Int, Uses x17 U (fun Y => sumB lo l Y ii.toNat) ∧ (0 ≤ tries ∧ tries ≤ cum U 201 + 5 * ii) ∧ IntsAt w54.heap.size (Int.toNat 201) U w' ∧ Held11 B w9.heap.size B2 w20.heap.size w44.heap.size w45.heap.size a1 a3 a45 l o (outL lo l o o.length) w' | _ => False, fun ls => match ls with | [_, .int _ ii] => (l.length - ii).toNat | _ => 0, ?_, ?_⟩
          · intro w57 hb57 hk57
            have y57 := hb57.size
            have z57 := hk57.size; have o57 := hk57.own
            simp only [List.mem_cons, List.not_mem_nil, or_false, forall_eq_or_imp, forall_eq] at o57
            have LA_57 := LA_55.ko hk57 (allc (.inr (by omega)) (allc (.inl (by omega)) (allc (.inl (by omega)) all0)))
            have LO_57 := LO_55.ko hk57 (allc (.inr (by omega)) (allc (.inl (by omega)) (allc (.inl (by omega)) all0)))
            have LN_57 := LN_55.ko hk57 (allc (.inl (by omega)) (allc (.inl (by omega)) (allc (.inl (by omega)) all0)))
            have OU_57 := OU_55.ko hk57 (allc (by omega) (allc (by omega) (allc (by omega) all0)))
            exact ⟨⟨by omega, by omega⟩, List.replicate 201 0, Uses.zero x17, ⟨by omega, by have := cum_nonneg (U := List.replicate 201 0) (Uses.zero x17).p 201; omega⟩, OU_57, ⟨⟨LA_57, LO_57, LN_57⟩, by omega⟩⟩
          rintro x18 x19 w58 hb58 ⟨x19b, U, hU, htr, OU, ⟨⟨LA, LO, LN⟩, zh⟩⟩
          have y58 := hb58.size
          refine ⟨?_, ?_⟩
          · intro h22
            try simp only [Bool.not_eq_true', Bool.not_eq_false', decide_eq_true_eq, decide_eq_false_iff_not] at h22
            have hci := (all_getD (d := ⟨0, 0, 0⟩)).1 hC x19.toNat (by omega)
            have hcc := hci.c; have hcf := hci.f; have hct := hci.t
            refine ⟨fun ls w' => match ls with | [.int _ tries, .int _ cc] => (0 ≤ cc ∧ cc ≤ (l.getD x19.toNat ⟨0, 0, 0⟩).clocks) ∧ ∃ U : List Int, Uses x17 U (fun Y => sumB lo l Y x19.toNat + cc * qT lo (l.getD x19.toNat ⟨0, 0, 0⟩).frm (min Y (l.getD x19.toNat ⟨0, 0, 0⟩).to)) ∧ (0 ≤ tries ∧ tries ≤ cum U 201 + 5 * x19 + cc) ∧ IntsAt w54.heap.size (Int.toNat 201) U w' ∧ Held11 B w9.heap.size B2 w20.heap.size w44.heap.size w45.heap.size a1 a3 a45 l o (outL lo l o o.length) w' | _ => False, fun ls => match ls with | [_, .int _ cc] => ((l.getD x19.toNat ⟨0, 0, 0⟩).clocks - cc).toNat | _ => 0, ?_, ?_⟩
            · intro w60 hb60 hk60
              have y60 := hb60.size
              have z60 := hk60.size; have o60 := hk60.own
              simp only [List.mem_cons, List.not_mem_nil, or_false, forall_eq_or_imp, forall_eq] at o60
              have LA_60 := LA.ko hk60 (allc (.inr (by omega)) (allc (.inl (by omega)) (allc (.inl (by omega)) all0)))
              have LO_60 := LO.ko hk60 (allc (.inr (by omega)) (allc (.inl (by omega)) (allc (.inl (by omega)) all0)))
              have LN_60 := LN.ko hk60 (allc (.inl (by omega)) (allc (.inl (by omega)) (allc (.inl (by omega)) all0)))
              have OU_60 := OU.ko hk60 (allc (by omega) (allc (by omega) (allc (by omega) all0)))
              exact ⟨⟨by omega, by omega⟩, U, hU.mono fun Y _ _ => by rw [Int.zero_mul, Int.add_zero], ⟨by omega, by omega⟩, OU_60, ⟨⟨LA_60, LO_60, LN_60⟩, by omega⟩⟩
            rintro x20 x21 w61 hb61 ⟨x21b, U, hU, htr, OU, ⟨⟨LA, LO, LN⟩, zh⟩⟩
            have y61 := hb61.size
            refine load_conL_0 LA (by omega) fun m58 m59 hm3 => ?_
            refine ⟨(by first | omega | (simp only; omega)), ?_, ?_⟩
            · intro h23
              try simp only [Bool.not_eq_true', Bool.not_eq_false', decide_eq_true_eq, decide_eq_false_iff_not] at h23
              refine load_conL_1 LA (by omega) fun m60 m61 hm4 => ?_
              refine ⟨(by first | omega | (simp only; omega)), ?_⟩
              refine ⟨fun ls w' => match ls with | [.int _ tries, .int _ yy] => ∃ (U : List Int) (k : Int), Uses x17 U (fun Y => (sumB lo l Y x19.toNat + x21 * qT lo (l.getD x19.toNat ⟨0, 0, 0⟩).frm (min Y (l.getD x19.toNat ⟨0, 0, 0⟩).to)) + kq lo (l.getD x19.toNat ⟨0, 0, 0⟩).frm k Y) ∧ Clock x17 lo (l.getD x19.toNat ⟨0, 0, 0⟩).frm (l.getD x19.toNat ⟨0, 0, 0⟩).to k yy ∧ (0 ≤ tries ∧ tries ≤ cum U 201 + 5 * x19 + x21) ∧ (0 ≤ yy ∧ yy ≤ 200) ∧ IntsAt w54.heap.size (Int.toNat 201) U w' ∧ Held11 B w9.heap.size B2 w20.heap.size w44.heap.size w45.heap.size a1 a3 a45 l o (outL lo l o o.length) w' | _ => False, fun ls => match ls with | [_, .int _ yy] => (201 - yy).toNat | _ => 0, ?_, ?_⟩
              · intro w63 hb63 hk63
                have y63 := hb63.size
                have z63 := hk63.size; have o63 := hk63.own
                simp only [List.mem_cons, List.not_mem_nil, or_false, forall_eq_or_imp, forall_eq] at o63
                have LA_63 := LA.ko hk63 (allc (.inr (by omega)) (allc (.inl (by omega)) (allc (.inl (by omega)) all0)))
                have LO_63 := LO.ko hk63 (allc (.inr (by omega)) (allc (.inl (by omega)) (allc (.inl (by omega)) all0)))
                have LN_63 := LN.ko hk63 (allc (.inl (by omega)) (allc (.inl (by omega)) (allc (.inl (by omega)) all0)))
                have OU_63 := OU.ko hk63 (allc (by omega) (allc (by omega) (allc (by omega) all0)))
                exact ⟨U, 0, hU.mono fun Y _ _ => by unfold kq; have := qT_nonneg lo (l.getD x19.toNat ⟨0, 0, 0⟩).frm Y; omega, ⟨by omega, by omega, fun _ => by omega, .inl rfl⟩, ⟨by omega, by omega⟩, ⟨by omega, by omega⟩, OU_63, ⟨⟨LA_63, LO_63, LN_63⟩, by omega⟩⟩
              rintro x24 x25 w64 hb64 ⟨U, k, hU, hK, htr, hyy, OU, ⟨⟨LA, LO, LN⟩, zh⟩⟩
              have y64 := hb64.size
              have hcb := cum_bdE hb1.1 hlen4 hC (show x19.toNat ≤ l.length by omega) hci (show 0 ≤ x21 ∧ x21 ≤ 5 by omega) hU
              refine ⟨fun ls w' => match ls with | [.int _ tr2, .int _ lv] => (lo ≤ lv ∧ lv ≤ hi) ∧ (x17 = 1 → lv = lo) ∧ (0 ≤ tr2 ∧ tr2 ≤ x24 + 1) ∧ IntsAt w54.heap.size (Int.toNat 201) U w' ∧ Held11 B w9.heap.size B2 w20.heap.size w44.heap.size w45.heap.size a1 a3 a45 l o (outL lo l o o.length) w' | _ => False, ?_, ?_⟩
              · refine ⟨?_, ?_⟩
                · intro h24 w66 hb66 hk66
                  try simp only [Bool.not_eq_true', Bool.not_eq_false', decide_eq_true_eq, decide_eq_false_iff_not] at h24
                  have y66 := hb66.size
                  have z66 := hk66.size; have o66 := hk66.own
                  simp only [List.mem_cons, List.not_mem_nil, or_false, forall_eq_or_imp, forall_eq] at o66
                  have LA_66 := LA.out hk66.chg (allc (.inr (by omega)) (allc (.inl (by omega)) (allc (.inl (by omega)) all0)))
                  have LO_66 := LO.out hk66.chg (allc (.inr (by omega)) (allc (.inl (by omega)) (allc (.inl (by omega)) all0)))
                  have LN_66 := LN.kio hk66 (allc (.inl (by omega)) (allc (.inl (by omega)) (allc (.inl (by omega)) all0))) ⟨(0, w64.heap.size), by simp, by simp only; omega, by simp only; omega⟩
                  have OU_66 := OU.kio hk66 (allc (by omega) (allc (by omega) (allc (by omega) all0)))
                  refine Pure.calls (byteOf_any (x24) (by omega) (hL0.keep hb66) hL) fun w67 hd67 => ?_
                  have hb67 := hb66.trans (hd67.mono hb66.size)
                  have z67 := hd67.size
                  have qb67 := byteM_bd hL x24
                  have qm67 := tmod_bd (b := hi - lo + 1) qb67.1 (by omega)
                  have LA_67 := LA_66.below hd67
                  have LO_67 := LO_66.below hd67
                  have LN_67 := LN_66.below hd67
                  have OU_67 := OU_66.below hd67
                  refine ⟨_, rfl, .all hd67, (by first | omega | (simp only; omega)), (by first | omega | (simp only; omega)), (by first | omega | (simp only; omega)), (by first | omega | (simp only; omega)), (by first | omega | (simp only; omega)), ?_⟩
                  intro w68 hb68 hk68 hc68_m1 hc68_m3 hc68_m3'
                  have y68 := hb68.size
                  have z68 := hk68.size; have o68 := hk68.own
                  simp only [List.mem_cons, List.not_mem_nil, or_false, forall_eq_or_imp, forall_eq] at o68
                  have LA_68 := LA_67.ko hk68 (allc (.inr (by omega)) (allc (.inl (by omega)) (allc (.inl (by omega)) all0)))
                  have LO_68 := LO_67.ko hk68 (allc (.inr (by omega)) (allc (.inl (by omega)) (allc (.inl (by omega)) all0)))
                  have LN_68 := LN_67.ko hk68 (allc (.inl (by omega)) (allc (.inl (by omega)) (allc (.inl (by omega)) all0)))
                  have OU_68 := OU_67.ko hk68 (allc (by omega) (allc (by omega) (allc (by omega) all0)))
                  exact ⟨⟨by omega, by omega⟩, fun h => by omega, ⟨by omega, by omega⟩, OU_68, ⟨⟨LA_68, LO_68, LN_68⟩, by omega⟩⟩
                · intro h25 w69 hb69 hk69
                  try simp only [Bool.not_eq_true', Bool.not_eq_false', decide_eq_true_eq, decide_eq_false_iff_not] at h25
                  have y69 := hb69.size
                  have z69 := hk69.size; have o69 := hk69.own
                  simp only [List.mem_cons, List.not_mem_nil, or_false, forall_eq_or_imp, forall_eq] at o69
                  have LA_69 := LA.ko hk69 (allc (.inr (by omega)) (allc (.inl (by omega)) (allc (.inl (by omega)) all0)))
                  have LO_69 := LO.ko hk69 (allc (.inr (by omega)) (allc (.inl (by omega)) (allc (.inl (by omega)) all0)))
                  have LN_69 := LN.ko hk69 (allc (.inl (by omega)) (allc (.inl (by omega)) (allc (.inl (by omega)) all0)))
                  have OU_69 := OU.ko hk69 (allc (by omega) (allc (by omega) (allc (by omega) all0)))
                  exact ⟨by omega, fun _ => rfl, by omega, OU_69, ⟨⟨LA_69, LO_69, LN_69⟩, by omega⟩⟩
              rintro x27 x28 w70 hb70 ⟨hlv, hlv1, htr2, OU, ⟨⟨LA, LO, LN⟩, zh⟩⟩
              have y70 := hb70.size
              refine ⟨(by first | omega | (simp only; omega)), ?_⟩
              refine load_conL_2 LA (by omega) fun m66 m67 hm5 => ?_
              refine ⟨(by first | omega | (simp only; omega)), ?_, ?_⟩
              · intro h26
                try simp only [Bool.not_eq_true', Bool.not_eq_false', decide_eq_true_eq, decide_eq_false_iff_not] at h26
                refine ⟨(by first | omega | (simp only; omega)), ?_⟩
                intro w71 hb71 hk71
                have y71 := hb71.size
                have z71 := hk71.size; have o71 := hk71.own
                simp only [List.mem_cons, List.not_mem_nil, or_false, forall_eq_or_imp, forall_eq] at o71
                have LA_71 := LA.ko hk71 (allc (.inr (by omega)) (allc (.inl (by omega)) (allc (.inl (by omega)) all0)))
                have LO_71 := LO.ko hk71 (allc (.inr (by omega)) (allc (.inl (by omega)) (allc (.inl (by omega)) all0)))
                have LN_71 := LN.ko hk71 (allc (.inl (by omega)) (allc (.inl (by omega)) (allc (.inl (by omega)) all0)))
                have OU_71 := OU.ko hk71 (allc (by omega) (allc (by omega) (allc (by omega) all0)))
                refine ⟨?_, (by first | omega | (simp only; omega))⟩
                exact ⟨⟨by omega, by omega⟩, U, (hU.done hb1.1 hK hlv.1 hlv1 (by omega)).mono fun Y _ _ => by rw [Int.add_mul, Int.one_mul]; omega, ⟨by omega, by omega⟩, OU_71, ⟨⟨LA_71, LO_71, LN_71⟩, by omega⟩⟩
              · intro h27
                try simp only [Bool.not_eq_true', Bool.not_eq_false', decide_eq_true_eq, decide_eq_false_iff_not] at h27
                refine load_obj OU (by omega) fun m68 m69 hm6 => ?_
                have hgb := get_cum hU.n hU.p (x25 + x28).toNat
                refine ⟨(by first | omega | (simp only; omega)), (by first | omega | (simp only; omega)), ?_⟩
                refine ⟨_, _, rfl, (by first | omega | (simp only; omega)), ?_⟩
                intro w72 hb72 hk72
                have y72 := hb72.size
                have z72 := hk72.size; have o72 := hk72.own
                simp only [List.mem_cons, List.not_mem_nil, or_false, forall_eq_or_imp, forall_eq] at o72
                have LA_72 := LA.ko hk72 (allc (.inr (by omega)) (allc (.inl (by omega)) (allc (.inl (by omega)) all0)))
                have LO_72 := LO.ko hk72 (allc (.inr (by omega)) (allc (.inl (by omega)) (allc (.inl (by omega)) all0)))
                have LN_72 := LN.ko hk72 (allc (.inl (by omega)) (allc (.inl (by omega)) (allc (.inl (by omega)) all0)))
                have OU_72 := OU.ko hk72 (allc (by omega) (allc (by omega) (allc (by omega) all0)))
                have hmore := hU.more hb1.1 hcf.1 hct hK hlv.1 hlv1 (by omega)
                refine store_obj OU_72 (by omega) fun w73 OU_73 c73 => ?_
                have z73 := c73.size
                have kx73 : KeepX true w.heap.size [m44, m3, m1] (fun _ => False) w72 w73 := c73.own (fun x hx => ⟨hk72.own x hx, fun h => by simp only [List.mem_cons, List.not_mem_nil, or_false] at h hx; omega⟩) (by simp) (fun _ => ⟨hb72.size, fun x hx => by simp only [List.mem_singleton] at hx; omega⟩)
                have LA_73 := LA_72.out c73 (allc (by omega) all0)
                have LO_73 := LO_72.out c73 (allc (by omega) all0)
                have LN_73 := LN_72.out c73 (allc (by omega) all0)
                refine ⟨kx73, ?_⟩
                intro w74 hb74 hk74
                have y74 := hb74.size
                have z74 := hk74.size; have o74 := hk74.own
                simp only [List.mem_cons, List.not_mem_nil, or_false, forall_eq_or_imp, forall_eq] at o74
                have LA_74 := LA_73.ko hk74 (allc (.inr (by omega)) (allc (.inl (by omega)) (allc (.inl (by omega)) all0)))
                have LO_74 := LO_73.ko hk74 (allc (.inr (by omega)) (allc (.inl (by omega)) (allc (.inl (by omega)) all0)))
                have LN_74 := LN_73.ko hk74 (allc (.inl (by omega)) (allc (.inl (by omega)) (allc (.inl (by omega)) all0)))
                have OU_74 := OU_73.ko hk74 (allc (by omega) (allc (by omega) (allc (by omega) all0)))
                refine ⟨?_, (by first | omega | (simp only; omega))⟩
                exact ⟨_, k + 1, hmore.1, hmore.2.1, ⟨by omega, by omega⟩, ⟨by omega, by omega⟩, OU_74, ⟨⟨LA_74, LO_74, LN_74⟩, by omega⟩⟩
            · intro h28
              try simp only [Bool.not_eq_true', Bool.not_eq_false', decide_eq_true_eq, decide_eq_false_iff_not] at h28
              refine ⟨(by first | omega | (simp only; omega)), ?_⟩
              intro w75 hb75 hk75
              have y75 := hb75.size
              have z75 := hk75.size; have o75 := hk75.own
              simp only [List.mem_cons, List.not_mem_nil, or_false, forall_eq_or_imp, forall_eq] at o75
              have LA_75 := LA.ko hk75 (allc (.inr (by omega)) (allc (.inl (by omega)) (allc (.inl (by omega)) all0)))
              have LO_75 := LO.ko hk75 (allc (.inr (by omega)) (allc (.inl (by omega)) (allc (.inl (by omega)) all0)))
              have LN_75 := LN.ko hk75 (allc (.inl (by omega)) (allc (.inl (by omega)) (allc (.inl (by omega)) all0)))
              have OU_75 := OU.ko hk75 (allc (by omega) (allc (by omega) (allc (by omega) all0)))
              refine ⟨?_, (by first | omega | (simp only; omega))⟩
              exact ⟨⟨by omega, by omega⟩, U, hU.mono fun Y _ _ => by rw [show (x19 + 1).toNat = x19.toNat + 1 by omega, sumB_succ, most_q, show x21 = (l.getD x19.toNat ⟨0, 0, 0⟩).clocks by omega], ⟨by omega, by omega⟩, OU_75, ⟨⟨LA_75, LO_75, LN_75⟩, by omega⟩⟩
          · intro h29 w76 hb76 hk76
            try simp only [Bool.not_eq_true', Bool.not_eq_false', decide_eq_true_eq, decide_eq_false_iff_not] at h29
            have y76 := hb76.size
            have z76 := hk76.size; have o76 := hk76.own
            simp only [List.mem_cons, List.not_mem_nil, or_false, forall_eq_or_imp, forall_eq] at o76
            have LA_76 := LA.out hk76.chg (allc (.inr (by omega)) (allc (.inl (by omega)) (allc (.inl (by omega)) all0)))
            have LO_76 := LO.out hk76.chg (allc (.inr (by omega)) (allc (.inl (by omega)) (allc (.inl (by omega)) all0)))
            have LN_76 := LN.kio hk76 (allc (.inl (by omega)) (allc (.inl (by omega)) (allc (.inl (by omega)) all0))) ⟨(0, w58.heap.size), by simp, by simp only; omega, by simp only; omega⟩
            have OU_76 := OU.kio hk76 (allc (by omega) (allc (by omega) (allc (by omega) all0)))
            refine mk_ints (by omega) (by omega) fun w77 hd77 OL_77 => ?_
            have hb77 := hb76.trans (hd77.mono hb76.size)
            have z77 := hd77.size
            have LA_77 := LA_76.below hd77
            have LO_77 := LO_76.below hd77
            have LN_77 := LN_76.below hd77
            have OU_77 := OU_76.below hd77
            refine ⟨_, _, _, rfl, .all hd77, ?_⟩
            have hUl : Uses x17 U fun Y => sumB lo l Y l.length := hU.mono fun Y _ _ => by rw [show x19.toNat = l.length by omega]
            have hOK : OrdOk lo o := hOI.ok (hx9 (by assumption))
            have hub := OU_76.lt
            refine ⟨fun ls w' => match ls with | [.bool _, .int _ st, .int _ od, .int _ yy] => (0 ≤ yy ∧ yy ≤ 201) ∧ ∃ Lm : List Int, Stock lo l o x17 U Lm st od yy ∧ IntsAt w54.heap.size (Int.toNat 201) U w' ∧ IntsAt w76.heap.size (o.length : Int).toNat Lm w' ∧ Held11 B w9.heap.size B2 w20.heap.size w44.heap.size w45.heap.size a1 a3 a45 l o (outL lo l o o.length) w' | _ => False, fun ls => match ls with | [_, _, _, .int _ yy] => (201 - yy).toNat | _ => 0, ?_, ?_⟩
            · intro w79 hb79 hk79
              have y79 := hb79.size
              have z79 := hk79.size; have o79 := hk79.own
              simp only [List.mem_cons, List.not_mem_nil, or_false, forall_eq_or_imp, forall_eq] at o79
              have LA_79 := LA_77.ko hk79 (allc (.inr (by omega)) (allc (.inl (by omega)) (allc (.inl (by omega)) all0)))
              have LO_79 := LO_77.ko hk79 (allc (.inr (by omega)) (allc (.inl (by omega)) (allc (.inl (by omega)) all0)))
              have LN_79 := LN_77.ko hk79 (allc (.inl (by omega)) (allc (.inl (by omega)) (allc (.inl (by omega)) all0)))
              have OU_79 := OU_77.ko hk79 (allc (by omega) (allc (by omega) (allc (by omega) all0)))
              have OL_79 := OL_77.ko hk79 (allc (by omega) (allc (by omega) (allc (by omega) all0)))
              exact ⟨⟨by omega, by omega⟩, List.replicate o.length 0, Stock.zero hOK, OU_79, by rw [show o.length = (o.length : Int).toNat by omega]; exact OL_79, ⟨⟨LA_79, LO_79, LN_79⟩, by omega⟩⟩
            rintro t6 x31 x32 x33 w80 hb80 ⟨x33b, Lm, hSt, OU, OL, ⟨⟨LA, LO, LN⟩, zh⟩⟩
            have y80 := hb80.size
            have hsb := stock_bd hb1.1 hlen4 hC hUl x33b hSt
            have hso := hSt.ob
            refine ⟨?_, ?_⟩
            · intro h30
              try simp only [Bool.not_eq_true', Bool.not_eq_false', decide_eq_true_eq, decide_eq_false_iff_not] at h30
              refine ⟨fun ls w' => match ls with | [.bool t] => t = (decide (x32 < (o.length : Int)) && decide ((o.getD x32.toNat 0) = x33)) ∧ IntsAt w54.heap.size (Int.toNat 201) U w' ∧ IntsAt w76.heap.size (o.length : Int).toNat Lm w' ∧ Held11 B w9.heap.size B2 w20.heap.size w44.heap.size w45.heap.size a1 a3 a45 l o (outL lo l o o.length) w' | _ => False, ?_, ?_⟩
              · refine ⟨?_, ?_⟩
                · intro h31
                  try simp only [Bool.not_eq_true', Bool.not_eq_false', decide_eq_true_eq, decide_eq_false_iff_not] at h31
                  refine load_intL LO (by omega) fun m76 m77 hm7 => ?_
                  refine ⟨(by first | omega | (simp only; omega)), ?_⟩
                  intro w82 hb82 hk82
                  have y82 := hb82.size
                  have z82 := hk82.size; have o82 := hk82.own
                  simp only [List.mem_cons, List.not_mem_nil, or_false, forall_eq_or_imp, forall_eq] at o82
                  have LA_82 := LA.ko hk82 (allc (.inr (by omega)) (allc (.inl (by omega)) (allc (.inl (by omega)) all0)))
                  have LO_82 := LO.ko hk82 (allc (.inr (by omega)) (allc (.inl (by omega)) (allc (.inl (by omega)) all0)))
                  have LN_82 := LN.ko hk82 (allc (.inl (by omega)) (allc (.inl (by omega)) (allc (.inl (by omega)) all0)))
                  have OU_82 := OU.ko hk82 (allc (by omega) (allc (by omega) (allc (by omega) all0)))
                  have OL_82 := OL.ko hk82 (allc (by omega) (allc (by omega) (allc (by omega) all0)))
                  exact ⟨by rw [decide_eq_true (by assumption), Bool.true_and]; rfl, OU_82, OL_82, ⟨⟨LA_82, LO_82, LN_82⟩, by omega⟩⟩
                · intro h32 w83 hb83 hk83
                  try simp only [Bool.not_eq_true', Bool.not_eq_false', decide_eq_true_eq, decide_eq_false_iff_not] at h32
                  have y83 := hb83.size
                  have z83 := hk83.size; have o83 := hk83.own
                  simp only [List.mem_cons, List.not_mem_nil, or_false, forall_eq_or_imp, forall_eq] at o83
                  have LA_83 := LA.ko hk83 (allc (.inr (by omega)) (allc (.inl (by omega)) (allc (.inl (by omega)) all0)))
                  have LO_83 := LO.ko hk83 (allc (.inr (by omega)) (allc (.inl (by omega)) (allc (.inl (by omega)) all0)))
                  have LN_83 := LN.ko hk83 (allc (.inl (by omega)) (allc (.inl (by omega)) (allc (.inl (by omega)) all0)))
                  have OU_83 := OU.ko hk83 (allc (by omega) (allc (by omega) (allc (by omega) all0)))
                  have OL_83 := OL.ko hk83 (allc (by omega) (allc (by omega) (allc (by omega) all0)))
                  exact ⟨by rw [decide_eq_false (by omega), Bool.false_and], OU_83, OL_83, ⟨⟨LA_83, LO_83, LN_83⟩, by omega⟩⟩
              rintro t7 w84 hb84 ⟨ht7, OU, OL, ⟨⟨LA, LO, LN⟩, zh⟩⟩
              have y84 := hb84.size
              refine ⟨fun ls w' => match ls with | [.int _ st, .int _ od] => Stock2 lo l o U Lm st od x33 ∧ IntsAt w54.heap.size (Int.toNat 201) U w' ∧ IntsAt w76.heap.size (o.length : Int).toNat Lm w' ∧ Held11 B w9.heap.size B2 w20.heap.size w44.heap.size w45.heap.size a1 a3 a45 l o (outL lo l o o.length) w' | _ => False, ?_, ?_⟩
              · refine ⟨?_, ?_⟩
                · intro h33
                  try simp only [Bool.not_eq_true', Bool.not_eq_false', decide_eq_true_eq, decide_eq_false_iff_not] at h33
                  refine load_lenL (outL_len2 lo l o o.length) LN (by have h7 := ht7.symm.trans (by assumption : t7 = true); simp only [Bool.and_eq_true, decide_eq_true_eq] at h7; omega) fun m78 m79 hm8 => ?_
                  have h7 := ht7.symm.trans (by assumption : t7 = true)
                  simp only [Bool.and_eq_true, decide_eq_true_eq] at h7
                  have hob := out_bd hb1.1 hlen4 hC hOK (j := x32.toNat) (by omega)
                  refine ⟨(by first | omega | (simp only; omega)), (by first | omega | (simp only; omega)), (by first | omega | (simp only; omega)), ?_⟩
                  intro w86 hb86 hk86
                  have y86 := hb86.size
                  have z86 := hk86.size; have o86 := hk86.own
                  simp only [List.mem_cons, List.not_mem_nil, or_false, forall_eq_or_imp, forall_eq] at o86
                  have LA_86 := LA.ko hk86 (allc (.inr (by omega)) (allc (.inl (by omega)) (allc (.inl (by omega)) all0)))
                  have LO_86 := LO.ko hk86 (allc (.inr (by omega)) (allc (.inl (by omega)) (allc (.inl (by omega)) all0)))
                  have LN_86 := LN.ko hk86 (allc (.inl (by omega)) (allc (.inl (by omega)) (allc (.inl (by omega)) all0)))
                  have OU_86 := OU.ko hk86 (allc (by omega) (allc (by omega) (allc (by omega) all0)))
                  have OL_86 := OL.ko hk86 (allc (by omega) (allc (by omega) (allc (by omega) all0)))
                  have h7 := ht7.symm.trans (by assumption : t7 = true)
                  simp only [Bool.and_eq_true, decide_eq_true_eq] at h7
                  exact ⟨hSt.order hOK h7.1 h7.2, OU_86, OL_86, ⟨⟨LA_86, LO_86, LN_86⟩, by omega⟩⟩
                · intro h34 w87 hb87 hk87
                  try simp only [Bool.not_eq_true', Bool.not_eq_false', decide_eq_true_eq, decide_eq_false_iff_not] at h34
                  have y87 := hb87.size
                  have z87 := hk87.size; have o87 := hk87.own
                  simp only [List.mem_cons, List.not_mem_nil, or_false, forall_eq_or_imp, forall_eq] at o87
                  have LA_87 := LA.ko hk87 (allc (.inr (by omega)) (allc (.inl (by omega)) (allc (.inl (by omega)) all0)))
                  have LO_87 := LO.ko hk87 (allc (.inr (by omega)) (allc (.inl (by omega)) (allc (.inl (by omega)) all0)))
                  have LN_87 := LN.ko hk87 (allc (.inl (by omega)) (allc (.inl (by omega)) (allc (.inl (by omega)) all0)))
                  have OU_87 := OU.ko hk87 (allc (by omega) (allc (by omega) (allc (by omega) all0)))
                  have OL_87 := OL.ko hk87 (allc (by omega) (allc (by omega) (allc (by omega) all0)))
                  have h7 := ht7.symm.trans (by assumption : t7 = false)
                  simp only [Bool.and_eq_false_iff, decide_eq_false_iff_not] at h7
                  exact ⟨hSt.noOrder fun hx => by omega, OU_87, OL_87, ⟨⟨LA_87, LO_87, LN_87⟩, by omega⟩⟩
              rintro x36 x37 w88 hb88 ⟨hS2, OU, OL, ⟨⟨LA, LO, LN⟩, zh⟩⟩
              have y88 := hb88.size
              have hen := hS2.enough hb1.1 hC hOK hUl (by omega)
              have hsb2 := stock2_bd hb1.1 hlen4 hC hUl (by omega) hS2
              refine load_obj OU (by omega) fun m80 m81 hm9 => ?_
              refine ⟨(by first | omega | (simp only; omega)), (by first | omega | (simp only; omega)), ?_⟩
              refine ⟨fun ls w' => match ls with | [.bool t] => t = false ∧ IntsAt w54.heap.size (Int.toNat 201) U w' ∧ IntsAt w76.heap.size (o.length : Int).toNat Lm w' ∧ Held11 B w9.heap.size B2 w20.heap.size w44.heap.size w45.heap.size a1 a3 a45 l o (outL lo l o o.length) w' | _ => False, ?_, ?_⟩
              · refine ⟨?_, ?_⟩
                · intro h35 w90 hb90 hk90
                  try simp only [Bool.not_eq_true', Bool.not_eq_false', decide_eq_true_eq, decide_eq_false_iff_not] at h35
                  have y90 := hb90.size
                  have z90 := hk90.size; have o90 := hk90.own
                  simp only [List.mem_cons, List.not_mem_nil, or_false, forall_eq_or_imp, forall_eq] at o90
                  have LA_90 := LA.ko hk90 (allc (.inr (by omega)) (allc (.inl (by omega)) (allc (.inl (by omega)) all0)))
                  have LO_90 := LO.ko hk90 (allc (.inr (by omega)) (allc (.inl (by omega)) (allc (.inl (by omega)) all0)))
                  have LN_90 := LN.ko hk90 (allc (.inl (by omega)) (allc (.inl (by omega)) (allc (.inl (by omega)) all0)))
                  have OU_90 := OU.ko hk90 (allc (by omega) (allc (by omega) (allc (by omega) all0)))
                  have OL_90 := OL.ko hk90 (allc (by omega) (allc (by omega) (allc (by omega) all0)))
                  exfalso; omega
                · intro h36
                  try simp only [Bool.not_eq_true', Bool.not_eq_false', decide_eq_true_eq, decide_eq_false_iff_not] at h36
                  refine ⟨?_, ?_⟩
                  · intro h37
                    try simp only [Bool.not_eq_true', Bool.not_eq_false', decide_eq_true_eq, decide_eq_false_iff_not] at h37
                    refine load_obj OU (by omega) fun m82 m83 hm10 => ?_
                    refine ⟨(by first | omega | (simp only; omega)), ?_⟩
                    intro w91 hb91 hk91
                    have y91 := hb91.size
                    have z91 := hk91.size; have o91 := hk91.own
                    simp only [List.mem_cons, List.not_mem_nil, or_false, forall_eq_or_imp, forall_eq] at o91
                    have LA_91 := LA.ko hk91 (allc (.inr (by omega)) (allc (.inl (by omega)) (allc (.inl (by omega)) all0)))
                    have LO_91 := LO.ko hk91 (allc (.inr (by omega)) (allc (.inl (by omega)) (allc (.inl (by omega)) all0)))
                    have LN_91 := LN.ko hk91 (allc (.inl (by omega)) (allc (.inl (by omega)) (allc (.inl (by omega)) all0)))
                    have OU_91 := OU.ko hk91 (allc (by omega) (allc (by omega) (allc (by omega) all0)))
                    have OL_91 := OL.ko hk91 (allc (by omega) (allc (by omega) (allc (by omega) all0)))
                    exact ⟨decide_eq_false (by have := hen.2 (by assumption); omega), OU_91, OL_91, ⟨⟨LA_91, LO_91, LN_91⟩, by omega⟩⟩
                  · intro h38 w92 hb92 hk92
                    try simp only [Bool.not_eq_true', Bool.not_eq_false', decide_eq_true_eq, decide_eq_false_iff_not] at h38
                    have y92 := hb92.size
                    have z92 := hk92.size; have o92 := hk92.own
                    simp only [List.mem_cons, List.not_mem_nil, or_false, forall_eq_or_imp, forall_eq] at o92
                    have LA_92 := LA.ko hk92 (allc (.inr (by omega)) (allc (.inl (by omega)) (allc (.inl (by omega)) all0)))
                    have LO_92 := LO.ko hk92 (allc (.inr (by omega)) (allc (.inl (by omega)) (allc (.inl (by omega)) all0)))
                    have LN_92 := LN.ko hk92 (allc (.inl (by omega)) (allc (.inl (by omega)) (allc (.inl (by omega)) all0)))
                    have OU_92 := OU.ko hk92 (allc (by omega) (allc (by omega) (allc (by omega) all0)))
                    have OL_92 := OL.ko hk92 (allc (by omega) (allc (by omega) (allc (by omega) all0)))
                    exact ⟨rfl, OU_92, OL_92, ⟨⟨LA_92, LO_92, LN_92⟩, by omega⟩⟩
              rintro t8 w93 hb93 ⟨ht8, OU, OL, ⟨⟨LA, LO, LN⟩, zh⟩⟩
              have y93 := hb93.size
              refine ⟨fun ls w' => match ls with | [.bool _] => IntsAt w54.heap.size (Int.toNat 201) U w' ∧ IntsAt w76.heap.size (o.length : Int).toNat Lm w' ∧ Held11 B w9.heap.size B2 w20.heap.size w44.heap.size w45.heap.size a1 a3 a45 l o (outL lo l o o.length) w' | _ => False, ?_, ?_⟩
              · refine ⟨?_, ?_⟩
                · intro h39 w95 hb95 hk95
                  try simp only [Bool.not_eq_true', Bool.not_eq_false', decide_eq_true_eq, decide_eq_false_iff_not] at h39
                  have y95 := hb95.size
                  have z95 := hk95.size; have o95 := hk95.own
                  simp only [List.mem_cons, List.not_mem_nil, or_false, forall_eq_or_imp, forall_eq] at o95
                  have LA_95 := LA.ko hk95 (allc (.inr (by omega)) (allc (.inl (by omega)) (allc (.inl (by omega)) all0)))
                  have LO_95 := LO.ko hk95 (allc (.inr (by omega)) (allc (.inl (by omega)) (allc (.inl (by omega)) all0)))
                  have LN_95 := LN.ko hk95 (allc (.inl (by omega)) (allc (.inl (by omega)) (allc (.inl (by omega)) all0)))
                  have OU_95 := OU.ko hk95 (allc (by omega) (allc (by omega) (allc (by omega) all0)))
                  have OL_95 := OL.ko hk95 (allc (by omega) (allc (by omega) (allc (by omega) all0)))
                  exact absurd (ht8.symm.trans (by assumption)) (by decide)
                · intro h40 w96 hb96 hk96
                  try simp only [Bool.not_eq_true', Bool.not_eq_false', decide_eq_true_eq, decide_eq_false_iff_not] at h40
                  have y96 := hb96.size
                  have z96 := hk96.size; have o96 := hk96.own
                  simp only [List.mem_cons, List.not_mem_nil, or_false, forall_eq_or_imp, forall_eq] at o96
                  have LA_96 := LA.ko hk96 (allc (.inr (by omega)) (allc (.inl (by omega)) (allc (.inl (by omega)) all0)))
                  have LO_96 := LO.ko hk96 (allc (.inr (by omega)) (allc (.inl (by omega)) (allc (.inl (by omega)) all0)))
                  have LN_96 := LN.ko hk96 (allc (.inl (by omega)) (allc (.inl (by omega)) (allc (.inl (by omega)) all0)))
                  have OU_96 := OU.ko hk96 (allc (by omega) (allc (by omega) (allc (by omega) all0)))
                  have OL_96 := OL.ko hk96 (allc (by omega) (allc (by omega) (allc (by omega) all0)))
                  exact ⟨OU_96, OL_96, ⟨⟨LA_96, LO_96, LN_96⟩, by omega⟩⟩
              rintro t9 w97 hb97 ⟨OU, OL, ⟨⟨LA, LO, LN⟩, zh⟩⟩
              have y97 := hb97.size
              refine ⟨fun ls w' => match ls with | [] => IntsAt w76.heap.size (o.length : Int).toNat (if 0 < x37 then Lm.set (x37 - 1).toNat (x36 - U.getD x33.toNat 0) else Lm) w' ∧ IntsAt w54.heap.size (Int.toNat 201) U w' ∧ Held11 B w9.heap.size B2 w20.heap.size w44.heap.size w45.heap.size a1 a3 a45 l o (outL lo l o o.length) w' | _ => False, ?_, ?_⟩
              · refine ⟨?_, ?_⟩
                · intro h41
                  try simp only [Bool.not_eq_true', Bool.not_eq_false', decide_eq_true_eq, decide_eq_false_iff_not] at h41
                  refine ⟨(by first | omega | (simp only; omega)), ?_⟩
                  refine ⟨_, _, rfl, (by first | omega | (simp only; omega)), ?_⟩
                  intro w99 hb99 hk99
                  have y99 := hb99.size
                  have z99 := hk99.size; have o99 := hk99.own
                  simp only [List.mem_cons, List.not_mem_nil, or_false, forall_eq_or_imp, forall_eq] at o99
                  have LA_99 := LA.ko hk99 (allc (.inr (by omega)) (allc (.inl (by omega)) (allc (.inl (by omega)) all0)))
                  have LO_99 := LO.ko hk99 (allc (.inr (by omega)) (allc (.inl (by omega)) (allc (.inl (by omega)) all0)))
                  have LN_99 := LN.ko hk99 (allc (.inl (by omega)) (allc (.inl (by omega)) (allc (.inl (by omega)) all0)))
                  have OU_99 := OU.ko hk99 (allc (by omega) (allc (by omega) (allc (by omega) all0)))
                  have OL_99 := OL.ko hk99 (allc (by omega) (allc (by omega) (allc (by omega) all0)))
                  refine store_obj OL_99 (by omega) fun w100 OL_100 c100 => ?_
                  have z100 := c100.size
                  have kx100 : KeepX true w.heap.size [m44, m3, m1] (fun _ => False) w99 w100 := c100.own (fun x hx => ⟨hk99.own x hx, fun h => by simp only [List.mem_cons, List.not_mem_nil, or_false] at h hx; omega⟩) (by simp) (fun _ => ⟨hb99.size, fun x hx => by simp only [List.mem_singleton] at hx; omega⟩)
                  have LA_100 := LA_99.out c100 (allc (by omega) all0)
                  have LO_100 := LO_99.out c100 (allc (by omega) all0)
                  have LN_100 := LN_99.out c100 (allc (by omega) all0)
                  have OU_100 := OU_99.out c100 (allc (by omega) all0)
                  refine ⟨kx100, ?_⟩
                  intro w101 hb101 hk101
                  have y101 := hb101.size
                  have z101 := hk101.size; have o101 := hk101.own
                  simp only [List.mem_cons, List.not_mem_nil, or_false, forall_eq_or_imp, forall_eq] at o101
                  have LA_101 := LA_100.ko hk101 (allc (.inr (by omega)) (allc (.inl (by omega)) (allc (.inl (by omega)) all0)))
                  have LO_101 := LO_100.ko hk101 (allc (.inr (by omega)) (allc (.inl (by omega)) (allc (.inl (by omega)) all0)))
                  have LN_101 := LN_100.ko hk101 (allc (.inl (by omega)) (allc (.inl (by omega)) (allc (.inl (by omega)) all0)))
                  have OU_101 := OU_100.ko hk101 (allc (by omega) (allc (by omega) (allc (by omega) all0)))
                  have OL_101 := OL_100.ko hk101 (allc (by omega) (allc (by omega) (allc (by omega) all0)))
                  exact ⟨by rw [if_pos (by assumption)]; exact OL_101, OU_101, ⟨⟨LA_101, LO_101, LN_101⟩, by omega⟩⟩
                · intro h42 w102 hb102 hk102
                  try simp only [Bool.not_eq_true', Bool.not_eq_false', decide_eq_true_eq, decide_eq_false_iff_not] at h42
                  have y102 := hb102.size
                  have z102 := hk102.size; have o102 := hk102.own
                  simp only [List.mem_cons, List.not_mem_nil, or_false, forall_eq_or_imp, forall_eq] at o102
                  have LA_102 := LA.ko hk102 (allc (.inr (by omega)) (allc (.inl (by omega)) (allc (.inl (by omega)) all0)))
                  have LO_102 := LO.ko hk102 (allc (.inr (by omega)) (allc (.inl (by omega)) (allc (.inl (by omega)) all0)))
                  have LN_102 := LN.ko hk102 (allc (.inl (by omega)) (allc (.inl (by omega)) (allc (.inl (by omega)) all0)))
                  have OU_102 := OU.ko hk102 (allc (by omega) (allc (by omega) (allc (by omega) all0)))
                  have OL_102 := OL.ko hk102 (allc (by omega) (allc (by omega) (allc (by omega) all0)))
                  exact ⟨by rw [if_neg (by omega)]; exact OL_102, OU_102, ⟨⟨LA_102, LO_102, LN_102⟩, by omega⟩⟩
              rintro  w103 hb103 ⟨OL, OU, ⟨⟨LA, LO, LN⟩, zh⟩⟩
              have y103 := hb103.size
              refine ⟨(by first | omega | (simp only; omega)), ?_⟩
              intro w104 hb104 hk104
              have y104 := hb104.size
              have z104 := hk104.size; have o104 := hk104.own
              simp only [List.mem_cons, List.not_mem_nil, or_false, forall_eq_or_imp, forall_eq] at o104
              have LA_104 := LA.ko hk104 (allc (.inr (by omega)) (allc (.inl (by omega)) (allc (.inl (by omega)) all0)))
              have LO_104 := LO.ko hk104 (allc (.inr (by omega)) (allc (.inl (by omega)) (allc (.inl (by omega)) all0)))
              have LN_104 := LN.ko hk104 (allc (.inl (by omega)) (allc (.inl (by omega)) (allc (.inl (by omega)) all0)))
              have OU_104 := OU.ko hk104 (allc (by omega) (allc (by omega) (allc (by omega) all0)))
              have OL_104 := OL.ko hk104 (allc (by omega) (allc (by omega) (allc (by omega) all0)))
              refine ⟨?_, (by first | omega | (simp only; omega))⟩
              exact ⟨⟨by omega, by omega⟩, _, hS2.step hOK hUl.n (by omega), OU_104, OL_104, ⟨⟨LA_104, LO_104, LN_104⟩, by omega⟩⟩
            · intro h43
              try simp only [Bool.not_eq_true', Bool.not_eq_false', decide_eq_true_eq, decide_eq_false_iff_not] at h43
              have hend : x33 = 201 := by omega
              subst hend
              have hlast : x17 = 1 → ∀ j : Nat, j < o.length → Lm.getD j 0 = 0 := fun h1 j hj => by subst h1; exact hSt.last hUl hOK hj
              refine ⟨fun ls w' => match ls with | [.bool _, .int _ jj] => (0 ≤ jj ∧ jj ≤ o.length) ∧ IntsAt w54.heap.size (Int.toNat 201) U w' ∧ IntsAt w76.heap.size (o.length : Int).toNat Lm w' ∧ Held11 B w9.heap.size B2 w20.heap.size w44.heap.size w45.heap.size a1 a3 a45 l o (outL lo l o o.length) w' | _ => False, fun ls => match ls with | [_, .int _ jj] => (o.length - jj).toNat | _ => 0, ?_, ?_⟩
              · intro w106 hb106 hk106
                have y106 := hb106.size
                have z106 := hk106.size; have o106 := hk106.own
                simp only [List.mem_cons, List.not_mem_nil, or_false, forall_eq_or_imp, forall_eq] at o106
                have LA_106 := LA.ko hk106 (allc (.inr (by omega)) (allc (.inl (by omega)) (allc (.inl (by omega)) all0)))
                have LO_106 := LO.ko hk106 (allc (.inr (by omega)) (allc (.inl (by omega)) (allc (.inl (by omega)) all0)))
                have LN_106 := LN.ko hk106 (allc (.inl (by omega)) (allc (.inl (by omega)) (allc (.inl (by omega)) all0)))
                have OU_106 := OU.ko hk106 (allc (by omega) (allc (by omega) (allc (by omega) all0)))
                have OL_106 := OL.ko hk106 (allc (by omega) (allc (by omega) (allc (by omega) all0)))
                exact ⟨⟨by omega, by omega⟩, OU_106, OL_106, ⟨⟨LA_106, LO_106, LN_106⟩, by omega⟩⟩
              rintro t10 x41 w107 hb107 ⟨x41b, OU, OL, ⟨⟨LA, LO, LN⟩, zh⟩⟩
              have y107 := hb107.size
              refine ⟨fun ls w' => match ls with | [.bool t] => t = (decide (x41 < (o.length : Int)) && decide (x17 = 1)) ∧ IntsAt w54.heap.size (Int.toNat 201) U w' ∧ IntsAt w76.heap.size (o.length : Int).toNat Lm w' ∧ Held11 B w9.heap.size B2 w20.heap.size w44.heap.size w45.heap.size a1 a3 a45 l o (outL lo l o o.length) w' | _ => False, ?_, ?_⟩
              · refine ⟨?_, ?_⟩
                · intro h44 w109 hb109 hk109
                  try simp only [Bool.not_eq_true', Bool.not_eq_false', decide_eq_true_eq, decide_eq_false_iff_not] at h44
                  have y109 := hb109.size
                  have z109 := hk109.size; have o109 := hk109.own
                  simp only [List.mem_cons, List.not_mem_nil, or_false, forall_eq_or_imp, forall_eq] at o109
                  have LA_109 := LA.ko hk109 (allc (.inr (by omega)) (allc (.inl (by omega)) (allc (.inl (by omega)) all0)))
                  have LO_109 := LO.ko hk109 (allc (.inr (by omega)) (allc (.inl (by omega)) (allc (.inl (by omega)) all0)))
                  have LN_109 := LN.ko hk109 (allc (.inl (by omega)) (allc (.inl (by omega)) (allc (.inl (by omega)) all0)))
                  have OU_109 := OU.ko hk109 (allc (by omega) (allc (by omega) (allc (by omega) all0)))
                  have OL_109 := OL.ko hk109 (allc (by omega) (allc (by omega) (allc (by omega) all0)))
                  exact ⟨by rw [decide_eq_true (by assumption), Bool.true_and]; rfl, OU_109, OL_109, ⟨⟨LA_109, LO_109, LN_109⟩, by omega⟩⟩
                · intro h45 w110 hb110 hk110
                  try simp only [Bool.not_eq_true', Bool.not_eq_false', decide_eq_true_eq, decide_eq_false_iff_not] at h45
                  have y110 := hb110.size
                  have z110 := hk110.size; have o110 := hk110.own
                  simp only [List.mem_cons, List.not_mem_nil, or_false, forall_eq_or_imp, forall_eq] at o110
                  have LA_110 := LA.ko hk110 (allc (.inr (by omega)) (allc (.inl (by omega)) (allc (.inl (by omega)) all0)))
                  have LO_110 := LO.ko hk110 (allc (.inr (by omega)) (allc (.inl (by omega)) (allc (.inl (by omega)) all0)))
                  have LN_110 := LN.ko hk110 (allc (.inl (by omega)) (allc (.inl (by omega)) (allc (.inl (by omega)) all0)))
                  have OU_110 := OU.ko hk110 (allc (by omega) (allc (by omega) (allc (by omega) all0)))
                  have OL_110 := OL.ko hk110 (allc (by omega) (allc (by omega) (allc (by omega) all0)))
                  exact ⟨by rw [decide_eq_false (by omega), Bool.false_and], OU_110, OL_110, ⟨⟨LA_110, LO_110, LN_110⟩, by omega⟩⟩
              rintro t11 w111 hb111 ⟨ht11, OU, OL, ⟨⟨LA, LO, LN⟩, zh⟩⟩
              have y111 := hb111.size
              refine ⟨?_, ?_⟩
              · intro h46
                try simp only [Bool.not_eq_true', Bool.not_eq_false', decide_eq_true_eq, decide_eq_false_iff_not] at h46
                have h11 := ht11.symm.trans (by assumption : t11 = true)
                simp only [Bool.and_eq_true, decide_eq_true_eq] at h11
                have hob := out_bd hb1.1 hlen4 hC hOK (j := x41.toNat) (by omega)
                have hl0 := hlast h11.2 x41.toNat (by omega)
                refine ⟨fun ls w' => match ls with | [.bool t] => t = false ∧ IntsAt w54.heap.size (Int.toNat 201) U w' ∧ IntsAt w76.heap.size (o.length : Int).toNat Lm w' ∧ Held11 B w9.heap.size B2 w20.heap.size w44.heap.size w45.heap.size a1 a3 a45 l o (outL lo l o o.length) w' | _ => False, ?_, ?_⟩
                · refine load_obj OL (by omega) fun m89 m90 hm11 => ?_
                  refine ⟨(by first | omega | (simp only; omega)), ?_, ?_⟩
                  · intro h47 w113 hb113 hk113
                    try simp only [Bool.not_eq_true', Bool.not_eq_false', decide_eq_true_eq, decide_eq_false_iff_not] at h47
                    have y113 := hb113.size
                    have z113 := hk113.size; have o113 := hk113.own
                    simp only [List.mem_cons, List.not_mem_nil, or_false, forall_eq_or_imp, forall_eq] at o113
                    have LA_113 := LA.ko hk113 (allc (.inr (by omega)) (allc (.inl (by omega)) (allc (.inl (by omega)) all0)))
                    have LO_113 := LO.ko hk113 (allc (.inr (by omega)) (allc (.inl (by omega)) (allc (.inl (by omega)) all0)))
                    have LN_113 := LN.ko hk113 (allc (.inl (by omega)) (allc (.inl (by omega)) (allc (.inl (by omega)) all0)))
                    have OU_113 := OU.ko hk113 (allc (by omega) (allc (by omega) (allc (by omega) all0)))
                    have OL_113 := OL.ko hk113 (allc (by omega) (allc (by omega) (allc (by omega) all0)))
                    exfalso; omega
                  · intro h48
                    try simp only [Bool.not_eq_true', Bool.not_eq_false', decide_eq_true_eq, decide_eq_false_iff_not] at h48
                    refine load_lenL (outL_len2 lo l o o.length) LN (by omega) fun m91 m92 hm12 => ?_
                    refine ⟨(by first | omega | (simp only; omega)), ?_⟩
                    intro w114 hb114 hk114
                    have y114 := hb114.size
                    have z114 := hk114.size; have o114 := hk114.own
                    simp only [List.mem_cons, List.not_mem_nil, or_false, forall_eq_or_imp, forall_eq] at o114
                    have LA_114 := LA.ko hk114 (allc (.inr (by omega)) (allc (.inl (by omega)) (allc (.inl (by omega)) all0)))
                    have LO_114 := LO.ko hk114 (allc (.inr (by omega)) (allc (.inl (by omega)) (allc (.inl (by omega)) all0)))
                    have LN_114 := LN.ko hk114 (allc (.inl (by omega)) (allc (.inl (by omega)) (allc (.inl (by omega)) all0)))
                    have OU_114 := OU.ko hk114 (allc (by omega) (allc (by omega) (allc (by omega) all0)))
                    have OL_114 := OL.ko hk114 (allc (by omega) (allc (by omega) (allc (by omega) all0)))
                    exact ⟨decide_eq_false (by omega), OU_114, OL_114, ⟨⟨LA_114, LO_114, LN_114⟩, by omega⟩⟩
                rintro t12 w115 hb115 ⟨ht12, OU, OL, ⟨⟨LA, LO, LN⟩, zh⟩⟩
                have y115 := hb115.size
                refine ⟨?_, ?_⟩
                · intro h49 w116 hb116 hk116
                  try simp only [Bool.not_eq_true', Bool.not_eq_false', decide_eq_true_eq, decide_eq_false_iff_not] at h49
                  have y116 := hb116.size
                  have z116 := hk116.size; have o116 := hk116.own
                  simp only [List.mem_cons, List.not_mem_nil, or_false, forall_eq_or_imp, forall_eq] at o116
                  have LA_116 := LA.ko hk116 (allc (.inr (by omega)) (allc (.inl (by omega)) (allc (.inl (by omega)) all0)))
                  have LO_116 := LO.ko hk116 (allc (.inr (by omega)) (allc (.inl (by omega)) (allc (.inl (by omega)) all0)))
                  have LN_116 := LN.ko hk116 (allc (.inl (by omega)) (allc (.inl (by omega)) (allc (.inl (by omega)) all0)))
                  have OU_116 := OU.ko hk116 (allc (by omega) (allc (by omega) (allc (by omega) all0)))
                  have OL_116 := OL.ko hk116 (allc (by omega) (allc (by omega) (allc (by omega) all0)))
                  exact absurd (ht12.symm.trans (by assumption)) (by decide)
                · intro h50
                  try simp only [Bool.not_eq_true', Bool.not_eq_false', decide_eq_true_eq, decide_eq_false_iff_not] at h50
                  refine ⟨(by first | omega | (simp only; omega)), ?_⟩
                  intro w117 hb117 hk117
                  have y117 := hb117.size
                  have z117 := hk117.size; have o117 := hk117.own
                  simp only [List.mem_cons, List.not_mem_nil, or_false, forall_eq_or_imp, forall_eq] at o117
                  have LA_117 := LA.ko hk117 (allc (.inr (by omega)) (allc (.inl (by omega)) (allc (.inl (by omega)) all0)))
                  have LO_117 := LO.ko hk117 (allc (.inr (by omega)) (allc (.inl (by omega)) (allc (.inl (by omega)) all0)))
                  have LN_117 := LN.ko hk117 (allc (.inl (by omega)) (allc (.inl (by omega)) (allc (.inl (by omega)) all0)))
                  have OU_117 := OU.ko hk117 (allc (by omega) (allc (by omega) (allc (by omega) all0)))
                  have OL_117 := OL.ko hk117 (allc (by omega) (allc (by omega) (allc (by omega) all0)))
                  refine ⟨?_, (by first | omega | (simp only; omega))⟩
                  exact ⟨⟨by omega, by omega⟩, OU_117, OL_117, ⟨⟨LA_117, LO_117, LN_117⟩, by omega⟩⟩
              · intro h51
                try simp only [Bool.not_eq_true', Bool.not_eq_false', decide_eq_true_eq, decide_eq_false_iff_not] at h51
                refine ⟨(by first | omega | (simp only; omega)), ?_⟩
                intro w118 hb118 hk118
                have y118 := hb118.size
                have z118 := hk118.size; have o118 := hk118.own
                simp only [List.mem_cons, List.not_mem_nil, or_false, forall_eq_or_imp, forall_eq] at o118
                have LA_118 := LA.ko hk118 (allc (.inr (by omega)) (allc (.inl (by omega)) (allc (.inl (by omega)) all0)))
                have LO_118 := LO.ko hk118 (allc (.inr (by omega)) (allc (.inl (by omega)) (allc (.inl (by omega)) all0)))
                have LN_118 := LN.ko hk118 (allc (.inl (by omega)) (allc (.inl (by omega)) (allc (.inl (by omega)) all0)))
                have OU_118 := OU.ko hk118 (allc (by omega) (allc (by omega) (allc (by omega) all0)))
                have OL_118 := OL.ko hk118 (allc (by omega) (allc (by omega) (allc (by omega) all0)))
                refine ⟨?_, (by first | omega | (simp only; omega))⟩
                exact ⟨⟨by omega, by omega⟩, ⟨⟨LA_118, LO_118, LN_118⟩, by omega⟩⟩
        · intro h52 w119 hb119 hk119
          try simp only [Bool.not_eq_true', Bool.not_eq_false', decide_eq_true_eq, decide_eq_false_iff_not] at h52
          have y119 := hb119.size
          have z119 := hk119.size; have o119 := hk119.own
          simp only [List.mem_cons, List.not_mem_nil, or_false, forall_eq_or_imp, forall_eq] at o119
          have LA_119 := LA.ko hk119 (allc (.inr (by omega)) (allc (.inl (by omega)) (allc (.inl (by omega)) all0)))
          have LO_119 := LO.ko hk119 (allc (.inr (by omega)) (allc (.inl (by omega)) (allc (.inl (by omega)) all0)))
          have LN_119 := LN.ko hk119 (allc (.inl (by omega)) (allc (.inl (by omega)) (allc (.inl (by omega)) all0)))
          refine Pure.calls (known_any) fun w120 hd120 => ?_
          have hb120 := hb119.trans (hd120.mono hb119.size)
          have z120 := hd120.size
          have LA_120 := LA_119.below hd120
          have LO_120 := LO_119.below hd120
          have LN_120 := LN_119.below hd120
          refine ⟨_, rfl, .all hd120, ?_⟩
          intro w121 hb121 hk121
          have y121 := hb121.size
          have z121 := hk121.size; have o121 := hk121.own
          simp only [List.mem_cons, List.not_mem_nil, or_false, forall_eq_or_imp, forall_eq] at o121
          have LA_121 := LA_120.ko hk121 (allc (.inr (by omega)) (allc (.inl (by omega)) (allc (.inl (by omega)) all0)))
          have LO_121 := LO_120.ko hk121 (allc (.inr (by omega)) (allc (.inl (by omega)) (allc (.inl (by omega)) all0)))
          have LN_121 := LN_120.ko hk121 (allc (.inl (by omega)) (allc (.inl (by omega)) (allc (.inl (by omega)) all0)))
          exact ⟨rfl, hb121⟩
end Go.Proofs.R12
end
section
/- The argument of PartEnough, opened. -/
namespace Go.Proofs.R12
open Go.Vc Go.RowKit Go.Proofs
abbrev Lu : Leaf := .int .u8
theorem leaves_keep : leaves Try.prog 7 99 = some [Lu, Lu, .sl [Lu, Lu, Lu], .sl [Lu], .sl [Lu]] := by kernel_rfl
theorem agg_keep : isAggB Try.prog 99 = true := by kernel_rfl
section
variable {w : World}
theorem take_u8 {ls : List Leaf} {cs : List Value} (h : LeavesAre w (Lu :: ls) cs) : ∃ x r, cs = Value.int .u8 x :: r ∧ (0 ≤ x ∧ x ≤ 255) ∧ LeavesAre w ls r := by
  obtain ⟨v, r, rfl, h1, h2⟩ := h.cons'
  obtain ⟨x, rfl, hx⟩ := h1.int'
  exact ⟨x, r, rfl, by simpa [rng, IntKind.min, IntKind.max] using hx, h2⟩
theorem take_u8s {v : Value} (h : LeafIs w (.sl [Lu]) v) : ∃ a c, ∃ l : List Int, v = .slice a l.length c ∧ (∀ x ∈ l, 0 ≤ x ∧ x ≤ 255) ∧ Cells w a (u8s l) := by
  obtain ⟨a, c, l, rfl, h1, h2, h3, h4⟩ := h.sl' (fun b : Int => [Value.int .u8 b]) (fun x => 0 ≤ x ∧ x ≤ 255) fun x hx => by
    obtain ⟨x0, r, rfl, g0, hx⟩ := take_u8 hx
    rw [hx.nil']
    exact ⟨x0, rfl, g0⟩
  refine ⟨a, c, l, rfl, h4, ?_⟩
  have e : (l.flatMap fun b : Int => [Value.int .u8 b]) = u8s l := by
    clear h h1 h2 h3 h4
    induction l with
    | nil => rfl
    | cons b l ih => rw [List.flatMap_cons, ih]; rfl
  rw [← e]; exact h3
theorem take_trips {v : Value} (h : LeafIs w (.sl [Lu, Lu, Lu]) v) : ∃ a c, ∃ l : List (Int × Int × Int), v = .slice a l.length c ∧ (∀ t ∈ l, (0 ≤ t.1 ∧ t.1 ≤ 255) ∧ (0 ≤ t.2.1 ∧ t.2.1 ≤ 255) ∧ 0 ≤ t.2.2 ∧ t.2.2 ≤ 255) ∧ Cells w a (tripsV l) := by
  obtain ⟨a, c, l, rfl, h1, h2, h3, h4⟩ := h.sl' (fun t : Int × Int × Int => [Value.int .u8 t.1, .int .u8 t.2.1, .int .u8 t.2.2]) (fun t => (0 ≤ t.1 ∧ t.1 ≤ 255) ∧ (0 ≤ t.2.1 ∧ t.2.1 ≤ 255) ∧ 0 ≤ t.2.2 ∧ t.2.2 ≤ 255) fun x hx => by
    obtain ⟨x0, r, rfl, g0, hx⟩ := take_u8 hx
    obtain ⟨x1, r, rfl, g1, hx⟩ := take_u8 hx
    obtain ⟨x2, r, rfl, g2, hx⟩ := take_u8 hx
    rw [hx.nil']
    exact ⟨(x0, x1, x2), rfl, g0, g1, g2⟩
  exact ⟨a, c, l, rfl, h4, h3⟩
end
section
variable {w : World} {H : Type} {enc : TypeId × Value → H} {base b0 : Nat} {held : Bool} {spare : Nat → Bool} {reach : Reach}
set_option maxRecDepth 100000 in
theorem open_keep {v : Value} {d : DataW H} {ps : List MemPlace} (hv : Value.okWide Try.prog w reach b0 99 v) (hd : DataW.Trod enc Try.prog w base spare held 99 v d ps) : ∃ (x0 x1 : Int) (T : List (Int × Int × Int)) (O Lv : List Int) (a2 a3 a4 : Option Addr) (c2 c3 c4 : Nat), v = .agg #[.int .u8 x0, .int .u8 x1, .slice a2 T.length c2, .slice a3 O.length c3, .slice a4 Lv.length c4] ∧ (0 ≤ x0 ∧ x0 ≤ 255) ∧ (0 ≤ x1 ∧ x1 ≤ 255) ∧ Cells w a2 (tripsV T) ∧ Cells w a3 (u8s O) ∧ Cells w a4 (u8s Lv) ∧ (∀ t ∈ T, (0 ≤ t.1 ∧ t.1 ≤ 255) ∧ (0 ≤ t.2.1 ∧ t.2.1 ≤ 255) ∧ 0 ≤ t.2.2 ∧ t.2.2 ≤ 255) ∧ (∀ x ∈ O, 0 ≤ x ∧ x ≤ 255) ∧ (∀ x ∈ Lv, 0 ≤ x ∧ x ≤ 255) := by
  obtain ⟨cs, rfl, h⟩ := open_agg agg_keep leaves_keep hv hd
  obtain ⟨x0, _, rfl, g0, h⟩ := take_u8 h
  obtain ⟨x1, _, rfl, g1, h⟩ := take_u8 h
  obtain ⟨v2, r, rfl, h2, h⟩ := h.cons'
  obtain ⟨v3, r, rfl, h3, h⟩ := h.cons'
  obtain ⟨v4, r, rfl, h4, h⟩ := h.cons'
  rw [h.nil']
  obtain ⟨a2, c2, T, rfl, q2, k2⟩ := take_trips h2
  obtain ⟨a3, c3, O, rfl, q3, k3⟩ := take_u8s h3
  obtain ⟨a4, c4, Lv, rfl, q4, k4⟩ := take_u8s h4
  exact ⟨x0, x1, T, O, Lv, a2, a3, a4, c2, c3, c4, rfl, g0, g1, k2, k3, k4, q2, q3, q4⟩
end
end Go.Proofs.R12
end
