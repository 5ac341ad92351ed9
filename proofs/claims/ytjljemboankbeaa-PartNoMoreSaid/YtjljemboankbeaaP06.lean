/- Part 6: own lemmas, and the conditions of the functions. -/
import Derived.Test.YtjljemboankbeaaProg
import Derived.Test.YtjljemboankbeaaRows
import Derived.Laws.MakeOwn
import Derived.Test.YtjljemboankbeaaP05
section
/- The conditions of the functions, printed by program; each is what the generator reckons (kernel_rfl). -/
namespace Go.Proofs
open Go.Vc
set_option maxRecDepth 100000 in
set_option maxHeartbeats 2000000 in
theorem vc45  (w : World) (R : Ending → World → Prop) (h : ∀ (m1 : Nat), w.heap.size ≤ m1 → ∀ (w1 : World), RowKit.Below w.heap.size w w1 → Kept [m1] w w1 → Calls Try.prog 42
    #[Value.int IntKind.i64 1000, Value.int IntKind.i64 1010] w1 fun (e1 : Ending) (w2 : World) => ∃ (x1 : Int), ∃ (x2 : Int), e1 = Ending.returned (Value.agg #[Value.int
    IntKind.i64 x1, Value.int IntKind.i64 x2]) ∧ KeepX true w.heap.size [m1] (fun _ => False) w1 w2 ∧ ∀ (m3 : Nat), w2.heap.size ≤ m3 → ∀ (w3 : World), RowKit.Below w.heap.size w
    w3 → Kept [m3, m1] w2 w3 → Calls Try.prog 42 #[Value.int IntKind.i64 990, Value.int IntKind.i64 998] w3 fun (e2 : Ending) (w4 : World) => ∃ (x3 : Int), ∃ (x4 : Int), e2 =
    Ending.returned (Value.agg #[Value.int IntKind.i64 x3, Value.int IntKind.i64 x4]) ∧ KeepX true w.heap.size [m3, m1] (fun _ => False) w3 w4 ∧ ∀ (m5 : Nat), w4.heap.size ≤ m5 → ∀
    (m6 : Nat), w4.heap.size ≤ m6 → ∀ (w5 : World), RowKit.Below w.heap.size w w5 → Kept [m6, m5, m3, m1] w4 w5 → Calls Try.prog 42 #[Value.int IntKind.i64 2, Value.int IntKind.i64
    15] w5 fun (e3 : Ending) (w6 : World) => ∃ (x5 : Int), ∃ (x6 : Int), e3 = Ending.returned (Value.agg #[Value.int IntKind.i64 x5, Value.int IntKind.i64 x6]) ∧ KeepX true
    w.heap.size [m6, m5, m3, m1] (fun _ => False) w5 w6 ∧ ∀ (m8 : Nat), w6.heap.size ≤ m8 → ∀ (w7 : World), RowKit.Below w.heap.size w w7 → Kept [m8, m6, m5, m3, m1] w6 w7 →
    w7.heap[m6]? = some (Obj.cells #[Value.slice (some { block := m3, off := 0 }) 1 1, Value.slice (some { block := m5, off := 0 }) 1 1] 89) → w7.heap[m8]? = some (Obj.cells
    #[Value.int IntKind.i64 0, Value.int IntKind.i64 0, Value.int IntKind.i64 1, Value.int IntKind.i64 0, Value.int IntKind.i64 x5, Value.int IntKind.i64 x6] 67) → w7.heap[m3]? =
    some (Obj.cells #[Value.int IntKind.i64 x1, Value.int IntKind.i64 x2] 42) → w7.heap[m5]? = some (Obj.cells #[Value.int IntKind.i64 x3, Value.int IntKind.i64 x4] 42) → R
    (Ending.returned (Value.agg #[Value.slice (some { block := m6, off := 0 }) 2 2, Value.slice (some { block := m8, off := 0 }) 1 1])) w7) : Calls Try.prog 45 #[] w R :=
    calls_of_vc (pure := true) (wrapAt := []) (muts := []) (esc := []) (args := []) (vs := []) Try.func45 rfl rfl rfl (Eq.mp (by kernel_rfl) h) 
set_option maxRecDepth 100000 in
set_option maxHeartbeats 2000000 in
theorem vc14  (w : World) (R : Ending → World → Prop) (h : ∀ (w1 : World), RowKit.Below w.heap.size w w1 → Kept [] w w1 → Calls Try.prog 45 #[] w1 fun (e1 : Ending) (w2 : World) =>
    ∃ (a1 : Option Addr), ∃ (m1 : Nat), ∃ (m2 : Nat), ∃ (a2 : Option Addr), ∃ (m3 : Nat), ∃ (m4 : Nat), e1 = Ending.returned (Value.agg #[Value.slice a1 m1 m2, Value.slice a2 m3
    m4]) ∧ KeepX true w.heap.size [] (fun _ => False) w1 w2 ∧ ∀ (w3 : World), RowKit.Below w.heap.size w w3 → Kept [] w2 w3 → Calls Try.prog 17 #[Value.agg #[Value.slice a1 m1 m2,
    Value.slice a2 m3 m4]] w3 fun (e2 : Ending) (w4 : World) => ∃ (a3 : Option Addr), ∃ (m6 : Nat), ∃ (m7 : Nat), ∃ (x1 : Int), e2 = Ending.returned (Value.tuple #[Value.slice a3
    m6 m7, Value.int IntKind.i64 x1]) ∧ KeepX true w.heap.size [] (fun _ => False) w3 w4 ∧ ∀ (w5 : World), RowKit.Below w.heap.size w w5 → Kept [] w4 w5 → Calls Try.prog 45 #[] w5
    fun (e3 : Ending) (w6 : World) => ∃ (a4 : Option Addr), ∃ (m9 : Nat), ∃ (m10 : Nat), ∃ (a5 : Option Addr), ∃ (m11 : Nat), ∃ (m12 : Nat), e3 = Ending.returned (Value.agg
    #[Value.slice a4 m9 m10, Value.slice a5 m11 m12]) ∧ KeepX true w.heap.size [] (fun _ => False) w5 w6 ∧ ∀ (w7 : World), RowKit.Below w.heap.size w w7 → Kept [] w6 w7 → Calls
    Try.prog 42 #[Value.int IntKind.i64 (-2), Value.int IntKind.i64 1] w7 fun (e4 : Ending) (w8 : World) => ∃ (x2 : Int), ∃ (x3 : Int), e4 = Ending.returned (Value.agg #[Value.int
    IntKind.i64 x2, Value.int IntKind.i64 x3]) ∧ KeepX true w.heap.size [] (fun _ => False) w7 w8 ∧ ∀ (w9 : World), RowKit.Below w.heap.size w w9 → Kept [] w8 w9 → Calls Try.prog
    24 #[Value.agg #[Value.slice a4 m9 m10, Value.slice a5 m11 m12], Value.int IntKind.i64 0, Value.int IntKind.i64 0, Value.agg #[Value.int IntKind.i64 x2, Value.int IntKind.i64
    x3]] w9 fun (e5 : Ending) (w10 : World) => ∃ (x4 : Int), ∃ (x5 : Int), ∃ (x6 : Int), ∃ (x7 : Int), ∃ (x8 : Int), e5 = Ending.returned (Value.tuple #[Value.agg #[Value.int
    IntKind.i64 x4, Value.int IntKind.i64 x5], Value.agg #[Value.int IntKind.i64 x6, Value.int IntKind.i64 x7], Value.int IntKind.i64 x8]) ∧ KeepX true w.heap.size [] (fun _ =>
    False) w9 w10 ∧ ∀ (m16 : Nat), w10.heap.size ≤ m16 → ∀ (m17 : Nat), w10.heap.size ≤ m17 → ∀ (w11 : World), RowKit.Below w.heap.size w w11 → Kept [m17, m16] w10 w11 → Calls
    Try.prog 45 #[] w11 fun (e6 : Ending) (w12 : World) => ∃ (a6 : Option Addr), ∃ (m18 : Nat), ∃ (m19 : Nat), ∃ (a7 : Option Addr), ∃ (m20 : Nat), ∃ (m21 : Nat), e6 =
    Ending.returned (Value.agg #[Value.slice a6 m18 m19, Value.slice a7 m20 m21]) ∧ KeepX true w.heap.size [m17, m16] (fun _ => False) w11 w12 ∧ ∀ (m23 : Nat), w12.heap.size ≤ m23
    → ∀ (m24 : Nat), w12.heap.size ≤ m24 → ∀ (w13 : World), RowKit.Below w.heap.size w w13 → Kept [m24, m23, m17, m16] w12 w13 → w13.heap[m23]? = some (Obj.cells #[Value.int
    IntKind.i64 1000, Value.int IntKind.i64 1012, Value.int IntKind.i64 1001] 3) → w13.heap[m24]? = some (Obj.cells #[Value.int IntKind.i64 999, Value.int IntKind.i64 995,
    Value.int IntKind.i64 1003] 3) → Calls Try.prog 30 #[Value.agg #[Value.slice a6 m18 m19, Value.slice a7 m20 m21], Value.int IntKind.i64 0, Value.slice (some
    { block := m23, off := 0 }) 3 3, Value.slice (some { block := m24, off := 0 }) 3 3] w13 fun (e7 : Ending) (w14 : World) => ∃ (a8 : Option Addr), ∃ (m27 : Nat), ∃ (m28 : Nat), ∃
    (x9 : Int), e7 = Ending.returned (Value.tuple #[Value.slice a8 m27 m28, Value.int IntKind.i64 x9]) ∧ KeepX true w.heap.size [m24, m23, m17, m16] (fun _ => False) w13 w14 ∧ ∀
    (w15 : World), RowKit.Below w.heap.size w w15 → Kept [m24, m23, m17, m16] w14 w15 → Calls Try.prog 45 #[] w15 fun (e8 : Ending) (w16 : World) => ∃ (a9 : Option Addr), ∃ (m30 :
    Nat), ∃ (m31 : Nat), ∃ (a10 : Option Addr), ∃ (m32 : Nat), ∃ (m33 : Nat), e8 = Ending.returned (Value.agg #[Value.slice a9 m30 m31, Value.slice a10 m32 m33]) ∧ KeepX true
    w.heap.size [m24, m23, m17, m16] (fun _ => False) w15 w16 ∧ ∀ (m35 : Nat), w16.heap.size ≤ m35 → ∀ (m36 : Nat), w16.heap.size ≤ m36 → ∀ (w17 : World), RowKit.Below w.heap.size
    w w17 → Kept [m36, m35, m24, m23, m17, m16] w16 w17 → w17.heap[m35]? = some (Obj.cells #[Value.int IntKind.i64 1000, Value.int IntKind.i64 1030, Value.int IntKind.i64 1001] 3)
    → w17.heap[m36]? = some (Obj.cells #[Value.int IntKind.i64 995, Value.int IntKind.i64 996, Value.int IntKind.i64 997] 3) → Calls Try.prog 31 #[Value.agg #[Value.slice a9 m30
    m31, Value.slice a10 m32 m33], Value.int IntKind.i64 0, Value.slice (some { block := m35, off := 0 }) 3 3, Value.slice (some { block := m36, off := 0 }) 3 3] w17 fun (e9 :
    Ending) (w18 : World) => ∃ (a11 : Option Addr), ∃ (m39 : Nat), ∃ (m40 : Nat), ∃ (a12 : Option Addr), ∃ (m41 : Nat), ∃ (m42 : Nat), ∃ (x10 : Int), e9 = Ending.returned
    (Value.tuple #[Value.slice a11 m39 m40, Value.slice a12 m41 m42, Value.int IntKind.i64 x10]) ∧ KeepX true w.heap.size [m36, m35, m24, m23, m17, m16] (fun _ => False) w17 w18 ∧
    ∀ (w19 : World), RowKit.Below w.heap.size w w19 → Kept [m36, m35, m24, m23, m17, m16] w18 w19 → Calls Try.prog 45 #[] w19 fun (e10 : Ending) (w20 : World) => ∃ (a13 : Option
    Addr), ∃ (m44 : Nat), ∃ (m45 : Nat), ∃ (a14 : Option Addr), ∃ (m46 : Nat), ∃ (m47 : Nat), e10 = Ending.returned (Value.agg #[Value.slice a13 m44 m45, Value.slice a14 m46 m47])
    ∧ KeepX true w.heap.size [m36, m35, m24, m23, m17, m16] (fun _ => False) w19 w20 ∧ ∀ (m49 : Nat), w20.heap.size ≤ m49 → ∀ (m50 : Nat), w20.heap.size ≤ m50 → ∀ (m51 : Nat),
    w20.heap.size ≤ m51 → ∀ (m52 : Nat), w20.heap.size ≤ m52 → ∀ (m53 : Nat), w20.heap.size ≤ m53 → ∀ (m54 : Nat), w20.heap.size ≤ m54 → ∀ (w21 : World), RowKit.Below w.heap.size w
    w21 → Kept [m54, m53, m52, m51, m50, m49, m36, m35, m24, m23, m17, m16] w20 w21 → w21.heap[m50]? = some (Obj.cells #[Value.int IntKind.i64 0, Value.slice (some
    { block := m49, off := 0 }) 1 1] 40) → w21.heap[m54]? = some (Obj.cells #[Value.int IntKind.i64 1, Value.slice (some { block := m51, off := 0 }) 1 1, Value.int IntKind.i64 1,
    Value.slice (some { block := m52, off := 0 }) 1 1, Value.int IntKind.i64 1, Value.slice (some { block := m53, off := 0 }) 1 1] 40) → w21.heap[m49]? = some (Obj.cells
    #[Value.int IntKind.i64 1010] 3) → w21.heap[m51]? = some (Obj.cells #[Value.int IntKind.i64 990] 3) → w21.heap[m52]? = some (Obj.cells #[Value.int IntKind.i64 996] 3) →
    w21.heap[m53]? = some (Obj.cells #[Value.int IntKind.i64 999] 3) → Calls Try.prog 36 #[Value.agg #[Value.slice a13 m44 m45, Value.slice a14 m46 m47], Value.slice (some
    { block := m50, off := 0 }) 1 1, Value.int IntKind.i64 1, Value.slice (some { block := m54, off := 0 }) 3 3] w21 fun (e11 : Ending) (w22 : World) => ∃ (a15 : Option Addr), ∃
    (m61 : Nat), ∃ (m62 : Nat), ∃ (x11 : Int), e11 = Ending.returned (Value.tuple #[Value.slice a15 m61 m62, Value.int IntKind.i64 x11]) ∧ KeepX true w.heap.size [m54, m53, m52,
    m51, m50, m49, m36, m35, m24, m23, m17, m16] (fun _ => False) w21 w22 ∧ ∀ (w23 : World), RowKit.Below w.heap.size w w23 → Kept [m54, m53, m52, m51, m50, m49, m36, m35, m24,
    m23, m17, m16] w22 w23 → Calls Try.prog 42 #[Value.int IntKind.i64 5, Value.int IntKind.i64 9] w23 fun (e12 : Ending) (w24 : World) => ∃ (x12 : Int), ∃ (x13 : Int), e12 =
    Ending.returned (Value.agg #[Value.int IntKind.i64 x12, Value.int IntKind.i64 x13]) ∧ KeepX true w.heap.size [m54, m53, m52, m51, m50, m49, m36, m35, m24, m23, m17, m16] (fun _
    => False) w23 w24 ∧ ∀ (m65 : Nat), w24.heap.size ≤ m65 → ∀ (m66 : Nat), w24.heap.size ≤ m66 → ∀ (w25 : World), RowKit.Below w.heap.size w w25 → Kept [m66, m65, m54, m53, m52,
    m51, m50, m49, m36, m35, m24, m23, m17, m16] w24 w25 → w25.heap[m65]? = some (Obj.cells #[Value.int IntKind.i64 10, Value.int IntKind.i64 0, Value.int IntKind.i64 20] 80) →
    w25.heap[m66]? = some (Obj.cells #[Value.int IntKind.i64 3, Value.int IntKind.i64 12] 3) → Calls Try.prog 38 #[Value.agg #[Value.int IntKind.i64 x12, Value.int IntKind.i64
    x13], Value.slice (some { block := m65, off := 0 }) 1 1, Value.slice (some { block := m66, off := 0 }) 2 2] w25 fun (e13 : Ending) (w26 : World) => ∃ (a16 : Option Addr), ∃
    (m69 : Nat), ∃ (m70 : Nat), ∃ (x14 : Int), e13 = Ending.returned (Value.tuple #[Value.slice a16 m69 m70, Value.int IntKind.i64 x14]) ∧ KeepX true w.heap.size [m66, m65, m54,
    m53, m52, m51, m50, m49, m36, m35, m24, m23, m17, m16] (fun _ => False) w25 w26 ∧ ∀ (w27 : World), RowKit.Below w.heap.size w w27 → Kept [m66, m65, m54, m53, m52, m51, m50,
    m49, m36, m35, m24, m23, m17, m16] w26 w27 → Calls Try.prog 45 #[] w27 fun (e14 : Ending) (w28 : World) => ∃ (a17 : Option Addr), ∃ (m72 : Nat), ∃ (m73 : Nat), ∃ (a18 : Option
    Addr), ∃ (m74 : Nat), ∃ (m75 : Nat), e14 = Ending.returned (Value.agg #[Value.slice a17 m72 m73, Value.slice a18 m74 m75]) ∧ KeepX true w.heap.size [m66, m65, m54, m53, m52,
    m51, m50, m49, m36, m35, m24, m23, m17, m16] (fun _ => False) w27 w28 ∧ ∀ (m77 : Nat), w28.heap.size ≤ m77 → ∀ (w29 : World), RowKit.Below w.heap.size w w29 → Kept [m77, m66,
    m65, m54, m53, m52, m51, m50, m49, m36, m35, m24, m23, m17, m16] w28 w29 → w29.heap[m77]? = some (Obj.cells #[Value.int IntKind.i64 998] 3) → Calls Try.prog 23 #[Value.agg
    #[Value.slice a17 m72 m73, Value.slice a18 m74 m75], Value.agg #[Value.int IntKind.i64 1, Value.slice (some { block := m77, off := 0 }) 1 1]] w29 fun (e15 : Ending) (w30 :
    World) => ∃ (t1 : Bool), ∃ (x15 : Int), e15 = Ending.returned (Value.tuple #[Value.bool t1, Value.int IntKind.i64 x15]) ∧ KeepX true w.heap.size [m77, m66, m65, m54, m53, m52,
    m51, m50, m49, m36, m35, m24, m23, m17, m16] (fun _ => False) w29 w30 ∧ ∃ (F1 : List Lf → World → Prop), ((x1 ≠ 0 → ∀ (w32 : World), RowKit.Below w.heap.size w w32 → Kept [m77,
    m66, m65, m54, m53, m52, m51, m50, m49, m36, m35, m24, m23, m17, m16] w30 w32 → F1 [Lf.bool true] w32) ∧ (x1 = 0 → (x8 ≠ 0 → ∀ (w33 : World), RowKit.Below w.heap.size w w33 →
    Kept [m77, m66, m65, m54, m53, m52, m51, m50, m49, m36, m35, m24, m23, m17, m16] w30 w33 → F1 [Lf.bool true] w33) ∧ (x8 = 0 → (x9 ≠ 0 → ∀ (w34 : World), RowKit.Below
    w.heap.size w w34 → Kept [m77, m66, m65, m54, m53, m52, m51, m50, m49, m36, m35, m24, m23, m17, m16] w30 w34 → F1 [Lf.bool true] w34) ∧ (x9 = 0 → (x10 ≠ 0 → ∀ (w35 : World),
    RowKit.Below w.heap.size w w35 → Kept [m77, m66, m65, m54, m53, m52, m51, m50, m49, m36, m35, m24, m23, m17, m16] w30 w35 → F1 [Lf.bool true] w35) ∧ (x10 = 0 → (x11 ≠ 0 → ∀
    (w36 : World), RowKit.Below w.heap.size w w36 → Kept [m77, m66, m65, m54, m53, m52, m51, m50, m49, m36, m35, m24, m23, m17, m16] w30 w36 → F1 [Lf.bool true] w36) ∧ (x11 = 0 →
    (x14 ≠ 0 → ∀ (w37 : World), RowKit.Below w.heap.size w w37 → Kept [m77, m66, m65, m54, m53, m52, m51, m50, m49, m36, m35, m24, m23, m17, m16] w30 w37 → F1 [Lf.bool true] w37) ∧
    (x14 = 0 → (x15 ≠ 0 → ∀ (w38 : World), RowKit.Below w.heap.size w w38 → Kept [m77, m66, m65, m54, m53, m52, m51, m50, m49, m36, m35, m24, m23, m17, m16] w30 w38 → F1 [Lf.bool
    true] w38) ∧ (x15 = 0 → ((↑m6 : Int) ≠ 1 → ∀ (w39 : World), RowKit.Below w.heap.size w w39 → Kept [m77, m66, m65, m54, m53, m52, m51, m50, m49, m36, m35, m24, m23, m17, m16]
    w30 w39 → F1 [Lf.bool true] w39) ∧ ((↑m6 : Int) = 1 → ((↑m27 : Int) ≠ 3 → ∀ (w40 : World), RowKit.Below w.heap.size w w40 → Kept [m77, m66, m65, m54, m53, m52, m51, m50, m49,
    m36, m35, m24, m23, m17, m16] w30 w40 → F1 [Lf.bool true] w40) ∧ ((↑m27 : Int) = 3 → ((↑m39 : Int) ≠ 3 → ∀ (w41 : World), RowKit.Below w.heap.size w w41 → Kept [m77, m66, m65,
    m54, m53, m52, m51, m50, m49, m36, m35, m24, m23, m17, m16] w30 w41 → F1 [Lf.bool true] w41) ∧ ((↑m39 : Int) = 3 → ((↑m41 : Int) ≠ 2 → ∀ (w42 : World), RowKit.Below w.heap.size
    w w42 → Kept [m77, m66, m65, m54, m53, m52, m51, m50, m49, m36, m35, m24, m23, m17, m16] w30 w42 → F1 [Lf.bool true] w42) ∧ ((↑m41 : Int) = 2 → ((↑m61 : Int) ≠ 1 → ∀ (w43 :
    World), RowKit.Below w.heap.size w w43 → Kept [m77, m66, m65, m54, m53, m52, m51, m50, m49, m36, m35, m24, m23, m17, m16] w30 w43 → F1 [Lf.bool true] w43) ∧ ((↑m61 : Int) = 1 →
    ∀ (w44 : World), RowKit.Below w.heap.size w w44 → Kept [m77, m66, m65, m54, m53, m52, m51, m50, m49, m36, m35, m24, m23, m17, m16] w30 w44 → F1 [Lf.bool ((↑m69 : Int) != 2)]
    w44))))))))))))) ∧ ∀ (t2 : Bool) (w45 : World), RowKit.Below w.heap.size w w45 → F1 [Lf.bool t2] w45 → (t2 = true → ∀ (w46 : World), RowKit.Below w.heap.size w w46 → Kept [m77,
    m66, m65, m54, m53, m52, m51, m50, m49, m36, m35, m24, m23, m17, m16] w45 w46 → R (Ending.returned (Value.bool false)) w46) ∧ (t2 = false → ∃ (m80 : Nat), ∃ (m81 : Nat), a3 =
    some { block := m80, off := m81 } ∧ ((0 : Int) ≤ 0 ∧ 0 < (↑m6 : Int)) ∧ ∃ (x16 : Int), ∃ (x17 : Int), ∃ (x18 : Int), w45.cell? { block := m80, off := m81 + Int.toNat 0 * 3 } =
    some (Value.int IntKind.i64 x16) ∧ w45.cell? { block := m80, off := m81 + Int.toNat 0 * 3 + 1 } = some (Value.int IntKind.i64 x17) ∧ w45.cell?
    { block := m80, off := m81 + Int.toNat 0 * 3 + 1 + 1 } = some (Value.int IntKind.i64 x18) ∧ (m80 < w.heap.size ∨ m80 ≠ m77 ∧ m80 ≠ m66 ∧ m80 ≠ m65 ∧ m80 ≠ m54 ∧ m80 ≠ m53 ∧ m80
    ≠ m52 ∧ m80 ≠ m51 ∧ m80 ≠ m50 ∧ m80 ≠ m49 ∧ m80 ≠ m36 ∧ m80 ≠ m35 ∧ m80 ≠ m24 ∧ m80 ≠ m23 ∧ m80 ≠ m17 ∧ m80 ≠ m16) ∧ ∀ (w47 : World), RowKit.Below w.heap.size w w47 → KeptIn
    [(0, w45.heap.size)] [m77, m66, m65, m54, m53, m52, m51, m50, m49, m36, m35, m24, m23, m17, m16] w45 w47 → RunsTo Try.prog ((eqGuard BinOp.eql 37 (Operand.tmp 132) (Operand.tmp
    133) (Value.agg #[Value.int IntKind.i64 x16, Value.int IntKind.i64 x17, Value.int IntKind.i64 x18]) (Value.agg #[Value.int IntKind.i64 0, Value.int IntKind.i64 1006, Value.int
    IntKind.i64 990])) >>= fun _ => binOp BinOp.eql 37 (Value.agg #[Value.int IntKind.i64 x16, Value.int IntKind.i64 x17, Value.int IntKind.i64 x18]) (Value.agg #[Value.int
    IntKind.i64 0, Value.int IntKind.i64 1006, Value.int IntKind.i64 990])) w47 fun (v1 : Value) (w48 : World) => ∃ (t3 : Bool), v1 = Value.bool t3 ∧ KeepX true w.heap.size [m77,
    m66, m65, m54, m53, m52, m51, m50, m49, m36, m35, m24, m23, m17, m16] (fun _ => False) w47 w48 ∧ (t3 = true → ∀ (w49 : World), RowKit.Below w.heap.size w w49 → KeptIn [(0,
    w48.heap.size)] [m77, m66, m65, m54, m53, m52, m51, m50, m49, m36, m35, m24, m23, m17, m16] w48 w49 → Calls Try.prog 42 #[Value.int IntKind.i64 1001, Value.int IntKind.i64
    1008] w49 fun (e16 : Ending) (w50 : World) => ∃ (x19 : Int), ∃ (x20 : Int), e16 = Ending.returned (Value.agg #[Value.int IntKind.i64 x19, Value.int IntKind.i64 x20]) ∧ KeepX
    true w.heap.size [m77, m66, m65, m54, m53, m52, m51, m50, m49, m36, m35, m24, m23, m17, m16] (fun _ => False) w49 w50 ∧ ∀ (w51 : World), RowKit.Below w.heap.size w w51 → KeptIn
    [(0, w50.heap.size)] [m77, m66, m65, m54, m53, m52, m51, m50, m49, m36, m35, m24, m23, m17, m16] w50 w51 → RunsTo Try.prog ((eqGuard BinOp.eql 42 (Operand.tmp 136) (Operand.tmp
    137) (Value.agg #[Value.int IntKind.i64 x4, Value.int IntKind.i64 x5]) (Value.agg #[Value.int IntKind.i64 x19, Value.int IntKind.i64 x20])) >>= fun _ => binOp BinOp.eql 42
    (Value.agg #[Value.int IntKind.i64 x4, Value.int IntKind.i64 x5]) (Value.agg #[Value.int IntKind.i64 x19, Value.int IntKind.i64 x20])) w51 fun (v2 : Value) (w52 : World) => ∃
    (t4 : Bool), v2 = Value.bool t4 ∧ KeepX true w.heap.size [m77, m66, m65, m54, m53, m52, m51, m50, m49, m36, m35, m24, m23, m17, m16] (fun _ => False) w51 w52 ∧ (t4 = true → ∀
    (w53 : World), RowKit.Below w.heap.size w w53 → KeptIn [(0, w52.heap.size)] [m77, m66, m65, m54, m53, m52, m51, m50, m49, m36, m35, m24, m23, m17, m16] w52 w53 → Calls Try.prog
    42 #[Value.int IntKind.i64 998, Value.int IntKind.i64 1011] w53 fun (e17 : Ending) (w54 : World) => ∃ (x21 : Int), ∃ (x22 : Int), e17 = Ending.returned (Value.agg #[Value.int
    IntKind.i64 x21, Value.int IntKind.i64 x22]) ∧ KeepX true w.heap.size [m77, m66, m65, m54, m53, m52, m51, m50, m49, m36, m35, m24, m23, m17, m16] (fun _ => False) w53 w54 ∧ ∀
    (w55 : World), RowKit.Below w.heap.size w w55 → KeptIn [(0, w54.heap.size)] [m77, m66, m65, m54, m53, m52, m51, m50, m49, m36, m35, m24, m23, m17, m16] w54 w55 → RunsTo
    Try.prog ((eqGuard BinOp.eql 42 (Operand.tmp 141) (Operand.tmp 142) (Value.agg #[Value.int IntKind.i64 x6, Value.int IntKind.i64 x7]) (Value.agg #[Value.int IntKind.i64 x21,
    Value.int IntKind.i64 x22])) >>= fun _ => binOp BinOp.eql 42 (Value.agg #[Value.int IntKind.i64 x6, Value.int IntKind.i64 x7]) (Value.agg #[Value.int IntKind.i64 x21, Value.int
    IntKind.i64 x22])) w55 fun (v3 : Value) (w56 : World) => ∃ (t5 : Bool), v3 = Value.bool t5 ∧ KeepX true w.heap.size [m77, m66, m65, m54, m53, m52, m51, m50, m49, m36, m35, m24,
    m23, m17, m16] (fun _ => False) w55 w56 ∧ (t5 = true → ∃ (m87 : Nat), ∃ (m88 : Nat), a8 = some { block := m87, off := m88 } ∧ ((0 : Int) ≤ 0 ∧ 0 < (↑m27 : Int)) ∧ ∃ (x23 :
    Int), ∃ (x24 : Int), w56.cell? { block := m87, off := m88 + Int.toNat 0 * 2 } = some (Value.int IntKind.i64 x23) ∧ w56.cell? { block := m87, off := m88 + Int.toNat 0 * 2 + 1 }
    = some (Value.int IntKind.i64 x24) ∧ (m87 < w.heap.size ∨ m87 ≠ m77 ∧ m87 ≠ m66 ∧ m87 ≠ m65 ∧ m87 ≠ m54 ∧ m87 ≠ m53 ∧ m87 ≠ m52 ∧ m87 ≠ m51 ∧ m87 ≠ m50 ∧ m87 ≠ m49 ∧ m87 ≠ m36
    ∧ m87 ≠ m35 ∧ m87 ≠ m24 ∧ m87 ≠ m23 ∧ m87 ≠ m17 ∧ m87 ≠ m16) ∧ ∀ (w57 : World), RowKit.Below w.heap.size w w57 → KeptIn [(0, w56.heap.size)] [m77, m66, m65, m54, m53, m52, m51,
    m50, m49, m36, m35, m24, m23, m17, m16] w56 w57 → RunsTo Try.prog ((eqGuard BinOp.eql 68 (Operand.tmp 148) (Operand.tmp 149) (Value.agg #[Value.int IntKind.i64 x23, Value.int
    IntKind.i64 x24]) (Value.agg #[Value.int IntKind.i64 0, Value.int IntKind.i64 2])) >>= fun _ => binOp BinOp.eql 68 (Value.agg #[Value.int IntKind.i64 x23, Value.int IntKind.i64
    x24]) (Value.agg #[Value.int IntKind.i64 0, Value.int IntKind.i64 2])) w57 fun (v4 : Value) (w58 : World) => ∃ (t6 : Bool), v4 = Value.bool t6 ∧ KeepX true w.heap.size [m77,
    m66, m65, m54, m53, m52, m51, m50, m49, m36, m35, m24, m23, m17, m16] (fun _ => False) w57 w58 ∧ (t6 = true → ∃ (m90 : Nat), ∃ (m91 : Nat), a8 = some
    { block := m90, off := m91 } ∧ ((0 : Int) ≤ 2 ∧ 2 < (↑m27 : Int)) ∧ ∃ (x25 : Int), ∃ (x26 : Int), w58.cell? { block := m90, off := m91 + Int.toNat 2 * 2 } = some (Value.int
    IntKind.i64 x25) ∧ w58.cell? { block := m90, off := m91 + Int.toNat 2 * 2 + 1 } = some (Value.int IntKind.i64 x26) ∧ (m90 < w.heap.size ∨ m90 ≠ m77 ∧ m90 ≠ m66 ∧ m90 ≠ m65 ∧
    m90 ≠ m54 ∧ m90 ≠ m53 ∧ m90 ≠ m52 ∧ m90 ≠ m51 ∧ m90 ≠ m50 ∧ m90 ≠ m49 ∧ m90 ≠ m36 ∧ m90 ≠ m35 ∧ m90 ≠ m24 ∧ m90 ≠ m23 ∧ m90 ≠ m17 ∧ m90 ≠ m16) ∧ ∀ (w59 : World), RowKit.Below
    w.heap.size w w59 → KeptIn [(0, w58.heap.size)] [m77, m66, m65, m54, m53, m52, m51, m50, m49, m36, m35, m24, m23, m17, m16] w58 w59 → RunsTo Try.prog ((eqGuard BinOp.eql 68
    (Operand.tmp 155) (Operand.tmp 156) (Value.agg #[Value.int IntKind.i64 x25, Value.int IntKind.i64 x26]) (Value.agg #[Value.int IntKind.i64 2, Value.int IntKind.i64 1])) >>= fun
    _ => binOp BinOp.eql 68 (Value.agg #[Value.int IntKind.i64 x25, Value.int IntKind.i64 x26]) (Value.agg #[Value.int IntKind.i64 2, Value.int IntKind.i64 1])) w59 fun (v5 :
    Value) (w60 : World) => ∃ (t7 : Bool), v5 = Value.bool t7 ∧ KeepX true w.heap.size [m77, m66, m65, m54, m53, m52, m51, m50, m49, m36, m35, m24, m23, m17, m16] (fun _ => False)
    w59 w60 ∧ (t7 = true → ∃ (m93 : Nat), ∃ (m94 : Nat), a12 = some { block := m93, off := m94 } ∧ ((0 : Int) ≤ 1 ∧ 1 < (↑m41 : Int)) ∧ ∃ (x27 : Int), w60.cell?
    { block := m93, off := m94 + Int.toNat 1 * 1 } = some (Value.int IntKind.i64 x27) ∧ (m93 < w.heap.size ∨ m93 ≠ m77 ∧ m93 ≠ m66 ∧ m93 ≠ m65 ∧ m93 ≠ m54 ∧ m93 ≠ m53 ∧ m93 ≠ m52 ∧
    m93 ≠ m51 ∧ m93 ≠ m50 ∧ m93 ≠ m49 ∧ m93 ≠ m36 ∧ m93 ≠ m35 ∧ m93 ≠ m24 ∧ m93 ≠ m23 ∧ m93 ≠ m17 ∧ m93 ≠ m16) ∧ (x27 = 2 → ∃ (m95 : Nat), ∃ (m96 : Nat), a15 = some
    { block := m95, off := m96 } ∧ ((0 : Int) ≤ 0 ∧ 0 < (↑m61 : Int)) ∧ ∃ (x28 : Int), w60.cell? { block := m95, off := m96 + Int.toNat 0 * 1 } = some (Value.int IntKind.i64 x28) ∧
    (m95 < w.heap.size ∨ m95 ≠ m77 ∧ m95 ≠ m66 ∧ m95 ≠ m65 ∧ m95 ≠ m54 ∧ m95 ≠ m53 ∧ m95 ≠ m52 ∧ m95 ≠ m51 ∧ m95 ≠ m50 ∧ m95 ≠ m49 ∧ m95 ≠ m36 ∧ m95 ≠ m35 ∧ m95 ≠ m24 ∧ m95 ≠ m23 ∧
    m95 ≠ m17 ∧ m95 ≠ m16) ∧ (x28 = 1 → ∃ (m97 : Nat), ∃ (m98 : Nat), a16 = some { block := m97, off := m98 } ∧ ((0 : Int) ≤ 0 ∧ 0 < (↑m69 : Int)) ∧ ∃ (x29 : Int), w60.cell?
    { block := m97, off := m98 + Int.toNat 0 * 1 } = some (Value.int IntKind.i64 x29) ∧ (m97 < w.heap.size ∨ m97 ≠ m77 ∧ m97 ≠ m66 ∧ m97 ≠ m65 ∧ m97 ≠ m54 ∧ m97 ≠ m53 ∧ m97 ≠ m52 ∧
    m97 ≠ m51 ∧ m97 ≠ m50 ∧ m97 ≠ m49 ∧ m97 ≠ m36 ∧ m97 ≠ m35 ∧ m97 ≠ m24 ∧ m97 ≠ m23 ∧ m97 ≠ m17 ∧ m97 ≠ m16) ∧ (x29 = 20 → ∃ (m99 : Nat), ∃ (m100 : Nat), a16 = some
    { block := m99, off := m100 } ∧ ((0 : Int) ≤ 1 ∧ 1 < (↑m69 : Int)) ∧ ∃ (x30 : Int), w60.cell? { block := m99, off := m100 + Int.toNat 1 * 1 } = some (Value.int IntKind.i64 x30)
    ∧ (m99 < w.heap.size ∨ m99 ≠ m77 ∧ m99 ≠ m66 ∧ m99 ≠ m65 ∧ m99 ≠ m54 ∧ m99 ≠ m53 ∧ m99 ≠ m52 ∧ m99 ≠ m51 ∧ m99 ≠ m50 ∧ m99 ≠ m49 ∧ m99 ≠ m36 ∧ m99 ≠ m35 ∧ m99 ≠ m24 ∧ m99 ≠ m23
    ∧ m99 ≠ m17 ∧ m99 ≠ m16) ∧ (x30 = 10 → ∀ (w61 : World), RowKit.Below w.heap.size w w61 → Kept [m77, m66, m65, m54, m53, m52, m51, m50, m49, m36, m35, m24, m23, m17, m16] w60
    w61 → R (Ending.returned (Value.bool t1)) w61) ∧ (x30 ≠ 10 → ∀ (w62 : World), RowKit.Below w.heap.size w w62 → Kept [m77, m66, m65, m54, m53, m52, m51, m50, m49, m36, m35, m24,
    m23, m17, m16] w60 w62 → R (Ending.returned (Value.bool false)) w62)) ∧ (x29 ≠ 20 → ∀ (w63 : World), RowKit.Below w.heap.size w w63 → Kept [m77, m66, m65, m54, m53, m52, m51,
    m50, m49, m36, m35, m24, m23, m17, m16] w60 w63 → R (Ending.returned (Value.bool false)) w63)) ∧ (x28 ≠ 1 → ∀ (w64 : World), RowKit.Below w.heap.size w w64 → Kept [m77, m66,
    m65, m54, m53, m52, m51, m50, m49, m36, m35, m24, m23, m17, m16] w60 w64 → R (Ending.returned (Value.bool false)) w64)) ∧ (x27 ≠ 2 → ∀ (w65 : World), RowKit.Below w.heap.size w
    w65 → Kept [m77, m66, m65, m54, m53, m52, m51, m50, m49, m36, m35, m24, m23, m17, m16] w60 w65 → R (Ending.returned (Value.bool false)) w65)) ∧ (t7 = false → ∀ (w66 : World),
    RowKit.Below w.heap.size w w66 → Kept [m77, m66, m65, m54, m53, m52, m51, m50, m49, m36, m35, m24, m23, m17, m16] w60 w66 → R (Ending.returned (Value.bool false)) w66)) ∧ (t6 =
    false → ∀ (w67 : World), RowKit.Below w.heap.size w w67 → Kept [m77, m66, m65, m54, m53, m52, m51, m50, m49, m36, m35, m24, m23, m17, m16] w58 w67 → R (Ending.returned
    (Value.bool false)) w67)) ∧ (t5 = false → ∀ (w68 : World), RowKit.Below w.heap.size w w68 → Kept [m77, m66, m65, m54, m53, m52, m51, m50, m49, m36, m35, m24, m23, m17, m16] w56
    w68 → R (Ending.returned (Value.bool false)) w68)) ∧ (t4 = false → ∀ (w69 : World), RowKit.Below w.heap.size w w69 → Kept [m77, m66, m65, m54, m53, m52, m51, m50, m49, m36,
    m35, m24, m23, m17, m16] w52 w69 → R (Ending.returned (Value.bool false)) w69)) ∧ (t3 = false → ∀ (w70 : World), RowKit.Below w.heap.size w w70 → Kept [m77, m66, m65, m54, m53,
    m52, m51, m50, m49, m36, m35, m24, m23, m17, m16] w48 w70 → R (Ending.returned (Value.bool false)) w70))) : Calls Try.prog 14 #[] w R := calls_of_vcj (pure := true) (wrapAt :=
    []) (muts := []) (esc := []) (joins := [(2000008, [(129, 4)])]) (args := []) (vs := []) Try.func14 rfl rfl rfl (Eq.mp (by kernel_rfl) h) 
end Go.Proofs
end
section
/- The example of the laws. -/
namespace Go.Proofs.R12
open Go.Vc Go.RowKit Go.Proofs

def oneW : Wk := ⟨[[(1000, 1010)], [(990, 998)]], [⟨0, 0, 1, 0, (2, 15)⟩]⟩
theorem oneW_ok : OkW oneW := by decide +kernel
theorem oneW_small : Small oneW := ⟨by decide, by decide, by decide⟩

set_option maxRecDepth 100000 in
theorem one_l {w : World} : Calls Try.prog 45 #[] w fun e w' => ∃ pa pc fa fc, e = .returned (oneW.v pa pc fa fc) ∧ Below w.heap.size w w' ∧ LiesS w.heap.size w'.heap.size w' pa oneW.pats ∧ Lies [] w.heap.size w'.heap.size w' fa (fitsV oneW.fits) := by
  refine vc45 w _ fun m1 g1 w1 hb1 hk1 => Pure.calls (span_any _ _) fun w2 hd2 => ⟨_, _, rfl, .all hd2, fun m3 g3 w3 hb3 hk3 => Pure.calls (span_any _ _) fun w4 hd4 => ⟨_, _, rfl, .all hd4, fun m5 g5 m6 g6 w5 hb5 hk5 => Pure.calls (span_any _ _) fun w6 hd6 => ⟨_, _, rfl, .all hd6, fun m8 g8 w7 hb7 hk7 h6 h8 h3 h5 => ?_⟩⟩⟩
  have z2 := hb1.size
  have z3 := hb3.size
  have z4 := hb5.size
  have y2 := hd2.size
  have y4 := hd4.size
  have y6 := hd6.size
  have l3 := lt_of_some h3
  have l5 := lt_of_some h5
  have l6 := lt_of_some h6
  have l8 := lt_of_some h8
  have lies : ∀ {b : Nat} {vs : List Value}, w.heap.size ≤ b → b < w7.heap.size → Cells w7 (some ⟨b, 0, none⟩) vs → Lies [] w.heap.size w7.heap.size w7 (some ⟨b, 0, none⟩) vs := fun {b vs} h1 h2 hc i v hi => by
    obtain ⟨b', o', e, hcell⟩ := hc i v hi
    simp only [Option.some.injEq, Addr.mk.injEq, and_true] at e
    obtain ⟨rfl, rfl⟩ := e
    exact ⟨_, _, rfl, ⟨by simp, h1, h2⟩, hcell⟩
  refine ⟨some ⟨m6, 0, none⟩, 2, some ⟨m8, 0, none⟩, 1, rfl, hb7, fun i p hi => ?_, ?_⟩
  · match i, hi with
    | 0, hi =>
      obtain rfl := Option.some.inj hi
      exact ⟨m6, 0, some ⟨m3, 0, none⟩, 1, rfl, ⟨by omega, l6⟩, cell_obj (vs := [.slice (some ⟨m3, 0, none⟩) 1 1, .slice (some ⟨m5, 0, none⟩) 1 1]) h6 rfl, lies (by omega) l3 (Cells.obj (vs := spansV [(1000, 1010)]) h3)⟩
    | 1, hi =>
      obtain rfl := Option.some.inj hi
      exact ⟨m6, 0, some ⟨m5, 0, none⟩, 1, rfl, ⟨by omega, l6⟩, cell_obj (vs := [.slice (some ⟨m3, 0, none⟩) 1 1, .slice (some ⟨m5, 0, none⟩) 1 1]) h6 rfl, lies (by omega) l5 (Cells.obj (vs := spansV [(990, 998)]) h5)⟩
    | j + 2, hi => simp [oneW] at hi
  · exact lies (by omega) l8 (Cells.obj (vs := fitsV oneW.fits) h8)
end Go.Proofs.R12
end
section
/- What the example's calls return. -/
namespace Go.Proofs.R12
open Go.Vc Go.RowKit Go.Proofs

def kH : List Int := [1000, 1012, 1001]
def kS : List Int := [999, 995, 1003]
def lH : List Int := [1000, 1030, 1001]
def lS : List Int := [995, 996, 997]
theorem ex_gauge : gaugeM oneW 0 0 (-2, 1) = ((1001, 1008), (998, 1011), 0) := by decide +kernel
theorem ex_loose : LooseM oneW = [⟨0, 1006, 990⟩] := by decide +kernel
theorem ex_spares : SparesM (5, 9) [⟨10, 0, 20⟩] [3, 12] = ([20, 10], 0) := by decide +kernel
theorem ex_good : GoodM oneW ⟨1, [998]⟩ = (true, 0) := by decide +kernel
theorem ex_box : boxE oneW 0 kH kS = 0 := by decide +kernel
theorem ex_box2 : boxE oneW 0 lH lS = 0 := by decide +kernel
theorem ex_pair : pairM oneW 0 kH kS = [(0, 2), (1, 0), (2, 1)] := by decide +kernel
theorem ex_choose : chooseM oneW 1 [⟨0, [1010]⟩] [⟨1, [990]⟩, ⟨1, [996]⟩, ⟨1, [999]⟩] = ([1], 0) := by decide +kernel
theorem ex_pairK : pairK (fitOf oneW 0) lH lS = [(0, 0), (1, 2)] := by decide +kernel
theorem ex_lack : lackM oneW 0 lH lS = ([0, 1, 2], [0, 2]) := by
  have hp := ex_pairK
  have s2 : Short (fitOf oneW 0) lH lS [(0, 0), (1, 2)] 2 := .free (by decide) (by decide) (by decide)
  have s0 : Short (fitOf oneW 0) lH lS [(0, 0), (1, 2)] 0 := .next (h := 0) s2 (by decide) (by decide) (by decide +kernel) (by decide)
  have s1 : Short (fitOf oneW 0) lH lS [(0, 0), (1, 2)] 1 := .next (h := 2) s2 (by decide) (by decide) (by decide +kernel) (by decide)
  have f0 : FitS (fitOf oneW 0) lH lS [(0, 0), (1, 2)] 0 := ⟨by decide, 2, s2, by decide +kernel⟩
  have f2 : FitS (fitOf oneW 0) lH lS [(0, 0), (1, 2)] 2 := ⟨by decide, 2, s2, by decide +kernel⟩
  have ok : PsOk [(0, 0), (1, 2)] lS.length lH.length := by rw [← hp]; exact pairK_ok _ _ _
  have f1 : ¬ FitS (fitOf oneW 0) lH lS [(0, 0), (1, 2)] 1 := fun ⟨_, s, h1, h2⟩ => by
    obtain ⟨a, b⟩ := h1.in ok
    have : s = 0 ∨ s = 1 ∨ s = 2 := by simp only [lS, List.length_cons, List.length_nil] at b; omega
    rcases this with rfl | rfl | rfl <;> revert h2 <;> decide +kernel
  unfold lackM
  rw [if_pos ex_box2]
  unfold shortL fitL
  rw [hp]
  have i3 : idxs lS.length = [0, 1, 2] := rfl
  have i3' : idxs lH.length = [0, 1, 2] := rfl
  rw [i3, i3']
  simp [List.filter, s0, s1, s2, f0, f1, f2]
end Go.Proofs.R12
end
section
/- The example of the laws, checked. -/
namespace Go.Proofs.R12
open Go.Vc Go.RowKit Go.Proofs
theorem liesS_chg {lo hi : Nat} {w w' : World} {a : Option Addr} {ps : List (List Sp)} {S : List Nat} (h : LiesS lo hi w a ps) (hc : Chg S w w') (hs : ∀ x ∈ S, x < lo ∨ hi ≤ x) : CellsS w' a ps := fun i p hi => by
  obtain ⟨b, o, a', c, e, hb, h1, h2⟩ := h i p hi
  exact ⟨b, o, a', c, e, hc.cell (fun hm => by have := hs b hm; omega) h1, (h2.out hc hs).cells⟩
set_option maxRecDepth 100000 in
set_option maxHeartbeats 2000000 in
theorem known_any {w : World} : Calls Try.prog 14 #[] w (Pure w (.bool true)) := by
  refine vc14 w _ ?_
  intro w1 hb1 hk1
  have z1 := hk1.size
  have x1 := hb1.size
  have o1 := hk1.own
  simp only [List.not_mem_nil, false_implies, implies_true] at o1
  refine one_l.mono fun e1 w2 he => ?_
  obtain ⟨pa2, pc2, fa2, fc2, rfl, hd2, P2, F2⟩ := he
  have y2 := hd2.size
  refine ⟨_, _, _, _, _, _, rfl, .all hd2, ?_⟩
  intro w3 hb3 hk3
  have z3 := hk3.size
  have x3 := hb3.size
  have o3 := hk3.own
  simp only [List.not_mem_nil, false_implies, implies_true] at o3
  have PC3 : CellsS w3 pa2 oneW.pats := liesS_chg P2 (Chg.kept hk3) (by simp)
  have FC3 : Cells w3 fa2 (fitsV oneW.fits) := (F2.out (Chg.kept hk3) (by simp)).cells
  refine (Loose_l PC3 FC3 oneW_small).mono fun e2 w4 he => ?_
  rw [ex_loose, show checkE oneW = 0 from checkE_ok.2 oneW_ok] at he
  obtain ⟨aL, cL, rfl, hd4, D4⟩ := he
  have y4 := hd4.size
  refine ⟨_, _, _, _, rfl, .all hd4, ?_⟩
  intro w5 hb5 hk5
  have z5 := hk5.size
  have x5 := hb5.size
  have o5 := hk5.own
  simp only [List.not_mem_nil, false_implies, implies_true] at o5
  refine one_l.mono fun e3 w6 he => ?_
  obtain ⟨pa6, pc6, fa6, fc6, rfl, hd6, P6, F6⟩ := he
  have y6 := hd6.size
  refine ⟨_, _, _, _, _, _, rfl, .all hd6, ?_⟩
  intro w7 hb7 hk7
  have z7 := hk7.size
  have x7 := hb7.size
  have o7 := hk7.own
  simp only [List.not_mem_nil, false_implies, implies_true] at o7
  refine Pure.calls (span_any _ _) fun w8 hd8 => ⟨_, _, rfl, .all hd8, ?_⟩
  have y8 := hd8.size
  intro w9 hb9 hk9
  have z9 := hk9.size
  have x9 := hb9.size
  have o9 := hk9.own
  simp only [List.not_mem_nil, false_implies, implies_true] at o9
  have PC9 : CellsS w9 pa6 oneW.pats := liesS_chg P6 (((Chg.kept hk7).trans (Chg.of_below hd8)).trans (Chg.kept hk9)) (by simp)
  have FC9 : Cells w9 fa6 (fitsV oneW.fits) := (F6.out (((Chg.kept hk7).trans (Chg.of_below hd8)).trans (Chg.kept hk9)) (by simp)).cells
  refine Pure.calls (gauge_any 0 0 (-2, 1) PC9 FC9 oneW_small) fun w10 hd10 => ?_
  have y10 := hd10.size
  rw [ex_gauge]
  refine ⟨_, _, _, _, _, rfl, .all hd10, ?_⟩
  intro m16 g_m16
  intro m17 g_m17
  intro w11 hb11 hk11
  have z11 := hk11.size
  have x11 := hb11.size
  have o11 := hk11.own
  simp only [List.mem_cons, List.not_mem_nil, or_false, forall_eq_or_imp, forall_eq] at o11
  refine one_l.mono fun e6 w12 he => ?_
  obtain ⟨pa12, pc12, fa12, fc12, rfl, hd12, P12, F12⟩ := he
  have y12 := hd12.size
  refine ⟨_, _, _, _, _, _, rfl, .all hd12, ?_⟩
  intro m23 g_m23
  intro m24 g_m24
  intro w13 hb13 hk13 hc_m23 hc_m24
  have z13 := hk13.size
  have x13 := hb13.size
  have o13 := hk13.own
  simp only [List.mem_cons, List.not_mem_nil, or_false, forall_eq_or_imp, forall_eq] at o13
  have PC13 : CellsS w13 pa12 oneW.pats := liesS_chg P12 (Chg.kept hk13) (by simp only [List.mem_cons, List.not_mem_nil, or_false, forall_eq_or_imp, forall_eq]; omega)
  have FC13 : Cells w13 fa12 (fitsV oneW.fits) := (F12.out (Chg.kept hk13) (by simp only [List.mem_cons, List.not_mem_nil, or_false, forall_eq_or_imp, forall_eq]; omega)).cells
  refine (Pair_l (n := 0) (H := kH) (S := kS) PC13 FC13 oneW_small (Cells.obj (vs := ints kH) hc_m23) (Cells.obj (vs := ints kS) hc_m24) (by decide) (by decide) (fun _ => by decide)).mono fun e7 w14 he => ?_
  rw [ex_pair, ex_box] at he
  obtain ⟨aP, cP, rfl, hd14, D14⟩ := he
  have y14 := hd14.size
  refine ⟨_, _, _, _, rfl, .all hd14, ?_⟩
  intro w15 hb15 hk15
  have z15 := hk15.size
  have x15 := hb15.size
  have o15 := hk15.own
  simp only [List.mem_cons, List.not_mem_nil, or_false, forall_eq_or_imp, forall_eq] at o15
  refine one_l.mono fun e8 w16 he => ?_
  obtain ⟨pa16, pc16, fa16, fc16, rfl, hd16, P16, F16⟩ := he
  have y16 := hd16.size
  refine ⟨_, _, _, _, _, _, rfl, .all hd16, ?_⟩
  intro m35 g_m35
  intro m36 g_m36
  intro w17 hb17 hk17 hc_m35 hc_m36
  have z17 := hk17.size
  have x17 := hb17.size
  have o17 := hk17.own
  simp only [List.mem_cons, List.not_mem_nil, or_false, forall_eq_or_imp, forall_eq] at o17
  have PC17 : CellsS w17 pa16 oneW.pats := liesS_chg P16 (Chg.kept hk17) (by simp only [List.mem_cons, List.not_mem_nil, or_false, forall_eq_or_imp, forall_eq]; omega)
  have FC17 : Cells w17 fa16 (fitsV oneW.fits) := (F16.out (Chg.kept hk17) (by simp only [List.mem_cons, List.not_mem_nil, or_false, forall_eq_or_imp, forall_eq]; omega)).cells
  refine (Lack_l (n := 0) (H := lH) (S := lS) PC17 FC17 oneW_small (Cells.obj (vs := ints lH) hc_m35) (Cells.obj (vs := ints lS) hc_m36) (by decide) (by decide) (fun _ => by decide)).mono fun e9 w18 he => ?_
  rw [ex_lack, ex_box2] at he
  obtain ⟨aF, cF, aA, cA, rfl, hd18, D18, E18⟩ := he
  have y18 := hd18.size
  refine ⟨_, _, _, _, _, _, _, rfl, .all hd18, ?_⟩
  intro w19 hb19 hk19
  have z19 := hk19.size
  have x19 := hb19.size
  have o19 := hk19.own
  simp only [List.mem_cons, List.not_mem_nil, or_false, forall_eq_or_imp, forall_eq] at o19
  refine one_l.mono fun e10 w20 he => ?_
  obtain ⟨pa20, pc20, fa20, fc20, rfl, hd20, P20, F20⟩ := he
  have y20 := hd20.size
  refine ⟨_, _, _, _, _, _, rfl, .all hd20, ?_⟩
  intro m49 g_m49
  intro m50 g_m50
  intro m51 g_m51
  intro m52 g_m52
  intro m53 g_m53
  intro m54 g_m54
  intro w21 hb21 hk21 hc_m50 hc_m54 hc_m49 hc_m51 hc_m52 hc_m53
  have z21 := hk21.size
  have x21 := hb21.size
  have o21 := hk21.own
  simp only [List.mem_cons, List.not_mem_nil, or_false, forall_eq_or_imp, forall_eq] at o21
  have PC21 : CellsS w21 pa20 oneW.pats := liesS_chg P20 (Chg.kept hk21) (by simp only [List.mem_cons, List.not_mem_nil, or_false, forall_eq_or_imp, forall_eq]; omega)
  have FC21 : Cells w21 fa20 (fitsV oneW.fits) := (F20.out (Chg.kept hk21) (by simp only [List.mem_cons, List.not_mem_nil, or_false, forall_eq_or_imp, forall_eq]; omega)).cells
  have KC : CellsP w21 (some ⟨m50, 0, none⟩) [⟨0, [1010]⟩] := fun i p hi => by
    match i, hi with
    | 0, hi =>
      obtain rfl := Option.some.inj hi
      exact ⟨m50, 0, some ⟨m49, 0, none⟩, 1, rfl, cell_obj (vs := [I 0, .slice (some ⟨m49, 0, none⟩) 1 1]) hc_m50 rfl, cell_obj (vs := [I 0, .slice (some ⟨m49, 0, none⟩) 1 1]) hc_m50 rfl, Cells.obj (vs := ints [1010]) hc_m49⟩
    | j + 1, hi => simp at hi
  have KT : CellsP w21 (some ⟨m54, 0, none⟩) [⟨1, [990]⟩, ⟨1, [996]⟩, ⟨1, [999]⟩] := fun i p hi => by
    match i, hi with
    | 0, hi =>
      obtain rfl := Option.some.inj hi
      exact ⟨m54, 0, some ⟨m51, 0, none⟩, 1, rfl, cell_obj (vs := [I 1, .slice (some ⟨m51, 0, none⟩) 1 1, I 1, .slice (some ⟨m52, 0, none⟩) 1 1, I 1, .slice (some ⟨m53, 0, none⟩) 1 1]) hc_m54 rfl, cell_obj (vs := [I 1, .slice (some ⟨m51, 0, none⟩) 1 1, I 1, .slice (some ⟨m52, 0, none⟩) 1 1, I 1, .slice (some ⟨m53, 0, none⟩) 1 1]) hc_m54 rfl, Cells.obj (vs := ints [990]) hc_m51⟩
    | 1, hi =>
      obtain rfl := Option.some.inj hi
      exact ⟨m54, 0, some ⟨m52, 0, none⟩, 1, rfl, cell_obj (vs := [I 1, .slice (some ⟨m51, 0, none⟩) 1 1, I 1, .slice (some ⟨m52, 0, none⟩) 1 1, I 1, .slice (some ⟨m53, 0, none⟩) 1 1]) hc_m54 rfl, cell_obj (vs := [I 1, .slice (some ⟨m51, 0, none⟩) 1 1, I 1, .slice (some ⟨m52, 0, none⟩) 1 1, I 1, .slice (some ⟨m53, 0, none⟩) 1 1]) hc_m54 rfl, Cells.obj (vs := ints [996]) hc_m52⟩
    | 2, hi =>
      obtain rfl := Option.some.inj hi
      exact ⟨m54, 0, some ⟨m53, 0, none⟩, 1, rfl, cell_obj (vs := [I 1, .slice (some ⟨m51, 0, none⟩) 1 1, I 1, .slice (some ⟨m52, 0, none⟩) 1 1, I 1, .slice (some ⟨m53, 0, none⟩) 1 1]) hc_m54 rfl, cell_obj (vs := [I 1, .slice (some ⟨m51, 0, none⟩) 1 1, I 1, .slice (some ⟨m52, 0, none⟩) 1 1, I 1, .slice (some ⟨m53, 0, none⟩) 1 1]) hc_m54 rfl, Cells.obj (vs := ints [999]) hc_m53⟩
    | j + 3, hi => simp at hi
  refine (Choose_l (p := 1) (C := [⟨0, [1010]⟩]) (St := [⟨1, [990]⟩, ⟨1, [996]⟩, ⟨1, [999]⟩]) PC21 FC21 oneW_small KC KT (by decide) (by decide) (by decide) (by decide)).mono fun e11 w22 he => ?_
  unfold PureL at he
  rw [ex_choose] at he
  obtain ⟨aC, cC, rfl, hd22, D22⟩ := he
  have y22 := hd22.size
  refine ⟨_, _, _, _, rfl, .all hd22, ?_⟩
  intro w23 hb23 hk23
  have z23 := hk23.size
  have x23 := hb23.size
  have o23 := hk23.own
  simp only [List.mem_cons, List.not_mem_nil, or_false, forall_eq_or_imp, forall_eq] at o23
  refine Pure.calls (span_any _ _) fun w24 hd24 => ⟨_, _, rfl, .all hd24, ?_⟩
  have y24 := hd24.size
  intro m65 g_m65
  intro m66 g_m66
  intro w25 hb25 hk25 hc_m65 hc_m66
  have z25 := hk25.size
  have x25 := hb25.size
  have o25 := hk25.own
  simp only [List.mem_cons, List.not_mem_nil, or_false, forall_eq_or_imp, forall_eq] at o25
  refine (spares_l (5, 9) (l := [⟨10, 0, 20⟩]) (orders := [3, 12]) (Cells.obj (vs := consV [⟨10, 0, 20⟩]) hc_m65) (Cells.obj (vs := ints [3, 12]) hc_m66) (by decide) (by decide) (by decide)).mono fun e13 w26 he => ?_
  rw [ex_spares] at he
  obtain ⟨aS, cS, rfl, hd26, D26⟩ := he
  have y26 := hd26.size
  refine ⟨_, _, _, _, rfl, .all hd26, ?_⟩
  intro w27 hb27 hk27
  have z27 := hk27.size
  have x27 := hb27.size
  have o27 := hk27.own
  simp only [List.mem_cons, List.not_mem_nil, or_false, forall_eq_or_imp, forall_eq] at o27
  refine one_l.mono fun e14 w28 he => ?_
  obtain ⟨pa28, pc28, fa28, fc28, rfl, hd28, P28, F28⟩ := he
  have y28 := hd28.size
  refine ⟨_, _, _, _, _, _, rfl, .all hd28, ?_⟩
  intro m77 g_m77
  intro w29 hb29 hk29 hc_m77
  have z29 := hk29.size
  have x29 := hb29.size
  have o29 := hk29.own
  simp only [List.mem_cons, List.not_mem_nil, or_false, forall_eq_or_imp, forall_eq] at o29
  have PC29 : CellsS w29 pa28 oneW.pats := liesS_chg P28 (Chg.kept hk29) (by simp only [List.mem_cons, List.not_mem_nil, or_false, forall_eq_or_imp, forall_eq]; omega)
  have FC29 : Cells w29 fa28 (fitsV oneW.fits) := (F28.out (Chg.kept hk29) (by simp only [List.mem_cons, List.not_mem_nil, or_false, forall_eq_or_imp, forall_eq]; omega)).cells
  refine Pure.calls (Good_any ⟨1, [998]⟩ (Cells.obj (vs := ints [998]) hc_m77) (by decide) PC29 FC29 oneW_small) fun w30 hd30 => ?_
  have y30 := hd30.size
  rw [ex_good]
  refine ⟨_, _, rfl, .all hd30, ?_⟩
  have hs : ∀ {own : List Nat} {u v : World}, Kept own u v → (∀ x ∈ own, x ∈ [m77, m66, m65, m54, m53, m52, m51, m50, m49, m36, m35, m24, m23, m17, m16]) → Chg [m77, m66, m65, m54, m53, m52, m51, m50, m49, m36, m35, m24, m23, m17, m16] u v := fun hk h => (Chg.kept hk).mono fun x hx => .inl (h x hx)
  have hbl : ∀ {u v : World}, Below u.heap.size u v → Chg [m77, m66, m65, m54, m53, m52, m51, m50, m49, m36, m35, m24, m23, m17, m16] u v := fun h => Chg.of_below h
  have C4_14 : Chg [m77, m66, m65, m54, m53, m52, m51, m50, m49, m36, m35, m24, m23, m17, m16] w4 w14 := ((hs hk5 (by simp)).trans ((hbl hd6).trans ((hs hk7 (by simp)).trans ((hbl hd8).trans ((hs hk9 (by simp)).trans ((hbl hd10).trans ((hs hk11 (by simp)).trans ((hbl hd12).trans ((hs hk13 (by simp)).trans (hbl hd14))))))))))
  have C14_18 : Chg [m77, m66, m65, m54, m53, m52, m51, m50, m49, m36, m35, m24, m23, m17, m16] w14 w18 := ((hs hk15 (by simp)).trans ((hbl hd16).trans ((hs hk17 (by simp)).trans (hbl hd18))))
  have C18_22 : Chg [m77, m66, m65, m54, m53, m52, m51, m50, m49, m36, m35, m24, m23, m17, m16] w18 w22 := ((hs hk19 (by simp)).trans ((hbl hd20).trans ((hs hk21 (by simp)).trans (hbl hd22))))
  have C22_26 : Chg [m77, m66, m65, m54, m53, m52, m51, m50, m49, m36, m35, m24, m23, m17, m16] w22 w26 := ((hs hk23 (by simp)).trans ((hbl hd24).trans ((hs hk25 (by simp)).trans (hbl hd26))))
  have C26_30 : Chg [m77, m66, m65, m54, m53, m52, m51, m50, m49, m36, m35, m24, m23, m17, m16] w26 w30 := ((hs hk27 (by simp)).trans ((hbl hd28).trans ((hs hk29 (by simp)).trans (hbl hd30))))
  have D30 := D26.out C26_30 (by simp only [List.mem_cons, List.not_mem_nil, or_false, forall_eq_or_imp, forall_eq]; omega)
  have DC30 := (D22.out C22_26 (by simp only [List.mem_cons, List.not_mem_nil, or_false, forall_eq_or_imp, forall_eq]; omega)).out C26_30 (by simp only [List.mem_cons, List.not_mem_nil, or_false, forall_eq_or_imp, forall_eq]; omega)
  have DA30 := ((E18.out C18_22 (by simp only [List.mem_cons, List.not_mem_nil, or_false, forall_eq_or_imp, forall_eq]; omega)).out C22_26 (by simp only [List.mem_cons, List.not_mem_nil, or_false, forall_eq_or_imp, forall_eq]; omega)).out C26_30 (by simp only [List.mem_cons, List.not_mem_nil, or_false, forall_eq_or_imp, forall_eq]; omega)
  have DP30 := (((D14.out C14_18 (by simp only [List.mem_cons, List.not_mem_nil, or_false, forall_eq_or_imp, forall_eq]; omega)).out C18_22 (by simp only [List.mem_cons, List.not_mem_nil, or_false, forall_eq_or_imp, forall_eq]; omega)).out C22_26 (by simp only [List.mem_cons, List.not_mem_nil, or_false, forall_eq_or_imp, forall_eq]; omega)).out C26_30 (by simp only [List.mem_cons, List.not_mem_nil, or_false, forall_eq_or_imp, forall_eq]; omega)
  have DL30 := ((((D4.out C4_14 (by simp only [List.mem_cons, List.not_mem_nil, or_false, forall_eq_or_imp, forall_eq]; omega)).out C14_18 (by simp only [List.mem_cons, List.not_mem_nil, or_false, forall_eq_or_imp, forall_eq]; omega)).out C18_22 (by simp only [List.mem_cons, List.not_mem_nil, or_false, forall_eq_or_imp, forall_eq]; omega)).out C22_26 (by simp only [List.mem_cons, List.not_mem_nil, or_false, forall_eq_or_imp, forall_eq]; omega)).out C26_30 (by simp only [List.mem_cons, List.not_mem_nil, or_false, forall_eq_or_imp, forall_eq]; omega)
  refine ⟨fun ls w' => match ls with | [.bool t] => t = false ∧ Chg [m77, m66, m65, m54, m53, m52, m51, m50, m49, m36, m35, m24, m23, m17, m16] w30 w' | _ => False, ⟨fun h => absurd rfl h, fun _ => ⟨fun h => absurd rfl h, fun _ => ⟨fun h => absurd rfl h, fun _ => ⟨fun h => absurd rfl h, fun _ => ⟨fun h => absurd rfl h, fun _ => ⟨fun h => absurd rfl h, fun _ => ⟨fun h => absurd rfl h, fun _ => ⟨fun h => absurd rfl h, fun _ => ⟨fun h => absurd rfl h, fun _ => ⟨fun h => absurd rfl h, fun _ => ⟨fun h => absurd rfl h, fun _ => ⟨fun h => absurd rfl h, fun _ => fun w44 hb44 hk44 => ⟨rfl, hs hk44 (fun _ h => h)⟩⟩⟩⟩⟩⟩⟩⟩⟩⟩⟩⟩⟩, ?_⟩
  rintro t2 w45 hb45 ⟨rfl, c45⟩
  refine ⟨fun h => (by cases h), fun _ => ?_⟩
  have z45 := c45.size
  have D45 := D30.out c45 (by simp only [List.mem_cons, List.not_mem_nil, or_false, forall_eq_or_imp, forall_eq]; omega)
  have DC45 := DC30.out c45 (by simp only [List.mem_cons, List.not_mem_nil, or_false, forall_eq_or_imp, forall_eq]; omega)
  have DA45 := DA30.out c45 (by simp only [List.mem_cons, List.not_mem_nil, or_false, forall_eq_or_imp, forall_eq]; omega)
  have DP45 := DP30.out c45 (by simp only [List.mem_cons, List.not_mem_nil, or_false, forall_eq_or_imp, forall_eq]; omega)
  have DL45 := DL30.out c45 (by simp only [List.mem_cons, List.not_mem_nil, or_false, forall_eq_or_imp, forall_eq]; omega)
  obtain ⟨b1, p1, rfl, ⟨_, l1, h1⟩, q1⟩ := DL45 0 _ rfl
  refine ⟨b1, p1, rfl, ⟨by omega, by decide⟩, 0, 1006, 990, cell_at' q1 (by simp), cell_at' (DL45.at (i := 1) rfl).2 (by simp), cell_at' (DL45.at (i := 2) rfl).2 (by simp), .inr ⟨by omega, by omega, by omega, by omega, by omega, by omega, by omega, by omega, by omega, by omega, by omega, by omega, by omega, by omega, by omega⟩, fun w47 hb47 hk47 => eqlr_gap ⟨true, rfl, .all (.refl _ _), fun _ => ?_, fun h => (by cases h)⟩⟩
  intro w49 hb49 hk49
  refine Pure.calls (span_any _ _) fun w50 hd50 => ⟨_, _, rfl, .all hd50, fun w51 hb51 hk51 => eqlr_span ⟨true, rfl, .all (.refl _ _), fun _ => ?_, fun h => (by cases h)⟩⟩
  intro w53 hb53 hk53
  refine Pure.calls (span_any _ _) fun w54 hd54 => ⟨_, _, rfl, .all hd54, fun w55 hb55 hk55 => eqlr_span ⟨true, rfl, .all (.refl _ _), fun _ => ?_, fun h => (by cases h)⟩⟩
  have c55 : Chg [m77, m66, m65, m54, m53, m52, m51, m50, m49, m36, m35, m24, m23, m17, m16] w45 w55 := hk47.chg.trans (hk49.chg.trans ((hbl hd50).trans (hk51.chg.trans (hk53.chg.trans ((hbl hd54).trans hk55.chg)))))
  have D55 := D45.out c55 (by simp only [List.mem_cons, List.not_mem_nil, or_false, forall_eq_or_imp, forall_eq]; omega)
  have DC55 := DC45.out c55 (by simp only [List.mem_cons, List.not_mem_nil, or_false, forall_eq_or_imp, forall_eq]; omega)
  have DA55 := DA45.out c55 (by simp only [List.mem_cons, List.not_mem_nil, or_false, forall_eq_or_imp, forall_eq]; omega)
  have DP55 := DP45.out c55 (by simp only [List.mem_cons, List.not_mem_nil, or_false, forall_eq_or_imp, forall_eq]; omega)
  obtain ⟨b2, p2, rfl, ⟨_, l2, h2⟩, q2⟩ := DP55 0 _ rfl
  refine ⟨b2, p2, rfl, ⟨by omega, by decide⟩, 0, 2, cell_at' q2 (by simp), cell_at' (DP55.at (i := 1) rfl).2 (by simp), .inr ⟨by omega, by omega, by omega, by omega, by omega, by omega, by omega, by omega, by omega, by omega, by omega, by omega, by omega, by omega, by omega⟩, fun w57 hb57 hk57 => ⟨.bool true, w57, by kernel_rfl, true, rfl, .all (.refl _ _), fun _ => ?_, fun h => (by cases h)⟩⟩
  have DP57 := DP55.out hk57.chg (by simp only [List.mem_cons, List.not_mem_nil, or_false, forall_eq_or_imp, forall_eq]; omega)
  refine ⟨b2, p2, rfl, ⟨by omega, by decide⟩, 2, 1, cell_at' (DP57.at (i := 4) rfl).2 (by simp), cell_at' (DP57.at (i := 5) rfl).2 (by simp), .inr ⟨by omega, by omega, by omega, by omega, by omega, by omega, by omega, by omega, by omega, by omega, by omega, by omega, by omega, by omega, by omega⟩, fun w59 hb59 hk59 => ⟨.bool true, w59, by kernel_rfl, true, rfl, .all (.refl _ _), fun _ => ?_, fun h => (by cases h)⟩⟩
  have D59 := (D55.out hk57.chg (by simp only [List.mem_cons, List.not_mem_nil, or_false, forall_eq_or_imp, forall_eq]; omega)).out hk59.chg (by simp only [List.mem_cons, List.not_mem_nil, or_false, forall_eq_or_imp, forall_eq]; omega)
  have DC59 := (DC55.out hk57.chg (by simp only [List.mem_cons, List.not_mem_nil, or_false, forall_eq_or_imp, forall_eq]; omega)).out hk59.chg (by simp only [List.mem_cons, List.not_mem_nil, or_false, forall_eq_or_imp, forall_eq]; omega)
  have DA59 := (DA55.out hk57.chg (by simp only [List.mem_cons, List.not_mem_nil, or_false, forall_eq_or_imp, forall_eq]; omega)).out hk59.chg (by simp only [List.mem_cons, List.not_mem_nil, or_false, forall_eq_or_imp, forall_eq]; omega)
  obtain ⟨b3, p3, rfl, ⟨_, l3, h3⟩, q3⟩ := DA59 0 _ rfl
  obtain ⟨b4, p4, rfl, ⟨_, l4, h4⟩, q4⟩ := DC59 0 _ rfl
  obtain ⟨b5, p5, rfl, ⟨_, l5, h5⟩, q5⟩ := D59 0 _ rfl
  refine ⟨b3, p3, rfl, ⟨by omega, by decide⟩, 2, cell_at' (DA59.at (i := 1) rfl).2 (by simp), .inr ⟨by omega, by omega, by omega, by omega, by omega, by omega, by omega, by omega, by omega, by omega, by omega, by omega, by omega, by omega, by omega⟩, fun _ => ?_, fun h => absurd rfl h⟩
  refine ⟨b4, p4, rfl, ⟨by omega, by decide⟩, 1, cell_at' q4 (by simp), .inr ⟨by omega, by omega, by omega, by omega, by omega, by omega, by omega, by omega, by omega, by omega, by omega, by omega, by omega, by omega, by omega⟩, fun _ => ?_, fun h => absurd rfl h⟩
  refine ⟨b5, p5, rfl, ⟨by omega, by decide⟩, 20, cell_at' q5 (by simp), .inr ⟨by omega, by omega, by omega, by omega, by omega, by omega, by omega, by omega, by omega, by omega, by omega, by omega, by omega, by omega, by omega⟩, fun _ => ?_, fun h => absurd rfl h⟩
  refine ⟨b5, p5, rfl, ⟨by omega, by decide⟩, 10, cell_at' (D59.at (i := 1) rfl).2 (by simp), .inr ⟨by omega, by omega, by omega, by omega, by omega, by omega, by omega, by omega, by omega, by omega, by omega, by omega, by omega, by omega, by omega⟩, fun _ w61 hb61 _ => ⟨rfl, hb61⟩, fun h => absurd rfl h⟩
end Go.Proofs.R12
end
section
/- The conditions of the functions, printed by program; each is what the generator reckons (kernel_rfl). -/
namespace Go.Proofs
open Go.Vc
end Go.Proofs
end
section
/- The law PartSpares, walked. -/
namespace Go.Proofs.R12
open Go.Vc Go.RowKit Go.Proofs
end Go.Proofs.R12
end
section
/- The laws' arguments, opened. -/
namespace Go.Proofs.R12
open Go.Vc Go.RowKit Go.Proofs

theorem Try.own : ownKnob Try.prog.godebug = none := by kernel_rfl
theorem Try.laidOut : laidOutB Try.prog = true := by kernel_rfl
abbrev Li : Leaf := .int .i64
def In64 (x : Int) : Prop := rng .i64 x
section
variable {w : World}
end
section
variable {w : World} {H : Type} {enc : TypeId × Value → H} {base b0 : Nat} {held : Bool} {spare : Nat → Bool} {reach : Reach}
end
end Go.Proofs.R12
end
section
/- The laws PartLooses and PartGauges, walked. -/
namespace Go.Proofs.R12
open Go.Vc Go.RowKit Go.Proofs
theorem LiesS.out {lo hi : Nat} {w w' : World} {a : Option Addr} {ps : List (List Sp)} {S : List Nat} (h : LiesS lo hi w a ps) (hc : Chg S w w') (hs : ∀ x ∈ S, x < lo ∨ hi ≤ x) : LiesS lo hi w' a ps := fun i p hi => by
  obtain ⟨b, o, a', c, e, hb, h1, h2⟩ := h i p hi
  exact ⟨b, o, a', c, e, hb, hc.cell (fun hm => by have := hs b hm; omega) h1, h2.out hc hs⟩
theorem LiesS.ko {lo hi : Nat} {w w' : World} {a : Option Addr} {ps : List (List Sp)} {bs : List Nat} (h : LiesS lo hi w a ps) (hk : Kept bs w w') (hs : ∀ x ∈ bs, x < lo ∨ hi ≤ x) : LiesS lo hi w' a ps := h.out (Chg.kept hk) hs
theorem LiesS.below {lo hi : Nat} {w w' : World} {a : Option Addr} {ps : List (List Sp)} (h : LiesS lo hi w a ps) (hb : Below w.heap.size w w') : LiesS lo hi w' a ps := h.out (S := []) (Chg.of_below hb) (by simp)
theorem kio_cell {lo hi b o : Nat} {w w' : World} {rs : List (Nat × Nat)} {bs : List Nat} {v : Value} (hk : KeptIn rs bs w w') (hs : ∀ x ∈ bs, x < lo ∨ hi ≤ x) (hin : ∃ r ∈ rs, r.1 ≤ lo ∧ hi ≤ r.2) (hb : lo ≤ b ∧ b < hi) (hc : w.cell? ⟨b, o, none⟩ = some v) : w'.cell? ⟨b, o, none⟩ = some v := by
  obtain ⟨r, hr1, hr2, hr3⟩ := hin
  have := hk.block b (cell_lt hc) (fun hm => by have := hs b hm; omega) ⟨r, hr1, by omega, by omega⟩
  unfold World.cell? at hc ⊢
  simp only [this]; exact hc
theorem LiesS.kio {lo hi : Nat} {w w' : World} {a : Option Addr} {ps : List (List Sp)} {rs : List (Nat × Nat)} {bs : List Nat} (h : LiesS lo hi w a ps) (hk : KeptIn rs bs w w') (hs : ∀ x ∈ bs, x < lo ∨ hi ≤ x) (hin : ∃ r ∈ rs, r.1 ≤ lo ∧ hi ≤ r.2) : LiesS lo hi w' a ps := fun i p hi => by
  obtain ⟨b, o, a', c, e, hb, h1, h2⟩ := h i p hi
  exact ⟨b, o, a', c, e, hb, kio_cell hk hs hin hb h1, h2.kio hk hs hin⟩
end Go.Proofs.R12
end
section
/- Enough spares: the plain law. -/
namespace Go.Proofs.R12
open Go.Vc Go.RowKit Go.Proofs

/-- Replacements of one clock before a year. -/
def qT (lo frm Y : Int) : Int := max 0 ((Y - 1 - frm).tdiv lo)
/-- What was used before a year. -/
def cum (U : List Int) (Y : Int) : Int := (U.take Y.toNat).sum
/-- Contracts as the law makes them. -/
structure ConOk (lo : Int) (x : Con) : Prop where
  c : 0 ≤ x.clocks ∧ x.clocks ≤ 5
  f : lo ≤ x.frm ∧ x.frm ≤ x.to
  t : x.to ≤ 200
section
variable {lo : Int} {l : List Con} (hl : 1 ≤ lo) (hc : ∀ x ∈ l, ConOk lo x)
include hl hc
end
/-- Orders as the law makes them. -/
structure OrdOk (lo : Int) (o : List Int) : Prop where
  n : 0 < o.length ∧ o.length ≤ 6
  inc : ∀ j : Nat, j < o.length → 0 < j → o.getD (j - 1) 0 < o.getD j 0
  bd : ∀ y ∈ o, 0 ≤ y ∧ y ≤ 200
  fst : o.getD 0 0 < 2 * lo
def nextO (o : List Int) (j : Nat) : Int := (nexts o).getD j 0
section
variable {lo hi : Int} {l : List Con} {o : List Int}
/-- What one truth uses: no more than is said, and just as much if all lives are short. -/
structure Uses (tr : Int) (U : List Int) (B : Int → Int) : Prop where
  n : U.length = 201
  p : ∀ x ∈ U, 0 ≤ x
  le : ∀ Y, 0 ≤ Y → Y ≤ 201 → cum U Y ≤ B Y
  eq : tr = 1 → ∀ Y, 0 ≤ Y → Y ≤ 201 → cum U Y = B Y
/-- A clock's k replacements: the last one in year y. -/
structure Clock (tr lo frm to k y : Int) : Prop where
  kn : 0 ≤ k
  yl : frm + k * lo ≤ y
  ye : tr = 1 → y = frm + k * lo
  yt : k = 0 ∨ y < to
def kq (lo frm k Y : Int) : Int := min k (qT lo frm Y)
/-- The office's stock at the beginning of a year. -/
structure Stock (lo : Int) (l : List Con) (o : List Int) (tr : Int) (U Lm : List Int) (st ord y : Int) : Prop where
  ob : 0 ≤ ord ∧ ord ≤ o.length
  past : ∀ j : Nat, (j : Int) < ord → o.getD j 0 < y
  next : ord < o.length → y ≤ o.getD ord.toNat 0
  se : st = bought lo l o ord.toNat - cum U y
  ln : Lm.length = o.length
  lm : ∀ j : Nat, j < o.length → nextO o j ≤ y → Lm.getD j 0 = bought lo l o (j + 1) - cum U (nextO o j)
/-- .. and after its orders. -/
structure Stock2 (lo : Int) (l : List Con) (o : List Int) (U Lm : List Int) (st ord y : Int) : Prop where
  ob : 0 ≤ ord ∧ ord ≤ o.length
  past : ∀ j : Nat, (j : Int) < ord → o.getD j 0 ≤ y
  next : ord < o.length → y < o.getD ord.toNat 0
  se : st = bought lo l o ord.toNat - cum U y
  ln : Lm.length = o.length
  lm : ∀ j : Nat, j < o.length → nextO o j ≤ y → Lm.getD j 0 = bought lo l o (j + 1) - cum U (nextO o j)
end
end Go.Proofs.R12
end
section
/- The conditions of the functions, printed by program; each is what the generator reckons (kernel_rfl). -/
namespace Go.Proofs
open Go.Vc
end Go.Proofs
end
section
/- The law PartEnough, walked. -/
namespace Go.Proofs.R12
open Go.Vc Go.RowKit Go.Proofs
def u8s (l : List Int) : List Value := l.map (Value.int .u8)
def byteM (l : List Int) (i : Int) : Int := if l.length = 0 then 0 else l.getD (i.tmod l.length).toNat 0
theorem tmod_bd {a b : Int} (h : 0 ≤ a) (hb : 0 < b) : 0 ≤ a.tmod b ∧ a.tmod b < b := ⟨Int.tmod_nonneg _ h, Int.tmod_lt_of_pos _ hb⟩
def tripsV (l : List (Int × Int × Int)) : List Value := l.flatMap fun t => [.int .u8 t.1, .int .u8 t.2.1, .int .u8 t.2.2]
/-- Since a world: nothing but some blocks of what was there has turned. -/
structure SinceL (T : List Nat) (u w : World) : Prop where
  h : Chg T u w
section
variable {T : List Nat} {u w w' : World}
theorem SinceL.step {S : List Nat} (h : SinceL T u w) (hc : Chg S w w') (hs : ∀ x ∈ S, x ∈ T ∨ u.heap.size ≤ x) : SinceL T u w' := by
  have h2 : Chg (T ++ S) u w' := (h.h.mono (T := T ++ S) fun x hx => .inl (List.mem_append_left _ hx)).trans (hc.mono fun x hx => .inl (List.mem_append_right _ hx))
  exact ⟨h2.mono fun x hx => by
    rcases List.mem_append.1 hx with hx | hx
    · exact .inl hx
    · exact hs x hx⟩
theorem SinceL.ko {bs : List Nat} (h : SinceL T u w) (hk : Kept bs w w') (hs : ∀ x ∈ bs, x ∈ T ∨ u.heap.size ≤ x) : SinceL T u w' := h.step (Chg.kept hk) hs
theorem SinceL.below (h : SinceL T u w) (hb : Below w.heap.size w w') : SinceL T u w' := h.step (S := []) (Chg.of_below hb) (by simp)
theorem SinceL.refl : SinceL T u u := ⟨⟨rfl, rfl, rfl, Nat.le_refl _, fun _ _ _ => rfl⟩⟩
end
/-- Integers in a block of their own. -/
structure IntsAt (b n : Nat) (l : List Int) (w : World) : Prop where
  h : w.heap[b]? = some (.cells (ints l).toArray 3 (0, 0))
  len : l.length = n
section
variable {b n : Nat} {l : List Int} {w w' : World}
end
/-- The orders that are made so far. -/
structure OrdI (lo : Int) (o : List Int) (ii yr : Int) : Prop where
  n : (o.length : Int) ≤ ii
  e : ii = 0 → o.length = 0
  inc : ∀ j : Nat, j < o.length → 0 < j → o.getD (j - 1) 0 < o.getD j 0
  bd : ∀ y ∈ o, 0 ≤ y ∧ y ≤ yr
  yr : 0 ≤ yr ∧ yr ≤ 30 + 20 * ii
  fst : 0 < ii → 0 < o.length ∧ o.getD 0 0 < 2 * lo
theorem span_any2 {w : World} (a b : Int) : Calls Try.prog 42 #[I a, I b] w (Pure w (.agg #[I a, I b])) := span_any a b
abbrev Held11 (B b9 B2 b20 b44 b45 : Nat) (a1 a3 a8 : Option Addr) (l : List Con) (o n : List Int) (w : World) : Prop := (Lies [] B b9 w a1 (consV l) ∧ Lies [] B2 b20 w a3 (ints o) ∧ Lies [] b44 b45 w a8 (ints n)) ∧ b45 ≤ w.heap.size
end Go.Proofs.R12
end
section
/- The law PartEnough, walked. -/
namespace Go.Proofs.R12
open Go.Vc Go.RowKit Go.Proofs
end Go.Proofs.R12
end
section
/- The argument of PartEnough, opened. -/
namespace Go.Proofs.R12
open Go.Vc Go.RowKit Go.Proofs
abbrev Lu : Leaf := .int .u8
section
variable {w : World}
theorem take_u8 {ls : List Leaf} {cs : List Value} (h : LeavesAre w (Lu :: ls) cs) : ∃ x r, cs = Value.int .u8 x :: r ∧ (0 ≤ x ∧ x ≤ 255) ∧ LeavesAre w ls r := by
  obtain ⟨v, r, rfl, h1, h2⟩ := h.cons'
  obtain ⟨x, rfl, hx⟩ := h1.int'
  exact ⟨x, r, rfl, by simpa [rng, IntKind.min, IntKind.max] using hx, h2⟩
theorem take_u8s {v : Value} (h : LeafIs w (.sl [Lu]) v) : ∃ a c, ∃ l : List Int, v = .slice a l.length c ∧ (∀ x ∈ l, 0 ≤ x ∧ x ≤ 255) ∧ Cells w a (u8s l) := by
  obtain ⟨a, c, l, rfl, h1, h2, h3, h4⟩ := h.sl' (fun b : Int => [Value.int .u8 b]) (fun x => 0 ≤ x ∧ x ≤ 255) fun x hx => by
    obtain ⟨x0, r, rfl, g0, hx⟩ := take_u8 hx
    rw [hx.nil']
    exact ⟨x0, rfl, g0⟩
  refine ⟨a, c, l, rfl, h4, ?_⟩
  have e : (l.flatMap fun b : Int => [Value.int .u8 b]) = u8s l := by
    clear h h1 h2 h3 h4
    induction l with
    | nil => rfl
    | cons b l ih => rw [List.flatMap_cons, ih]; rfl
  rw [← e]; exact h3
end
section
variable {w : World} {H : Type} {enc : TypeId × Value → H} {base b0 : Nat} {held : Bool} {spare : Nat → Bool} {reach : Reach}
end
end Go.Proofs.R12
end
section
/- Works out of bytes: what is made, and the lemmas of its walk. -/
namespace Go.Proofs.R12
open Go.Vc Go.RowKit Go.Proofs
section
variable {α : Type} {N : Nest α} {B n c : Nat} {own : List Nat} {a : Option Addr} {ps : List α} {qs : List (Option Addr × α)} {u w w' : World}
/-- A new row that lies behind what was there; some own variables have turned. -/
theorem nsub2 {S : List Nat} {lo hi : Nat} (h : NRow N B own a n c ps qs u) (hc : Chg S u w) (hs : ∀ x ∈ S, x ∈ own) {a' : Option Addr} {x : α} (hx : Lies [] lo hi w a' (N.sub x)) (hB : B ≤ u.heap.size) (hlo : u.heap.size ≤ lo) (hhi : hi ≤ w.heap.size) (ho : ∀ y ∈ own, y < lo ∨ hi ≤ y) : NRow N B own a n c ps ((a', x) :: qs) w := by
  obtain ⟨xs, bs, h1, h2, h3, h4, h5, h6⟩ := h
  have hz := hc.size
  have hd : ∀ x ∈ bs, x ∉ S := fun x hx hm => (h3 x hx).2.2 (hs x hm)
  have hS : ∀ x ∈ S, x ∈ own ++ bs := fun x hx => List.mem_append_left _ (hs x hx)
  by_cases hne : N.sub x = []
  · refine ⟨xs, bs, h1, h2, fun b hb => ⟨(h3 b hb).1, Nat.lt_of_lt_of_le (h3 b hb).2.1 hz, (h3 b hb).2.2⟩, h4.chg hc hS, fun y hy => (h5 y hy).chg hc hd, fun q hq => ?_⟩
    rcases List.mem_cons.1 hq with rfl | hq
    · intro i v hi
      simp [hne] at hi
    · exact (h6 q hq).chg hc hd
  · obtain ⟨v0, hv0⟩ : ∃ v, (N.sub x)[0]? = some v := by cases hh : N.sub x with | nil => exact absurd hh hne | cons y r => exact ⟨y, rfl⟩
    obtain ⟨b0, o0, e0, ⟨_, g1, g2⟩, _⟩ := hx 0 v0 hv0
    have hrow := (h4.grow (ms := [b0]) (fun m hm => by rw [List.mem_singleton.1 hm]; omega)).chg hc (fun x hx => List.mem_append_right _ (hS x hx))
    refine ⟨xs, b0 :: bs, h1, h2, fun b hb' => ?_, hrow.less fun y hy => ?_, fun y hy => ((h5 y hy).chg hc hd).mono fun z hz => List.mem_cons_of_mem _ hz, fun q hq => ?_⟩
    · rcases List.mem_cons.1 hb' with rfl | hb'
      · exact ⟨by omega, by omega, fun hm => by have := ho _ hm; omega⟩
      · exact ⟨(h3 b hb').1, Nat.lt_of_lt_of_le (h3 b hb').2.1 hz, (h3 b hb').2.2⟩
    · simp only [List.mem_append, List.mem_cons] at hy ⊢
      rcases hy with hy | rfl | hy
      · exact .inr (.inl hy)
      · exact .inl (.inl rfl)
      · exact .inr (.inr hy)
    · rcases List.mem_cons.1 hq with rfl | hq
      · intro i v hi
        obtain ⟨b, o, e, ⟨_, _, _⟩, hcell⟩ := hx i v hi
        refine ⟨b, o, e, ?_, hcell⟩
        rw [e0] at e
        simp only [Option.some.injEq, Addr.mk.injEq, and_true] at e
        rw [← e.1]; exact List.mem_cons_self
      · exact ((h6 q hq).chg hc hd).mono fun z hz => List.mem_cons_of_mem _ hz
end
def quadsV (l : List (Int × Int × Int × Int)) : List Value := l.flatMap fun t => [.int .u8 t.1, .int .u8 t.2.1, .int .u8 t.2.2.1, .int .u8 t.2.2.2]
theorem quads_get {l : List (Int × Int × Int × Int)} {i : Nat} {s : Int × Int × Int × Int} (h : l[i]? = some s) (j : Nat) (hj : j < 4) : (quadsV l)[i * 4 + j]? = [Value.int .u8 s.1, .int .u8 s.2.1, .int .u8 s.2.2.1, .int .u8 s.2.2.2][j]? := flat_get (k := 4) (f := fun t : Int × Int × Int × Int => [Value.int .u8 t.1, .int .u8 t.2.1, .int .u8 t.2.2.1, .int .u8 t.2.2.2]) (fun _ => rfl) h hj
abbrev Q0 : Int × Int × Int × Int := (0, 0, 0, 0)
theorem load_quad {w wj : World} {a : Option Addr} {l : List (Int × Int × Int × Int)} {i : Int} {X : Nat → Nat → Int → Int → Int → Int → Prop} (h : Cells w a (quadsV l)) (hb : Below w.heap.size w wj) (hi0 : 0 ≤ i ∧ i < (l.length : Int)) (k : ∀ m o, m < w.heap.size → X m o (l.getD i.toNat Q0).1 (l.getD i.toNat Q0).2.1 (l.getD i.toNat Q0).2.2.1 (l.getD i.toNat Q0).2.2.2) : ∃ m o, a = some ⟨m, o, none⟩ ∧ (0 ≤ i ∧ i < (l.length : Int)) ∧ ∃ x0 x1 x2 x3 : Int, wj.cell? ⟨m, o + i.toNat * 4, none⟩ = some (.int .u8 x0) ∧ wj.cell? ⟨m, o + i.toNat * 4 + 1, none⟩ = some (.int .u8 x1) ∧ wj.cell? ⟨m, o + i.toNat * 4 + 1 + 1, none⟩ = some (.int .u8 x2) ∧ wj.cell? ⟨m, o + i.toNat * 4 + 1 + 1 + 1, none⟩ = some (.int .u8 x3) ∧ X m o x0 x1 x2 x3 := by
  have hi : i.toNat < l.length := by omega
  have hg : l.getD i.toNat Q0 = l[i.toNat] := by simp [List.getD_eq_getElem?_getD, getElem_of_lt hi]
  obtain ⟨b0, o0, e0, d0⟩ := h (i.toNat * 4 + 0) _ (quads_get (getElem_of_lt hi) 0 (by omega))
  obtain ⟨b1, o1, e1, d1⟩ := h (i.toNat * 4 + 1) _ (quads_get (getElem_of_lt hi) 1 (by omega))
  obtain ⟨rfl, rfl⟩ : b0 = b1 ∧ o0 = o1 := by rw [e0] at e1; simpa using e1
  obtain ⟨b2, o2, e2, d2⟩ := h (i.toNat * 4 + 2) _ (quads_get (getElem_of_lt hi) 2 (by omega))
  obtain ⟨rfl, rfl⟩ : b0 = b2 ∧ o0 = o2 := by rw [e0] at e2; simpa using e2
  obtain ⟨b3, o3, e3, d3⟩ := h (i.toNat * 4 + 3) _ (quads_get (getElem_of_lt hi) 3 (by omega))
  obtain ⟨rfl, rfl⟩ : b0 = b3 ∧ o0 = o3 := by rw [e0] at e3; simpa using e3
  exact ⟨b0, o0, e0, hi0, _, _, _, _, cell_at' (cell_keep hb d0) (by omega), cell_at' (cell_keep hb d1) (by omega), cell_at' (cell_keep hb d2) (by omega), cell_at' (cell_keep hb d3) (by omega), by have := k b0 o0 (cell_lt d0); rw [hg] at this; exact this⟩
def ByteQ (t : Int × Int × Int × Int) : Prop := (0 ≤ t.1 ∧ t.1 ≤ 255) ∧ (0 ≤ t.2.1 ∧ t.2.1 ≤ 255) ∧ (0 ≤ t.2.2.1 ∧ t.2.2.1 ≤ 255) ∧ 0 ≤ t.2.2.2 ∧ t.2.2.2 ≤ 255
theorem quad_bd {T : List (Int × Int × Int × Int)} (hT : ∀ t ∈ T, ByteQ t) (i : Nat) : ByteQ (T.getD i Q0) := by
  rcases getD_mem (l := T) (i := i) (d := Q0) with e | e
  · rw [e]; unfold ByteQ; simp
  · exact hT _ e
theorem lies_lit {w : World} {b : Nat} {x y : Int} {t : TypeId} (h : w.heap[b]? = some (.cells #[I x, I y] t)) : Lies [] b (b + 1) w (some ⟨b, 0, none⟩) (spansV [(x, y)]) := fun i v hi => by
  obtain ⟨b', o, e, hc⟩ := Cells.obj (vs := [I x, I y]) h i v hi
  simp only [Option.some.injEq, Addr.mk.injEq, and_true] at e
  obtain ⟨rfl, rfl⟩ := e
  exact ⟨_, _, rfl, ⟨by simp, Nat.le_refl _, Nat.lt_succ_self _⟩, hc⟩
theorem nappend2 {α : Type} {N : Nest α} {B n c : Nat} {own : List Nat} {a : Option Addr} {ps : List α} {qs : List (Option Addr × α)} {w : World} {P : Program} {t ty : TypeId} {bytes : Nat} {a' : Option Addr} {x : α} (hE : elemB P t N.e N.size bytes = true) (h : NRow N B own a n c ps ((a', x) :: qs) w) {b o cc k : Nat} (hc : Cells w (some ⟨b, o, none⟩) (N.cells a' k x)) (h1 : ∀ u ∈ N.cells a' k x, u.oneCell' = true) (hne : N.sub x ≠ [])
    (hn1 : n + 1 ≤ 140737488355328) (hn : (n + 1) * bytes ≤ 140737488355328) (hB : B ≤ w.heap.size) (ho : ∀ y ∈ own, y < w.heap.size) {R : Value → World → Prop}
    (hR : ∀ a2 c2 w', NRow N B own a2 (n + 1) c2 (ps ++ [x]) qs w' → ∀ S, Chg S w w' → (∀ s ∈ S, B ≤ s ∧ s ∉ own) → (∀ s ∈ S, ∀ o, a' ≠ some ⟨s, o, none⟩) → R (.slice a2 (n + 1) c2) w') :
    RunsTo P (Builtin.append_ #[t, t] ty #[.slice a n c, .slice (some ⟨b, o, none⟩) 1 cc]) w R := by
  obtain ⟨xs, bs, g1, g2, g3, g4, g5, g6⟩ := h
  refine append_rowE hE N.pos g4 (m := 1) hc (by rw [N.len]; omega) h1 hn1 hn hB (fun y hy => by
    rcases List.mem_append.1 hy with hy | hy
    · exact ho y hy
    · exact (g3 y hy).2.1) (by omega) fun a2 c2 w' hrow S cS hS => ?_
  refine hR a2 c2 w' ⟨xs ++ [((a', k), x)], bs, by simp [g1], by simp [g2], fun b hb => ⟨(g3 b hb).1, Nat.lt_of_lt_of_le (g3 b hb).2.1 cS.size, (g3 b hb).2.2⟩, ?_, fun y hy => ?_, fun q hq => (g6 q (List.mem_cons_of_mem _ hq)).chg cS ?_⟩ S cS (fun s hs => ⟨(hS s hs).1, fun hm => (hS s hs).2 (List.mem_append_left _ hm)⟩) fun s hs o' e => ?_
  · right; simpa [rowOf] using hrow
  · have hd : ∀ z ∈ bs, z ∉ S := fun z hz hm => (hS z hm).2 (List.mem_append_right _ hz)
    rcases List.mem_append.1 hy with hy | hy
    · exact (g5 y hy).chg cS hd
    · rw [List.mem_singleton.1 hy]
      exact (g6 (a', x) List.mem_cons_self).chg cS hd
  · exact fun z hz hm => (hS z hm).2 (List.mem_append_right _ hz)
  · obtain ⟨v0, hv0⟩ : ∃ v, (N.sub x)[0]? = some v := by cases hh : N.sub x with | nil => exact absurd hh hne | cons y r => exact ⟨y, rfl⟩
    obtain ⟨b0, o0, e0, hb0, _⟩ := g6 (a', x) List.mem_cons_self 0 v0 hv0
    rw [e] at e0
    simp only [Option.some.injEq, Addr.mk.injEq, and_true] at e0
    exact (hS s hs).2 (List.mem_append_right _ (by rw [e0.1]; exact hb0))
theorem chg_less {S T : List Nat} {w w' : World} (h : Chg S w w') (hs : ∀ x ∈ S, x ∈ T ∨ w'.heap[x]? = w.heap[x]?) : Chg T w w' := ⟨h.os, h.tape, h.output, h.size, fun k hk hn => by
  by_cases hm : k ∈ S
  · exact (hs k hm).resolve_left hn
  · exact h.keep k hk hm⟩
/-- Two literals, one behind the other. -/
theorem append_two {w : World} {b1 b2 : Nat} {x y u v : Int} {t1 t2 : TypeId} {R : Value → World → Prop} (h1 : w.heap[b1]? = some (.cells #[I x, I y] t1)) (h2 : w.heap[b2]? = some (.cells #[I u, I v] t2)) (hR : ∀ a c w', Below w.heap.size w w' → Lies [] w.heap.size w'.heap.size w' a (spansV [(x, y), (u, v)]) → R (.slice a 2 c) w') : RunsTo Try.prog (Builtin.append_ #[89, 89] 89 #[.slice (some ⟨b1, 0, none⟩) 1 1, .slice (some ⟨b2, 0, none⟩) 1 1]) w R := by
  obtain ⟨ht, i, z, hi, hz, hs, hby, hzs⟩ := elemB_spec (P := Try.prog) (t := 89) (e := 42) (size := 2) (bytes := 16) (by kernel_rfl)
  have hadd : ∀ b o j : Nat, (⟨b, o, none⟩ : Addr).add j = ⟨b, o + j, none⟩ := fun b o j => by unfold Addr.add; split <;> simp_all
  have c1 : Cells w (some ⟨b1, 0, none⟩) [I x, I y] := Cells.obj h1
  have c2 : Cells w (some ⟨b2, 0, none⟩) [I u, I v] := Cells.obj h2
  have hr := run_append_grow (P := Try.prog) w 89 89 42 i z ht hi hz ⟨b1, 0, none⟩ 1 1 [I x, I y] (by rw [hs]; rfl) (fun j q hq => by rw [hadd]; exact c1.at hq) ⟨b2, 0, none⟩ 1 1 [I u, I v] (by rw [hs]; rfl) (fun j q hq => by rw [hadd]; exact c2.at hq) (by omega) (by omega) (growslice_fits (by omega) (by rw [hby]; decide))
  refine ⟨_, _, hr, hR _ _ _ alloc_below (Lies.new (n := w.heap.size) (bs := []) (fun j q hj => ⟨w.heap.size, 0, rfl, ?_⟩) (.inr fun b o e => by simp only [Option.some.injEq, Addr.mk.injEq, and_true] at e; omega) (by simp))⟩
  have hlt := (List.getElem?_eq_some_iff.1 hj).1
  have hh : (w.drew.alloc (.cells ([I x, I y].toArray ++ [I u, I v].toArray ++ Builtin.zeroCells z.cells (grownCap w 2 1 42 - 2)) 42)).heap[w.heap.size]? = some (.cells ([I x, I y].toArray ++ [I u, I v].toArray ++ Builtin.zeroCells z.cells (grownCap w 2 1 42 - 2)) 42 (0, 0)) := heap_alloc_new w.drew _
  unfold World.cell?
  simp only [hh, Nat.zero_add]
  rw [Array.getElem?_append_left (by simpa [spansV] using hlt)]
  simpa [spansV] using hj
def OkP (p : List Sp) : Prop := (1 ≤ p.length ∧ p.length ≤ 2) ∧ ∀ s ∈ p, (500 ≤ s.1 ∧ s.1 ≤ 755) ∧ s.1 ≤ s.2 ∧ s.2 ≤ s.1 + 11
structure OkF (ps : List (List Sp)) (f : Fit) : Prop where
  ne : f.hole ≠ f.shaft
  h : (0 ≤ f.hole ∧ f.hole < ps.length) ∧ 0 ≤ f.hs ∧ f.hs < (ps.getD f.hole.toNat []).length
  s : (0 ≤ f.shaft ∧ f.shaft < ps.length) ∧ 0 ≤ f.ss ∧ f.ss < (ps.getD f.shaft.toNat []).length
  g : -300 ≤ f.gap.1 ∧ f.gap.1 ≤ f.gap.2 ∧ f.gap.2 ≤ 300
theorem okP_get {ps : List (List Sp)} (h : ∀ p ∈ ps, OkP p) {i : Int} (hi : 0 ≤ i ∧ i < ps.length) : OkP (ps.getD i.toNat []) := (all_getD (d := [])).1 h i.toNat (by omega)
theorem okP_span {p : List Sp} (h : OkP p) {i : Int} (hi : 0 ≤ i ∧ i < p.length) : (500 ≤ (p.getD i.toNat (0, 0)).1 ∧ (p.getD i.toNat (0, 0)).1 ≤ 755) ∧ (p.getD i.toNat (0, 0)).1 ≤ (p.getD i.toNat (0, 0)).2 ∧ (p.getD i.toNat (0, 0)).2 ≤ (p.getD i.toNat (0, 0)).1 + 11 := (all_getD (d := (0, 0))).1 h.2 i.toNat (by omega)
theorem shift_ne {x y n : Int} (hx : 0 ≤ x) (hy : 0 ≤ y) (hn : 2 ≤ n) : x.tmod n ≠ (x.tmod n + 1 + y.tmod (n - 1)).tmod n := by
  have h1 := tmod_bd hx (show 0 < n by omega)
  have h2 := tmod_bd hy (show 0 < n - 1 by omega)
  generalize x.tmod n = p at *
  generalize y.tmod (n - 1) = q at *
  rw [Int.tmod_eq_emod_of_nonneg (by omega)]
  by_cases h : p + 1 + q < n
  · rw [Int.emod_eq_of_lt (by omega) h]; omega
  · have e : (p + 1 + q) % n = p + 1 + q - n := by
      rw [← Int.sub_emod_right, Int.emod_eq_of_lt (by omega) (by omega)]
    rw [e]; omega
structure ShopW (W : Wk) : Prop where
  n : 2 ≤ W.pats.length ∧ W.pats.length ≤ 4
  p : ∀ p ∈ W.pats, OkP p
  m : 1 ≤ W.fits.length ∧ W.fits.length ≤ 4
  f : ∀ f ∈ W.fits, OkF W.pats f
theorem ShopW.small {W : Wk} (h : ShopW W) : Small W := ⟨by have := h.n; omega, by have := h.m; omega, fun p hp => by have := (h.p p hp).1; omega⟩
theorem ShopW.ok {W : Wk} (h : ShopW W) : OkW W := ⟨by have := h.n; omega, fun p hp => ⟨by have := (h.p p hp).1; omega, fun s hs => by have := (h.p p hp).2 s hs; unfold okS; omega⟩, by have := h.m; omega, fun f hf => by
  have := h.f f hf
  refine ⟨this.ne, ⟨this.h.1, this.h.2⟩, ⟨this.s.1, this.s.2⟩, ?_⟩
  have := this.g; unfold okS; omega⟩
theorem fitsV_append (l : List Fit) (f : Fit) : fitsV (l ++ [f]) = fitsV l ++ [I f.hole, I f.hs, I f.shaft, I f.ss, I f.gap.1, I f.gap.2] := by simp [fitsV, Fit.cells]
theorem LiesS.wide {lo hi lo' hi' : Nat} {w : World} {a : Option Addr} {ps : List (List Sp)} (h : LiesS lo hi w a ps) (h1 : lo' ≤ lo) (h2 : hi ≤ hi') : LiesS lo' hi' w a ps := fun i p hi => by
  obtain ⟨b, o, a', c, e, hb, hc, hl⟩ := h i p hi
  exact ⟨b, o, a', c, e, ⟨by omega, by omega⟩, hc, hl.to h1 h2⟩
end Go.Proofs.R12
end
section
/- A shop, and small rows of bytes, opened. -/
namespace Go.Proofs.R12
open Go.Vc Go.RowKit Go.Proofs
theorem leaves_shop : leaves Try.prog 7 84 = some [.sl [Lu, Lu, Lu, Lu], .sl [Lu, Lu, Lu, Lu]] := by kernel_rfl
theorem agg_shop : isAggB Try.prog 84 = true := by kernel_rfl
theorem leaves_u8s : leaves Try.prog 7 85 = some [.sl [Lu]] := by kernel_rfl
theorem agg_u8s : isAggB Try.prog 85 = false := by kernel_rfl
section
variable {w : World}
theorem take_quads {v : Value} (h : LeafIs w (.sl [Lu, Lu, Lu, Lu]) v) : ∃ a c, ∃ l : List (Int × Int × Int × Int), v = .slice a l.length c ∧ (∀ t ∈ l, ByteQ t) ∧ Cells w a (quadsV l) := by
  obtain ⟨a, c, l, rfl, h1, h2, h3, h4⟩ := h.sl' (fun t : Int × Int × Int × Int => [Value.int .u8 t.1, .int .u8 t.2.1, .int .u8 t.2.2.1, .int .u8 t.2.2.2]) ByteQ fun x hx => by
    obtain ⟨x0, r, rfl, g0, hx⟩ := take_u8 hx
    obtain ⟨x1, r, rfl, g1, hx⟩ := take_u8 hx
    obtain ⟨x2, r, rfl, g2, hx⟩ := take_u8 hx
    obtain ⟨x3, r, rfl, g3, hx⟩ := take_u8 hx
    rw [hx.nil']
    exact ⟨(x0, x1, x2, x3), rfl, g0, g1, g2, g3⟩
  exact ⟨a, c, l, rfl, h4, h3⟩
end
section
variable {w : World} {H : Type} {enc : TypeId × Value → H} {base b0 : Nat} {held : Bool} {spare : Nat → Bool} {reach : Reach}
set_option maxRecDepth 100000 in
theorem open_shop {v : Value} {d : DataW H} {ps : List MemPlace} (hv : Value.okWide Try.prog w reach b0 84 v) (hd : DataW.Trod enc Try.prog w base spare held 84 v d ps) : ∃ (T U : List (Int × Int × Int × Int)) (a0 a1 : Option Addr) (c0 c1 : Nat), v = .agg #[.slice a0 T.length c0, .slice a1 U.length c1] ∧ Cells w a0 (quadsV T) ∧ Cells w a1 (quadsV U) ∧ (∀ t ∈ T, ByteQ t) ∧ ∀ t ∈ U, ByteQ t := by
  obtain ⟨cs, rfl, h⟩ := open_agg agg_shop leaves_shop hv hd
  obtain ⟨v0, r, rfl, h0, h⟩ := h.cons'
  obtain ⟨v1, r, rfl, h1, h⟩ := h.cons'
  rw [h.nil']
  obtain ⟨a0, c0, T, rfl, q0, k0⟩ := take_quads h0
  obtain ⟨a1, c1, U, rfl, q1, k1⟩ := take_quads h1
  exact ⟨T, U, a0, a1, c0, c1, rfl, k0, k1, q0, q1⟩
set_option maxRecDepth 100000 in
theorem open_u8s {v : Value} {d : DataW H} {ps : List MemPlace} (hv : Value.okWide Try.prog w reach b0 85 v) (hd : DataW.Trod enc Try.prog w base spare held 85 v d ps) : ∃ a c, ∃ l : List Int, v = .slice a l.length c ∧ (∀ x ∈ l, 0 ≤ x ∧ x ≤ 255) ∧ Cells w a (u8s l) := take_u8s (open_one agg_u8s leaves_u8s hv hd)
end
end Go.Proofs.R12
end
section
/- A byte, opened. -/
namespace Go.Proofs.R12
open Go.Vc Go.RowKit Go.Proofs
section
variable {w : World} {H : Type} {enc : TypeId × Value → H} {base b0 : Nat} {held : Bool} {spare : Nat → Bool} {reach : Reach}
end
end Go.Proofs.R12
end
section
/- The conditions of the functions, printed by program; each is what the generator reckons (kernel_rfl). -/
namespace Go.Proofs
open Go.Vc
set_option maxRecDepth 100000 in
set_option maxHeartbeats 2000000 in
theorem vc40 (x0a : Option Addr) (x0n : Nat) (x0c : Nat) (x1a : Option Addr) (x1n : Nat) (x1c : Nat) (w : World) (R : Ending → World → Prop) (h : ∀ (m1 : Nat), w.heap.size ≤ m1 → ∀
    (m2 : Nat), w.heap.size ≤ m2 → ∀ (m3 : Nat), w.heap.size ≤ m3 → ∃ (F1 : List Lf → World → Prop), ∃ (F2 : List Lf → Nat), (∀ (w2 : World), RowKit.Below w.heap.size w w2 → Kept
    [m3, m2, m1] w w2 → F1 [Lf.int IntKind.i64 0, Lf.sl none 0 0, Lf.sl none 0 0] w2) ∧ ∀ (x1 : Int) (a1 : Option Addr) (m4 m5 : Nat) (a2 : Option Addr) (m6 m7 : Nat) (w3 : World),
    RowKit.Below w.heap.size w w3 → F1 [Lf.int IntKind.i64 x1, Lf.sl a1 m4 m5, Lf.sl a2 m6 m7] w3 → ∃ (F3 : List Lf → World → Prop), ((x1 < 2 → ∀ (w5 : World), RowKit.Below
    w.heap.size w w5 → Kept [m3, m2, m1] w3 w5 → F3 [Lf.bool true, Lf.sl a1 m4 m5, Lf.sl a2 m6 m7] w5) ∧ (2 ≤ x1 → (x1 < (↑x0n : Int) → ∀ (w6 : World), RowKit.Below w.heap.size w
    w6 → Kept [m3, m2, m1] w3 w6 → w6.heap[m1]? = some (Obj.cells #[Value.slice x0a x0n x0c, Value.slice x1a x1n x1c] 84) → F3 [Lf.bool (decide (x1 < 4)), Lf.sl a1 m4 m5, Lf.sl a2
    m6 m7] w6) ∧ ((↑x0n : Int) ≤ x1 → ∀ (w7 : World), RowKit.Below w.heap.size w w7 → Kept [m3, m2, m1] w3 w7 → w7.heap[m1]? = some (Obj.cells #[Value.slice x0a x0n x0c,
    Value.slice x1a x1n x1c] 84) → F3 [Lf.bool false, Lf.sl a1 m4 m5, Lf.sl a2 m6 m7] w7))) ∧ ∀ (t1 : Bool) (a3 : Option Addr) (m12 m13 : Nat) (a4 : Option Addr) (m14 m15 : Nat)
    (w8 : World), RowKit.Below w.heap.size w w8 → F3 [Lf.bool t1, Lf.sl a3 m12 m13, Lf.sl a4 m14 m15] w8 → (t1 = true → ∀ (m16 : Nat), w8.heap.size ≤ m16 → ∃ (F4 : List Lf → World
    → Prop), ((x1 < (↑x0n : Int) → ∃ (m17 : Nat), ∃ (m18 : Nat), x0a = some { block := m17, off := m18 } ∧ (0 ≤ x1 ∧ x1 < (↑x0n : Int)) ∧ ∃ (x3 : Int), ∃ (x4 : Int), ∃ (x5 : Int),
    ∃ (x6 : Int), w8.cell? { block := m17, off := m18 + x1.toNat * 4 } = some (Value.int IntKind.u8 x3) ∧ w8.cell? { block := m17, off := m18 + x1.toNat * 4 + 1 } = some (Value.int
    IntKind.u8 x4) ∧ w8.cell? { block := m17, off := m18 + x1.toNat * 4 + 1 + 1 } = some (Value.int IntKind.u8 x5) ∧ w8.cell?
    { block := m17, off := m18 + x1.toNat * 4 + 1 + 1 + 1 } = some (Value.int IntKind.u8 x6) ∧ (m17 < w.heap.size ∨ m17 ≠ m16 ∧ m17 ≠ m3 ∧ m17 ≠ m2 ∧ m17 ≠ m1) ∧ ∀ (w10 : World),
    RowKit.Below w.heap.size w w10 → Kept [m16, m3, m2, m1] w8 w10 → w10.heap[m1]? = some (Obj.cells #[Value.slice x0a x0n x0c, Value.slice x1a x1n x1c] 84) → F4 [Lf.sl a3 m12 m13,
    Lf.sl a4 m14 m15, Lf.int IntKind.u8 x3, Lf.int IntKind.u8 x4, Lf.int IntKind.u8 x5, Lf.int IntKind.u8 x6] w10) ∧ ((↑x0n : Int) ≤ x1 → ∀ (w11 : World), RowKit.Below w.heap.size
    w w11 → Kept [m16, m3, m2, m1] w8 w11 → F4 [Lf.sl a3 m12 m13, Lf.sl a4 m14 m15, Lf.int IntKind.u8 0, Lf.int IntKind.u8 0, Lf.int IntKind.u8 0, Lf.int IntKind.u8 0] w11)) ∧ ∀
    (a5 : Option Addr) (m20 m21 : Nat) (a6 : Option Addr) (m22 m23 : Nat) (x7 x8 x9 x10 : Int) (w12 : World), RowKit.Below w.heap.size w w12 → F4 [Lf.sl a5 m20 m21, Lf.sl a6 m22
    m23, Lf.int IntKind.u8 x7, Lf.int IntKind.u8 x8, Lf.int IntKind.u8 x9, Lf.int IntKind.u8 x10] w12 → (-9223372036854775808 ≤ x7 ∧ x7 ≤ 9223372036854775807) ∧
    ((-9223372036854775808 : Int) ≤ 500 + x7 ∧ 500 + x7 ≤ 9223372036854775807) ∧ (-9223372036854775808 ≤ x7 ∧ x7 ≤ 9223372036854775807) ∧ ((-9223372036854775808 : Int) ≤ 500 + x7 ∧
    500 + x7 ≤ 9223372036854775807) ∧ (-9223372036854775808 ≤ x8 ∧ x8 ≤ 9223372036854775807) ∧ (12 : Int) ≠ 0 ∧ ((-9223372036854775808 : Int) ≤ 500 + x7 + x8.tmod 12 ∧ 500 + x7 +
    x8.tmod (12 : Int) ≤ 9223372036854775807) ∧ ∀ (w13 : World), RowKit.Below w.heap.size w w13 → Kept [m16, m3, m2, m1] w12 w13 → Calls Try.prog 42 #[Value.int IntKind.i64 (500 +
    x7), Value.int IntKind.i64 (500 + x7 + x8.tmod 12)] w13 fun (e1 : Ending) (w14 : World) => ∃ (x11 : Int), ∃ (x12 : Int), e1 = Ending.returned (Value.agg #[Value.int IntKind.i64
    x11, Value.int IntKind.i64 x12]) ∧ KeepX true w.heap.size [m16, m3, m2, m1] (fun _ => False) w13 w14 ∧ ∀ (m25 : Nat), w14.heap.size ≤ m25 → (2 : Int) ≠ 0 ∧ (x9.tmod (2 : Int) =
    1 → (-9223372036854775808 ≤ x9 ∧ x9 ≤ 9223372036854775807) ∧ ((-9223372036854775808 : Int) ≤ 500 + x9 ∧ 500 + x9 ≤ 9223372036854775807) ∧ (-9223372036854775808 ≤ x9 ∧ x9 ≤
    9223372036854775807) ∧ ((-9223372036854775808 : Int) ≤ 500 + x9 ∧ 500 + x9 ≤ 9223372036854775807) ∧ (-9223372036854775808 ≤ x10 ∧ x10 ≤ 9223372036854775807) ∧ (12 : Int) ≠ 0 ∧
    ((-9223372036854775808 : Int) ≤ 500 + x9 + x10.tmod 12 ∧ 500 + x9 + x10.tmod (12 : Int) ≤ 9223372036854775807) ∧ ∀ (w15 : World), RowKit.Below w.heap.size w w15 → Kept [m25,
    m16, m3, m2, m1] w14 w15 → Calls Try.prog 42 #[Value.int IntKind.i64 (500 + x9), Value.int IntKind.i64 (500 + x9 + x10.tmod 12)] w15 fun (e2 : Ending) (w16 : World) => ∃ (x13 :
    Int), ∃ (x14 : Int), e2 = Ending.returned (Value.agg #[Value.int IntKind.i64 x13, Value.int IntKind.i64 x14]) ∧ KeepX true w.heap.size [m25, m16, m3, m2, m1] (fun _ => False)
    w15 w16 ∧ ∀ (m27 : Nat), w16.heap.size ≤ m27 → ∀ (w17 : World), RowKit.Below w.heap.size w w17 → Kept [m27, m25, m16, m3, m2, m1] w16 w17 → w17.heap[m25]? = some (Obj.cells
    #[Value.int IntKind.i64 x11, Value.int IntKind.i64 x12] 42) → w17.heap[m27]? = some (Obj.cells #[Value.int IntKind.i64 x13, Value.int IntKind.i64 x14] 42) → RunsTo Try.prog
    (Builtin.append_ #[89, 89] 89 #[Value.slice (some { block := m25, off := 0 }) 1 1, Value.slice (some { block := m27, off := 0 }) 1 1]) w17 fun (v1 : Value) (w18 : World) => ∃
    (a7 : Option Addr), ∃ (m30 : Nat), ∃ (m31 : Nat), v1 = Value.slice a7 m30 m31 ∧ KeepX true w.heap.size [m27, m25, m16, m3, m2, m1] (fun _ => False) w17 w18 ∧ ∀ (m33 : Nat),
    w18.heap.size ≤ m33 → ∀ (w19 : World), RowKit.Below w.heap.size w w19 → Kept [m33, m27, m25, m16, m3, m2, m1] w18 w19 → w19.heap[m33]? = some (Obj.cells #[Value.slice a7 m30
    m31] 89) → RunsTo Try.prog (Builtin.append_ #[22, 22] 22 #[Value.slice a5 m20 m21, Value.slice (some { block := m33, off := 0 }) 1 1]) w19 fun (v2 : Value) (w20 : World) => ∃
    (a8 : Option Addr), ∃ (m35 : Nat), ∃ (m36 : Nat), v2 = Value.slice a8 m35 m36 ∧ KeepX true w.heap.size [m33, m27, m25, m16, m3, m2, m1] (fun _ => False) w19 w20 ∧
    (-9223372036854775808 ≤ x1 + 1 ∧ x1 + (1 : Int) ≤ 9223372036854775807) ∧ ∀ (w21 : World), RowKit.Below w.heap.size w w21 → Kept [m33, m27, m25, m16, m3, m2, m1] w20 w21 →
    w21.heap[m16]? = some (Obj.cells #[Value.int IntKind.u8 x7, Value.int IntKind.u8 x8, Value.int IntKind.u8 x9, Value.int IntKind.u8 x10] 149) → w21.heap[m1]? = some (Obj.cells
    #[Value.slice x0a x0n x0c, Value.slice x1a x1n x1c] 84) → w21.heap[m16]? = some (Obj.cells #[Value.int IntKind.u8 x7, Value.int IntKind.u8 x8, Value.int IntKind.u8 x9,
    Value.int IntKind.u8 x10] 149) → w21.heap[m16]? = some (Obj.cells #[Value.int IntKind.u8 x7, Value.int IntKind.u8 x8, Value.int IntKind.u8 x9, Value.int IntKind.u8 x10] 149) →
    w21.heap[m16]? = some (Obj.cells #[Value.int IntKind.u8 x7, Value.int IntKind.u8 x8, Value.int IntKind.u8 x9, Value.int IntKind.u8 x10] 149) → w21.heap[m25]? = some (Obj.cells
    #[Value.int IntKind.i64 x11, Value.int IntKind.i64 x12] 42) → w21.heap[m16]? = some (Obj.cells #[Value.int IntKind.u8 x7, Value.int IntKind.u8 x8, Value.int IntKind.u8 x9,
    Value.int IntKind.u8 x10] 149) → w21.heap[m25]? = some (Obj.cells #[Value.int IntKind.i64 x11, Value.int IntKind.i64 x12] 42) → w21.heap[m16]? = some (Obj.cells #[Value.int
    IntKind.u8 x7, Value.int IntKind.u8 x8, Value.int IntKind.u8 x9, Value.int IntKind.u8 x10] 149) → w21.heap[m16]? = some (Obj.cells #[Value.int IntKind.u8 x7, Value.int
    IntKind.u8 x8, Value.int IntKind.u8 x9, Value.int IntKind.u8 x10] 149) → w21.heap[m16]? = some (Obj.cells #[Value.int IntKind.u8 x7, Value.int IntKind.u8 x8, Value.int
    IntKind.u8 x9, Value.int IntKind.u8 x10] 149) → w21.heap[m27]? = some (Obj.cells #[Value.int IntKind.i64 x13, Value.int IntKind.i64 x14] 42) → w21.heap[m3]? = some (Obj.cells
    #[Value.slice a8 m35 m36, Value.slice a6 m22 m23] 25) → w21.heap[m33]? = some (Obj.cells #[Value.slice a7 m30 m31] 89) → w21.heap[m3]? = some (Obj.cells #[Value.slice a8 m35
    m36, Value.slice a6 m22 m23] 25) → F1 [Lf.int IntKind.i64 (x1 + 1), Lf.sl a8 m35 m36, Lf.sl a6 m22 m23] w21 ∧ F2 [Lf.int IntKind.i64 (x1 + 1), Lf.sl a8 m35 m36, Lf.sl a6 m22
    m23] < F2 [Lf.int IntKind.i64 x1, Lf.sl a1 m4 m5, Lf.sl a2 m6 m7]) ∧ (x9.tmod (2 : Int) ≠ 1 → ∀ (m53 : Nat), w14.heap.size ≤ m53 → ∀ (w22 : World), RowKit.Below w.heap.size w
    w22 → Kept [m53, m25, m16, m3, m2, m1] w14 w22 → w22.heap[m53]? = some (Obj.cells #[Value.slice (some { block := m25, off := 0 }) 1 1] 89) → w22.heap[m25]? = some (Obj.cells
    #[Value.int IntKind.i64 x11, Value.int IntKind.i64 x12] 42) → RunsTo Try.prog (Builtin.append_ #[22, 22] 22 #[Value.slice a5 m20 m21, Value.slice (some
    { block := m53, off := 0 }) 1 1]) w22 fun (v3 : Value) (w23 : World) => ∃ (a9 : Option Addr), ∃ (m56 : Nat), ∃ (m57 : Nat), v3 = Value.slice a9 m56 m57 ∧ KeepX true w.heap.size
    [m53, m25, m16, m3, m2, m1] (fun _ => False) w22 w23 ∧ (-9223372036854775808 ≤ x1 + 1 ∧ x1 + (1 : Int) ≤ 9223372036854775807) ∧ ∀ (w24 : World), RowKit.Below w.heap.size w w24
    → Kept [m53, m25, m16, m3, m2, m1] w23 w24 → w24.heap[m16]? = some (Obj.cells #[Value.int IntKind.u8 x7, Value.int IntKind.u8 x8, Value.int IntKind.u8 x9, Value.int IntKind.u8
    x10] 149) → w24.heap[m25]? = some (Obj.cells #[Value.int IntKind.i64 x11, Value.int IntKind.i64 x12] 42) → w24.heap[m1]? = some (Obj.cells #[Value.slice x0a x0n x0c,
    Value.slice x1a x1n x1c] 84) → w24.heap[m16]? = some (Obj.cells #[Value.int IntKind.u8 x7, Value.int IntKind.u8 x8, Value.int IntKind.u8 x9, Value.int IntKind.u8 x10] 149) →
    w24.heap[m16]? = some (Obj.cells #[Value.int IntKind.u8 x7, Value.int IntKind.u8 x8, Value.int IntKind.u8 x9, Value.int IntKind.u8 x10] 149) → w24.heap[m16]? = some (Obj.cells
    #[Value.int IntKind.u8 x7, Value.int IntKind.u8 x8, Value.int IntKind.u8 x9, Value.int IntKind.u8 x10] 149) → w24.heap[m25]? = some (Obj.cells #[Value.int IntKind.i64 x11,
    Value.int IntKind.i64 x12] 42) → w24.heap[m16]? = some (Obj.cells #[Value.int IntKind.u8 x7, Value.int IntKind.u8 x8, Value.int IntKind.u8 x9, Value.int IntKind.u8 x10] 149) →
    w24.heap[m3]? = some (Obj.cells #[Value.slice a9 m56 m57, Value.slice a6 m22 m23] 25) → w24.heap[m25]? = some (Obj.cells #[Value.int IntKind.i64 x11, Value.int IntKind.i64 x12]
    42) → w24.heap[m53]? = some (Obj.cells #[Value.slice (some { block := m25, off := 0 }) 1 1] 89) → w24.heap[m3]? = some (Obj.cells #[Value.slice a9 m56 m57, Value.slice a6 m22
    m23] 25) → w24.heap[m25]? = some (Obj.cells #[Value.int IntKind.i64 x11, Value.int IntKind.i64 x12] 42) → F1 [Lf.int IntKind.i64 (x1 + 1), Lf.sl a9 m56 m57, Lf.sl a6 m22 m23]
    w24 ∧ F2 [Lf.int IntKind.i64 (x1 + 1), Lf.sl a9 m56 m57, Lf.sl a6 m22 m23] < F2 [Lf.int IntKind.i64 x1, Lf.sl a1 m4 m5, Lf.sl a2 m6 m7])) ∧ (t1 = false → ∃ (F5 : List Lf →
    World → Prop), ∃ (F6 : List Lf → Nat), (∀ (w26 : World), RowKit.Below w.heap.size w w26 → Kept [m3, m2, m1] w8 w26 → F5 [Lf.int IntKind.i64 0, Lf.sl a3 m12 m13, Lf.sl a4 m14
    m15] w26) ∧ ∀ (x15 : Int) (a10 : Option Addr) (m72 m73 : Nat) (a11 : Option Addr) (m74 m75 : Nat) (w27 : World), RowKit.Below w.heap.size w w27 → F5 [Lf.int IntKind.i64 x15,
    Lf.sl a10 m72 m73, Lf.sl a11 m74 m75] w27 → ∃ (F7 : List Lf → World → Prop), ((x15 = 0 → ∀ (w29 : World), RowKit.Below w.heap.size w w29 → Kept [m3, m2, m1] w27 w29 → F7
    [Lf.bool true, Lf.sl a10 m72 m73, Lf.sl a11 m74 m75] w29) ∧ (x15 ≠ 0 → (x15 < (↑x1n : Int) → ∀ (w30 : World), RowKit.Below w.heap.size w w30 → Kept [m3, m2, m1] w27 w30 →
    w30.heap[m1]? = some (Obj.cells #[Value.slice x0a x0n x0c, Value.slice x1a x1n x1c] 84) → F7 [Lf.bool (decide (x15 < 4)), Lf.sl a10 m72 m73, Lf.sl a11 m74 m75] w30) ∧ ((↑x1n :
    Int) ≤ x15 → ∀ (w31 : World), RowKit.Below w.heap.size w w31 → Kept [m3, m2, m1] w27 w31 → w31.heap[m1]? = some (Obj.cells #[Value.slice x0a x0n x0c, Value.slice x1a x1n x1c]
    84) → F7 [Lf.bool false, Lf.sl a10 m72 m73, Lf.sl a11 m74 m75] w31))) ∧ ∀ (t2 : Bool) (a12 : Option Addr) (m80 m81 : Nat) (a13 : Option Addr) (m82 m83 : Nat) (w32 : World),
    RowKit.Below w.heap.size w w32 → F7 [Lf.bool t2, Lf.sl a12 m80 m81, Lf.sl a13 m82 m83] w32 → (t2 = true → ∀ (m84 : Nat), w32.heap.size ≤ m84 → ∃ (F8 : List Lf → World → Prop),
    ((x15 < (↑x1n : Int) → ∃ (m85 : Nat), ∃ (m86 : Nat), x1a = some { block := m85, off := m86 } ∧ (0 ≤ x15 ∧ x15 < (↑x1n : Int)) ∧ ∃ (x17 : Int), ∃ (x18 : Int), ∃ (x19 : Int), ∃
    (x20 : Int), w32.cell? { block := m85, off := m86 + x15.toNat * 4 } = some (Value.int IntKind.u8 x17) ∧ w32.cell? { block := m85, off := m86 + x15.toNat * 4 + 1 } = some
    (Value.int IntKind.u8 x18) ∧ w32.cell? { block := m85, off := m86 + x15.toNat * 4 + 1 + 1 } = some (Value.int IntKind.u8 x19) ∧ w32.cell?
    { block := m85, off := m86 + x15.toNat * 4 + 1 + 1 + 1 } = some (Value.int IntKind.u8 x20) ∧ (m85 < w.heap.size ∨ m85 ≠ m84 ∧ m85 ≠ m3 ∧ m85 ≠ m2 ∧ m85 ≠ m1) ∧ ∀ (w34 : World),
    RowKit.Below w.heap.size w w34 → Kept [m84, m3, m2, m1] w32 w34 → w34.heap[m1]? = some (Obj.cells #[Value.slice x0a x0n x0c, Value.slice x1a x1n x1c] 84) → F8 [Lf.sl a12 m80
    m81, Lf.sl a13 m82 m83, Lf.int IntKind.u8 x17, Lf.int IntKind.u8 x18, Lf.int IntKind.u8 x19, Lf.int IntKind.u8 x20] w34) ∧ ((↑x1n : Int) ≤ x15 → ∀ (w35 : World), RowKit.Below
    w.heap.size w w35 → Kept [m84, m3, m2, m1] w32 w35 → F8 [Lf.sl a12 m80 m81, Lf.sl a13 m82 m83, Lf.int IntKind.u8 0, Lf.int IntKind.u8 0, Lf.int IntKind.u8 0, Lf.int IntKind.u8
    0] w35)) ∧ ∀ (a14 : Option Addr) (m88 m89 : Nat) (a15 : Option Addr) (m90 m91 : Nat) (x21 x22 x23 x24 : Int) (w36 : World), RowKit.Below w.heap.size w w36 → F8 [Lf.sl a14 m88
    m89, Lf.sl a15 m90 m91, Lf.int IntKind.u8 x21, Lf.int IntKind.u8 x22, Lf.int IntKind.u8 x23, Lf.int IntKind.u8 x24] w36 → (-9223372036854775808 ≤ x21 ∧ x21 ≤
    9223372036854775807) ∧ (↑m88 : Int) ≠ 0 ∧ ∀ (m92 : Nat), w36.heap.size ≤ m92 → (-9223372036854775808 ≤ x21.tmod (↑m88 : Int) + 1 ∧ x21.tmod (↑m88 : Int) + (1 : Int) ≤
    9223372036854775807) ∧ (-9223372036854775808 ≤ x22 ∧ x22 ≤ 9223372036854775807) ∧ (-9223372036854775808 ≤ (↑m88 : Int) - 1 ∧ (↑m88 : Int) - (1 : Int) ≤ 9223372036854775807) ∧
    (↑m88 : Int) - (1 : Int) ≠ 0 ∧ (-9223372036854775808 ≤ x21.tmod (↑m88 : Int) + 1 + x22.tmod ((↑m88 : Int) - 1) ∧ x21.tmod (↑m88 : Int) + 1 + x22.tmod ((↑m88 : Int) - 1) ≤
    9223372036854775807) ∧ (↑m88 : Int) ≠ 0 ∧ (-9223372036854775808 ≤ x21 ∧ x21 ≤ 9223372036854775807) ∧ ((16 : Int) ≠ 0 ∧ -9223372036854775808 ≤ x21.tdiv 16 ∧ x21.tdiv (16 : Int)
    ≤ 9223372036854775807) ∧ ∃ (m93 : Nat), ∃ (m94 : Nat), a14 = some { block := m93, off := m94 } ∧ (0 ≤ x21.tmod (↑m88 : Int) ∧ x21.tmod (↑m88 : Int) < (↑m88 : Int)) ∧ ∃ (a16 :
    Option Addr), ∃ (m95 : Nat), ∃ (m96 : Nat), w36.cell? { block := m93, off := m94 + (x21.tmod (↑m88 : Int)).toNat * 1 } = some (Value.slice a16 m95 m96) ∧ (m93 < w.heap.size ∨
    m93 ≠ m92 ∧ m93 ≠ m84 ∧ m93 ≠ m3 ∧ m93 ≠ m2 ∧ m93 ≠ m1) ∧ (↑m95 : Int) ≠ 0 ∧ (-9223372036854775808 ≤ x22 ∧ x22 ≤ 9223372036854775807) ∧ ((16 : Int) ≠ 0 ∧ -9223372036854775808 ≤
    x22.tdiv 16 ∧ x22.tdiv (16 : Int) ≤ 9223372036854775807) ∧ ∃ (m97 : Nat), ∃ (m98 : Nat), a14 = some { block := m97, off := m98 } ∧ (0 ≤ (x21.tmod (↑m88 : Int) + 1 + x22.tmod
    ((↑m88 : Int) - 1)).tmod (↑m88 : Int) ∧ (x21.tmod (↑m88 : Int) + 1 + x22.tmod ((↑m88 : Int) - 1)).tmod (↑m88 : Int) < (↑m88 : Int)) ∧ ∃ (a17 : Option Addr), ∃ (m99 : Nat), ∃
    (m100 : Nat), w36.cell? { block := m97, off := m98 + ((x21.tmod (↑m88 : Int) + 1 + x22.tmod ((↑m88 : Int) - 1)).tmod (↑m88 : Int)).toNat * 1 } = some (Value.slice a17 m99 m100)
    ∧ (m97 < w.heap.size ∨ m97 ≠ m92 ∧ m97 ≠ m84 ∧ m97 ≠ m3 ∧ m97 ≠ m2 ∧ m97 ≠ m1) ∧ (↑m99 : Int) ≠ 0 ∧ ∃ (m101 : Nat), ∃ (m102 : Nat), a14 = some { block := m101, off := m102 } ∧
    (0 ≤ x21.tmod (↑m88 : Int) ∧ x21.tmod (↑m88 : Int) < (↑m88 : Int)) ∧ ∃ (a18 : Option Addr), ∃ (m103 : Nat), ∃ (m104 : Nat), w36.cell?
    { block := m101, off := m102 + (x21.tmod (↑m88 : Int)).toNat * 1 } = some (Value.slice a18 m103 m104) ∧ (m101 < w.heap.size ∨ m101 ≠ m92 ∧ m101 ≠ m84 ∧ m101 ≠ m3 ∧ m101 ≠ m2 ∧
    m101 ≠ m1) ∧ ∃ (m105 : Nat), ∃ (m106 : Nat), a18 = some { block := m105, off := m106 } ∧ (0 ≤ (x21.tdiv 16).tmod (↑m95 : Int) ∧ (x21.tdiv 16).tmod (↑m95 : Int) < (↑m103 : Int))
    ∧ ∃ (x25 : Int), ∃ (x26 : Int), w36.cell? { block := m105, off := m106 + ((x21.tdiv 16).tmod (↑m95 : Int)).toNat * 2 } = some (Value.int IntKind.i64 x25) ∧ w36.cell?
    { block := m105, off := m106 + ((x21.tdiv 16).tmod (↑m95 : Int)).toNat * 2 + 1 } = some (Value.int IntKind.i64 x26) ∧ (m105 < w.heap.size ∨ m105 ≠ m92 ∧ m105 ≠ m84 ∧ m105 ≠ m3
    ∧ m105 ≠ m2 ∧ m105 ≠ m1) ∧ ∀ (m107 : Nat), w36.heap.size ≤ m107 → ∀ (m108 : Nat), w36.heap.size ≤ m108 → ∃ (m109 : Nat), ∃ (m110 : Nat), a14 = some
    { block := m109, off := m110 } ∧ (0 ≤ (x21.tmod (↑m88 : Int) + 1 + x22.tmod ((↑m88 : Int) - 1)).tmod (↑m88 : Int) ∧ (x21.tmod (↑m88 : Int) + 1 + x22.tmod ((↑m88 : Int) -
    1)).tmod (↑m88 : Int) < (↑m88 : Int)) ∧ ∃ (a19 : Option Addr), ∃ (m111 : Nat), ∃ (m112 : Nat), w36.cell?
    { block := m109, off := m110 + ((x21.tmod (↑m88 : Int) + 1 + x22.tmod ((↑m88 : Int) - 1)).tmod (↑m88 : Int)).toNat * 1 } = some (Value.slice a19 m111 m112) ∧ (m109 <
    w.heap.size ∨ m109 ≠ m108 ∧ m109 ≠ m107 ∧ m109 ≠ m92 ∧ m109 ≠ m84 ∧ m109 ≠ m3 ∧ m109 ≠ m2 ∧ m109 ≠ m1) ∧ ∃ (m113 : Nat), ∃ (m114 : Nat), a19 = some
    { block := m113, off := m114 } ∧ (0 ≤ (x22.tdiv 16).tmod (↑m99 : Int) ∧ (x22.tdiv 16).tmod (↑m99 : Int) < (↑m111 : Int)) ∧ ∃ (x27 : Int), ∃ (x28 : Int), w36.cell?
    { block := m113, off := m114 + ((x22.tdiv 16).tmod (↑m99 : Int)).toNat * 2 } = some (Value.int IntKind.i64 x27) ∧ w36.cell?
    { block := m113, off := m114 + ((x22.tdiv 16).tmod (↑m99 : Int)).toNat * 2 + 1 } = some (Value.int IntKind.i64 x28) ∧ (m113 < w.heap.size ∨ m113 ≠ m108 ∧ m113 ≠ m107 ∧ m113 ≠
    m92 ∧ m113 ≠ m84 ∧ m113 ≠ m3 ∧ m113 ≠ m2 ∧ m113 ≠ m1) ∧ (-9223372036854775808 ≤ x25 - x28 ∧ x25 - x28 ≤ 9223372036854775807) ∧ (-9223372036854775808 ≤ x23 ∧ x23 ≤
    9223372036854775807) ∧ (8 : Int) ≠ 0 ∧ (-9223372036854775808 ≤ x25 - x28 + x23.tmod 8 ∧ x25 - x28 + x23.tmod (8 : Int) ≤ 9223372036854775807) ∧ (-9223372036854775808 ≤ x25 -
    x28 + x23.tmod 8 - 4 ∧ x25 - x28 + x23.tmod 8 - (4 : Int) ≤ 9223372036854775807) ∧ (-9223372036854775808 ≤ x26 - x27 ∧ x26 - x27 ≤ 9223372036854775807) ∧ (-9223372036854775808
    ≤ x24 ∧ x24 ≤ 9223372036854775807) ∧ (8 : Int) ≠ 0 ∧ (-9223372036854775808 ≤ x26 - x27 + x24.tmod 8 ∧ x26 - x27 + x24.tmod (8 : Int) ≤ 9223372036854775807) ∧
    (-9223372036854775808 ≤ x26 - x27 + x24.tmod 8 - 4 ∧ x26 - x27 + x24.tmod 8 - (4 : Int) ≤ 9223372036854775807) ∧ ∀ (w37 : World), RowKit.Below w.heap.size w w37 → Kept [m108,
    m107, m92, m84, m3, m2, m1] w36 w37 → Calls Try.prog 42 #[Value.int IntKind.i64 (x25 - x28 + x23.tmod 8 - 4), Value.int IntKind.i64 (max (x25 - x28 + x23.tmod 8 - 4) (x26 - x27
    + x24.tmod 8 - 4))] w37 fun (e3 : Ending) (w38 : World) => ∃ (x29 : Int), ∃ (x30 : Int), e3 = Ending.returned (Value.agg #[Value.int IntKind.i64 x29, Value.int IntKind.i64
    x30]) ∧ KeepX true w.heap.size [m108, m107, m92, m84, m3, m2, m1] (fun _ => False) w37 w38 ∧ ∀ (m116 : Nat), w38.heap.size ≤ m116 → ∀ (w39 : World), RowKit.Below w.heap.size w
    w39 → Kept [m116, m108, m107, m92, m84, m3, m2, m1] w38 w39 → w39.heap[m116]? = some (Obj.cells #[Value.int IntKind.i64 (x21.tmod (↑m88 : Int)), Value.int IntKind.i64
    ((x21.tdiv 16).tmod (↑m95 : Int)), Value.int IntKind.i64 ((x21.tmod (↑m88 : Int) + 1 + x22.tmod ((↑m88 : Int) - 1)).tmod (↑m88 : Int)), Value.int IntKind.i64 ((x22.tdiv
    16).tmod (↑m99 : Int)), Value.int IntKind.i64 x29, Value.int IntKind.i64 x30] 67) → RunsTo Try.prog (Builtin.append_ #[23, 23] 23 #[Value.slice a15 m90 m91, Value.slice (some
    { block := m116, off := 0 }) 1 1]) w39 fun (v4 : Value) (w40 : World) => ∃ (a20 : Option Addr), ∃ (m118 : Nat), ∃ (m119 : Nat), v4 = Value.slice a20 m118 m119 ∧ KeepX true
    w.heap.size [m116, m108, m107, m92, m84, m3, m2, m1] (fun _ => False) w39 w40 ∧ (-9223372036854775808 ≤ x15 + 1 ∧ x15 + (1 : Int) ≤ 9223372036854775807) ∧ ∀ (w41 : World),
    RowKit.Below w.heap.size w w41 → Kept [m116, m108, m107, m92, m84, m3, m2, m1] w40 w41 → w41.heap[m84]? = some (Obj.cells #[Value.int IntKind.u8 x21, Value.int IntKind.u8 x22,
    Value.int IntKind.u8 x23, Value.int IntKind.u8 x24] 149) → w41.heap[m92]? = some (Obj.cells #[Value.int IntKind.i64 (x21.tmod (↑m88 : Int)), Value.int IntKind.i64 ((x21.tdiv
    16).tmod (↑m95 : Int)), Value.int IntKind.i64 ((x21.tmod (↑m88 : Int) + 1 + x22.tmod ((↑m88 : Int) - 1)).tmod (↑m88 : Int)), Value.int IntKind.i64 ((x22.tdiv 16).tmod (↑m99 :
    Int)), Value.int IntKind.i64 x29, Value.int IntKind.i64 x30] 67) → w41.heap[m107]? = some (Obj.cells #[Value.int IntKind.i64 x25, Value.int IntKind.i64 x26] 42) →
    w41.heap[m108]? = some (Obj.cells #[Value.int IntKind.i64 x27, Value.int IntKind.i64 x28] 42) → w41.heap[m1]? = some (Obj.cells #[Value.slice x0a x0n x0c, Value.slice x1a x1n
    x1c] 84) → w41.heap[m84]? = some (Obj.cells #[Value.int IntKind.u8 x21, Value.int IntKind.u8 x22, Value.int IntKind.u8 x23, Value.int IntKind.u8 x24] 149) → w41.heap[m3]? =
    some (Obj.cells #[Value.slice a14 m88 m89, Value.slice a20 m118 m119] 25) → w41.heap[m92]? = some (Obj.cells #[Value.int IntKind.i64 (x21.tmod (↑m88 : Int)), Value.int
    IntKind.i64 ((x21.tdiv 16).tmod (↑m95 : Int)), Value.int IntKind.i64 ((x21.tmod (↑m88 : Int) + 1 + x22.tmod ((↑m88 : Int) - 1)).tmod (↑m88 : Int)), Value.int IntKind.i64
    ((x22.tdiv 16).tmod (↑m99 : Int)), Value.int IntKind.i64 x29, Value.int IntKind.i64 x30] 67) → w41.heap[m84]? = some (Obj.cells #[Value.int IntKind.u8 x21, Value.int IntKind.u8
    x22, Value.int IntKind.u8 x23, Value.int IntKind.u8 x24] 149) → w41.heap[m3]? = some (Obj.cells #[Value.slice a14 m88 m89, Value.slice a20 m118 m119] 25) → w41.heap[m3]? = some
    (Obj.cells #[Value.slice a14 m88 m89, Value.slice a20 m118 m119] 25) → w41.heap[m92]? = some (Obj.cells #[Value.int IntKind.i64 (x21.tmod (↑m88 : Int)), Value.int IntKind.i64
    ((x21.tdiv 16).tmod (↑m95 : Int)), Value.int IntKind.i64 ((x21.tmod (↑m88 : Int) + 1 + x22.tmod ((↑m88 : Int) - 1)).tmod (↑m88 : Int)), Value.int IntKind.i64 ((x22.tdiv
    16).tmod (↑m99 : Int)), Value.int IntKind.i64 x29, Value.int IntKind.i64 x30] 67) → w41.heap[m84]? = some (Obj.cells #[Value.int IntKind.u8 x21, Value.int IntKind.u8 x22,
    Value.int IntKind.u8 x23, Value.int IntKind.u8 x24] 149) → w41.heap[m3]? = some (Obj.cells #[Value.slice a14 m88 m89, Value.slice a20 m118 m119] 25) → w41.heap[m92]? = some
    (Obj.cells #[Value.int IntKind.i64 (x21.tmod (↑m88 : Int)), Value.int IntKind.i64 ((x21.tdiv 16).tmod (↑m95 : Int)), Value.int IntKind.i64 ((x21.tmod (↑m88 : Int) + 1 +
    x22.tmod ((↑m88 : Int) - 1)).tmod (↑m88 : Int)), Value.int IntKind.i64 ((x22.tdiv 16).tmod (↑m99 : Int)), Value.int IntKind.i64 x29, Value.int IntKind.i64 x30] 67) →
    w41.heap[m84]? = some (Obj.cells #[Value.int IntKind.u8 x21, Value.int IntKind.u8 x22, Value.int IntKind.u8 x23, Value.int IntKind.u8 x24] 149) → w41.heap[m3]? = some
    (Obj.cells #[Value.slice a14 m88 m89, Value.slice a20 m118 m119] 25) → w41.heap[m92]? = some (Obj.cells #[Value.int IntKind.i64 (x21.tmod (↑m88 : Int)), Value.int IntKind.i64
    ((x21.tdiv 16).tmod (↑m95 : Int)), Value.int IntKind.i64 ((x21.tmod (↑m88 : Int) + 1 + x22.tmod ((↑m88 : Int) - 1)).tmod (↑m88 : Int)), Value.int IntKind.i64 ((x22.tdiv
    16).tmod (↑m99 : Int)), Value.int IntKind.i64 x29, Value.int IntKind.i64 x30] 67) → w41.heap[m92]? = some (Obj.cells #[Value.int IntKind.i64 (x21.tmod (↑m88 : Int)), Value.int
    IntKind.i64 ((x21.tdiv 16).tmod (↑m95 : Int)), Value.int IntKind.i64 ((x21.tmod (↑m88 : Int) + 1 + x22.tmod ((↑m88 : Int) - 1)).tmod (↑m88 : Int)), Value.int IntKind.i64
    ((x22.tdiv 16).tmod (↑m99 : Int)), Value.int IntKind.i64 x29, Value.int IntKind.i64 x30] 67) → w41.heap[m92]? = some (Obj.cells #[Value.int IntKind.i64 (x21.tmod (↑m88 : Int)),
    Value.int IntKind.i64 ((x21.tdiv 16).tmod (↑m95 : Int)), Value.int IntKind.i64 ((x21.tmod (↑m88 : Int) + 1 + x22.tmod ((↑m88 : Int) - 1)).tmod (↑m88 : Int)), Value.int
    IntKind.i64 ((x22.tdiv 16).tmod (↑m99 : Int)), Value.int IntKind.i64 x29, Value.int IntKind.i64 x30] 67) → w41.heap[m3]? = some (Obj.cells #[Value.slice a14 m88 m89,
    Value.slice a20 m118 m119] 25) → w41.heap[m92]? = some (Obj.cells #[Value.int IntKind.i64 (x21.tmod (↑m88 : Int)), Value.int IntKind.i64 ((x21.tdiv 16).tmod (↑m95 : Int)),
    Value.int IntKind.i64 ((x21.tmod (↑m88 : Int) + 1 + x22.tmod ((↑m88 : Int) - 1)).tmod (↑m88 : Int)), Value.int IntKind.i64 ((x22.tdiv 16).tmod (↑m99 : Int)), Value.int
    IntKind.i64 x29, Value.int IntKind.i64 x30] 67) → w41.heap[m92]? = some (Obj.cells #[Value.int IntKind.i64 (x21.tmod (↑m88 : Int)), Value.int IntKind.i64 ((x21.tdiv 16).tmod
    (↑m95 : Int)), Value.int IntKind.i64 ((x21.tmod (↑m88 : Int) + 1 + x22.tmod ((↑m88 : Int) - 1)).tmod (↑m88 : Int)), Value.int IntKind.i64 ((x22.tdiv 16).tmod (↑m99 : Int)),
    Value.int IntKind.i64 x29, Value.int IntKind.i64 x30] 67) → w41.heap[m3]? = some (Obj.cells #[Value.slice a14 m88 m89, Value.slice a20 m118 m119] 25) → w41.heap[m92]? = some
    (Obj.cells #[Value.int IntKind.i64 (x21.tmod (↑m88 : Int)), Value.int IntKind.i64 ((x21.tdiv 16).tmod (↑m95 : Int)), Value.int IntKind.i64 ((x21.tmod (↑m88 : Int) + 1 +
    x22.tmod ((↑m88 : Int) - 1)).tmod (↑m88 : Int)), Value.int IntKind.i64 ((x22.tdiv 16).tmod (↑m99 : Int)), Value.int IntKind.i64 x29, Value.int IntKind.i64 x30] 67) →
    w41.heap[m92]? = some (Obj.cells #[Value.int IntKind.i64 (x21.tmod (↑m88 : Int)), Value.int IntKind.i64 ((x21.tdiv 16).tmod (↑m95 : Int)), Value.int IntKind.i64 ((x21.tmod
    (↑m88 : Int) + 1 + x22.tmod ((↑m88 : Int) - 1)).tmod (↑m88 : Int)), Value.int IntKind.i64 ((x22.tdiv 16).tmod (↑m99 : Int)), Value.int IntKind.i64 x29, Value.int IntKind.i64
    x30] 67) → w41.heap[m107]? = some (Obj.cells #[Value.int IntKind.i64 x25, Value.int IntKind.i64 x26] 42) → w41.heap[m108]? = some (Obj.cells #[Value.int IntKind.i64 x27,
    Value.int IntKind.i64 x28] 42) → w41.heap[m84]? = some (Obj.cells #[Value.int IntKind.u8 x21, Value.int IntKind.u8 x22, Value.int IntKind.u8 x23, Value.int IntKind.u8 x24] 149)
    → w41.heap[m107]? = some (Obj.cells #[Value.int IntKind.i64 x25, Value.int IntKind.i64 x26] 42) → w41.heap[m108]? = some (Obj.cells #[Value.int IntKind.i64 x27, Value.int
    IntKind.i64 x28] 42) → w41.heap[m84]? = some (Obj.cells #[Value.int IntKind.u8 x21, Value.int IntKind.u8 x22, Value.int IntKind.u8 x23, Value.int IntKind.u8 x24] 149) →
    w41.heap[m92]? = some (Obj.cells #[Value.int IntKind.i64 (x21.tmod (↑m88 : Int)), Value.int IntKind.i64 ((x21.tdiv 16).tmod (↑m95 : Int)), Value.int IntKind.i64 ((x21.tmod
    (↑m88 : Int) + 1 + x22.tmod ((↑m88 : Int) - 1)).tmod (↑m88 : Int)), Value.int IntKind.i64 ((x22.tdiv 16).tmod (↑m99 : Int)), Value.int IntKind.i64 x29, Value.int IntKind.i64
    x30] 67) → w41.heap[m3]? = some (Obj.cells #[Value.slice a14 m88 m89, Value.slice a20 m118 m119] 25) → w41.heap[m116]? = some (Obj.cells #[Value.int IntKind.i64 (x21.tmod (↑m88
    : Int)), Value.int IntKind.i64 ((x21.tdiv 16).tmod (↑m95 : Int)), Value.int IntKind.i64 ((x21.tmod (↑m88 : Int) + 1 + x22.tmod ((↑m88 : Int) - 1)).tmod (↑m88 : Int)), Value.int
    IntKind.i64 ((x22.tdiv 16).tmod (↑m99 : Int)), Value.int IntKind.i64 x29, Value.int IntKind.i64 x30] 67) → w41.heap[m3]? = some (Obj.cells #[Value.slice a14 m88 m89,
    Value.slice a20 m118 m119] 25) → F5 [Lf.int IntKind.i64 (x15 + 1), Lf.sl a14 m88 m89, Lf.sl a20 m118 m119] w41 ∧ F6 [Lf.int IntKind.i64 (x15 + 1), Lf.sl a14 m88 m89, Lf.sl a20
    m118 m119] < F6 [Lf.int IntKind.i64 x15, Lf.sl a10 m72 m73, Lf.sl a11 m74 m75]) ∧ (t2 = false → ∀ (w42 : World), RowKit.Below w.heap.size w w42 → Kept [m3, m2, m1] w32 w42 → R
    (Ending.returned (Value.agg #[Value.slice a12 m80 m81, Value.slice a13 m82 m83])) w42))) : Calls Try.prog 40 #[Value.agg #[Value.slice x0a x0n x0c, Value.slice x1a x1n x1c]] w
    R := calls_of_vcj (pure := true) (wrapAt := []) (muts := [3, 5, 8]) (esc := []) (joins := [(2000003, [(26, 4)]), (34, []), (2000013, [(94, 4)]), (102, []), (10000000, [])])
    (args := [SV.pv (PV.agg [Lf.sl x0a x0n x0c, Lf.sl x1a x1n x1c])]) (vs := [Value.agg #[Value.slice x0a x0n x0c, Value.slice x1a x1n x1c]]) Try.func40 rfl rfl rfl (Eq.mp (by
    kernel_rfl) h) 
end Go.Proofs
end
section
/- Works out of bytes, walked. -/
namespace Go.Proofs.R12
open Go.Vc Go.RowKit Go.Proofs
theorem tdiv_bd {x : Int} (h : 0 ≤ x ∧ x ≤ 255) : 0 ≤ x.tdiv 16 ∧ x.tdiv 16 ≤ 255 := by
  rw [Int.tdiv_eq_ediv_of_nonneg h.1]; omega
set_option maxRecDepth 100000 in
set_option maxHeartbeats 8000000 in
theorem shop_l {w : World} {T U : List (Int × Int × Int × Int)} {x0a x1a : Option Addr} {x0c x1c : Nat} (hT0 : Cells w x0a (quadsV T)) (hU0 : Cells w x1a (quadsV U)) (hT : ∀ t ∈ T, ByteQ t) (hU : ∀ t ∈ U, ByteQ t) : Calls Try.prog 40 #[.agg #[.slice x0a T.length x0c, .slice x1a U.length x1c]] w fun e w' => ∃ (W : Wk) (pa fa : Option Addr) (pc fc : Nat), e = .returned (W.v pa pc fa fc) ∧ Below w.heap.size w w' ∧ ShopW W ∧ LiesS w.heap.size w'.heap.size w' pa W.pats ∧ Lies [] w.heap.size w'.heap.size w' fa (fitsV W.fits) := by
  refine vc40 _ _ _ _ _ _ w _ ?_
  intro m1 g_m1 m2 g_m2 m3 g_m3
  refine ⟨fun ls w' => match ls with | [.int _ ii, .sl a n c, .sl a2 n2 c2] => ∃ (B : Nat) (ps : List (List Sp)), (m1 < B ∧ m2 < B ∧ m3 < B ∧ B ≤ w'.heap.size) ∧ n = ps.length ∧ ((ps.length : Int) = ii ∧ ii ≤ 4) ∧ (∀ p ∈ ps, OkP p) ∧ NRow patN B [m3, m2, m1] a n c ps [] w' ∧ a2 = none ∧ n2 = 0 ∧ c2 = 0 | _ => False, fun ls => match ls with | [.int _ ii, _, _] => (5 - ii).toNat | _ => 0, ?_, ?_⟩
  · intro w2 hb2 hk2
    have y2 := hb2.size
    have z2 := hk2.size; have o2 := hk2.own
    simp only [List.mem_cons, List.not_mem_nil, or_false, forall_eq_or_imp, forall_eq] at o2
    exact ⟨w2.heap.size, [], ⟨by omega, by omega, by omega, Nat.le_refl _⟩, rfl, ⟨by rfl, by omega⟩, by simp, NRow.of (.inr Row.nil), rfl, rfl, rfl⟩
  rintro x1 a1 m4 m5 a2 m6 m7 w3 hb3 ⟨B, ps, hB, rfl, hii, hP, RR, rfl, rfl, rfl⟩
  have y3 := hb3.size
  refine ⟨fun ls w' => match ls with | [.bool t, .sl a n c, .sl a2 n2 c2] => t = (decide (x1 < 2) || (decide (x1 < (T.length : Int)) && decide (x1 < 4))) ∧ B ≤ w'.heap.size ∧ n = ps.length ∧ NRow patN B [m3, m2, m1] a n c ps [] w' ∧ a2 = none ∧ n2 = 0 ∧ c2 = 0 | _ => False, ?_, ?_⟩
  · refine ⟨?_, ?_⟩
    · intro h1 w5 hb5 hk5
      try simp only [Bool.not_eq_true', Bool.not_eq_false', decide_eq_true_eq, decide_eq_false_iff_not] at h1
      have y5 := hb5.size
      have z5 := hk5.size; have o5 := hk5.own
      simp only [List.mem_cons, List.not_mem_nil, or_false, forall_eq_or_imp, forall_eq] at o5
      have RR_5 := RR.chg (Chg.kept hk5) (fun _ h => h)
      exact ⟨by rw [decide_eq_true (show x1 < 2 by assumption), Bool.true_or], by omega, rfl, RR_5, rfl, rfl, rfl⟩
    · intro h2
      try simp only [Bool.not_eq_true', Bool.not_eq_false', decide_eq_true_eq, decide_eq_false_iff_not] at h2
      refine ⟨?_, ?_⟩
      · intro h3 w6 hb6 hk6 hc6_m1
        try simp only [Bool.not_eq_true', Bool.not_eq_false', decide_eq_true_eq, decide_eq_false_iff_not] at h3
        have y6 := hb6.size
        have z6 := hk6.size; have o6 := hk6.own
        simp only [List.mem_cons, List.not_mem_nil, or_false, forall_eq_or_imp, forall_eq] at o6
        have RR_6 := RR.chg (Chg.kept hk6) (fun _ h => h)
        exact ⟨by rw [decide_eq_false (show ¬ x1 < 2 by omega), Bool.false_or, decide_eq_true (show x1 < (T.length : Int) by assumption), Bool.true_and], by omega, rfl, RR_6, rfl, rfl, rfl⟩
      · intro h4 w7 hb7 hk7 hc7_m1
        try simp only [Bool.not_eq_true', Bool.not_eq_false', decide_eq_true_eq, decide_eq_false_iff_not] at h4
        have y7 := hb7.size
        have z7 := hk7.size; have o7 := hk7.own
        simp only [List.mem_cons, List.not_mem_nil, or_false, forall_eq_or_imp, forall_eq] at o7
        have RR_7 := RR.chg (Chg.kept hk7) (fun _ h => h)
        exact ⟨by rw [decide_eq_false (show ¬ x1 < 2 by omega), Bool.false_or, decide_eq_false (show ¬ x1 < (T.length : Int) by omega), Bool.false_and], by omega, rfl, RR_7, rfl, rfl, rfl⟩
  rintro t1 a3 m12 m13 a4 m14 m15 w8 hb8 ⟨ht1, zB, rfl, RR, rfl, rfl, rfl⟩
  have y8 := hb8.size
  refine ⟨?_, ?_⟩
  · intro h5 m16 g_m16
    try simp only [Bool.not_eq_true', Bool.not_eq_false', decide_eq_true_eq, decide_eq_false_iff_not] at h5
    have h1t := ht1.symm.trans (by assumption : t1 = true)
    simp only [Bool.or_eq_true, Bool.and_eq_true, decide_eq_true_eq] at h1t
    refine ⟨fun ls w' => match ls with | [.sl a n c, .sl a2 n2 c2, .int _ u0, .int _ u1, .int _ u2, .int _ u3] => ByteQ (u0, u1, u2, u3) ∧ B ≤ w'.heap.size ∧ n = ps.length ∧ NRow patN B [m16, m3, m2, m1] a n c ps [] w' ∧ a2 = none ∧ n2 = 0 ∧ c2 = 0 | _ => False, ?_, ?_⟩
    · refine ⟨?_, ?_⟩
      · intro h6
        try simp only [Bool.not_eq_true', Bool.not_eq_false', decide_eq_true_eq, decide_eq_false_iff_not] at h6
        refine load_quad hT0 hb8 (by omega) fun m17 m18 hm1 => ?_
        refine ⟨(by first | omega | (simp only; omega)), ?_⟩
        intro w10 hb10 hk10 hc10_m1
        have y10 := hb10.size
        have z10 := hk10.size; have o10 := hk10.own
        simp only [List.mem_cons, List.not_mem_nil, or_false, forall_eq_or_imp, forall_eq] at o10
        have RR_10 := (RR.grow (ms := [m16]) (allc g_m16 all0)).chg (Chg.kept hk10) (fun _ h => h)
        exact ⟨quad_bd hT _, by omega, rfl, RR_10, rfl, rfl, rfl⟩
      · intro h7 w11 hb11 hk11
        try simp only [Bool.not_eq_true', Bool.not_eq_false', decide_eq_true_eq, decide_eq_false_iff_not] at h7
        have y11 := hb11.size
        have z11 := hk11.size; have o11 := hk11.own
        simp only [List.mem_cons, List.not_mem_nil, or_false, forall_eq_or_imp, forall_eq] at o11
        have RR_11 := (RR.grow (ms := [m16]) (allc g_m16 all0)).chg (Chg.kept hk11) (fun _ h => h)
        exact ⟨by unfold ByteQ; simp, by omega, rfl, RR_11, rfl, rfl, rfl⟩
    rintro a5 m20 m21 a6 m22 m23 x7 x8 x9 x10 w12 hb12 ⟨hbq, zB, rfl, RR, rfl, rfl, rfl⟩
    have y12 := hb12.size
    have hq := hbq
    unfold ByteQ at hq
    simp only at hq
    have q12 := tmod_bd (b := 12) hq.2.1.1 (by omega)
    have q13 := tmod_bd (b := 12) hq.2.2.2.1 (by omega)
    have S : SinceL [m16, m3, m2, m1] w12 w12 := SinceL.refl
    have hN1 : OkP [(500 + x7, 500 + x7 + x8.tmod 12)] := ⟨by simp, by simp; omega⟩
    have hN2 : OkP [(500 + x7, 500 + x7 + x8.tmod 12), (500 + x9, 500 + x9 + x10.tmod 12)] := ⟨by simp, by simp; omega⟩
    refine ⟨(by first | omega | (simp only; omega)), (by first | omega | (simp only; omega)), (by first | omega | (simp only; omega)), (by first | omega | (simp only; omega)), (by first | omega | (simp only; omega)), (by first | omega | (simp only; omega)), (by first | omega | (simp only; omega)), ?_⟩
    intro w13 hb13 hk13
    have y13 := hb13.size
    have z13 := hk13.size; have o13 := hk13.own
    simp only [List.mem_cons, List.not_mem_nil, or_false, forall_eq_or_imp, forall_eq] at o13
    have S_13 := S.ko hk13 (allc (.inl (by simp)) (allc (.inl (by simp)) (allc (.inl (by simp)) (allc (.inl (by simp)) all0))))
    refine Pure.calls (span_any2 _ _) fun w14 hd14 => ?_
    have hb14 := hb13.trans (hd14.mono hb13.size)
    have z14 := hd14.size
    have S_14 := S_13.below hd14
    refine ⟨_, _, rfl, .all hd14, ?_⟩
    intro m25 g_m25
    refine ⟨(by first | omega | (simp only; omega)), ?_, ?_⟩
    · intro h8
      try simp only [Bool.not_eq_true', Bool.not_eq_false', decide_eq_true_eq, decide_eq_false_iff_not] at h8
      refine ⟨(by first | omega | (simp only; omega)), (by first | omega | (simp only; omega)), (by first | omega | (simp only; omega)), (by first | omega | (simp only; omega)), (by first | omega | (simp only; omega)), (by first | omega | (simp only; omega)), (by first | omega | (simp only; omega)), ?_⟩
      intro w15 hb15 hk15
      have y15 := hb15.size
      have z15 := hk15.size; have o15 := hk15.own
      simp only [List.mem_cons, List.not_mem_nil, or_false, forall_eq_or_imp, forall_eq] at o15
      have S_15 := S_14.ko hk15 (allc (.inr (by omega)) (allc (.inl (by simp)) (allc (.inl (by simp)) (allc (.inl (by simp)) (allc (.inl (by simp)) all0)))))
      refine Pure.calls (span_any2 _ _) fun w16 hd16 => ?_
      have hb16 := hb15.trans (hd16.mono hb15.size)
      have z16 := hd16.size
      have S_16 := S_15.below hd16
      refine ⟨_, _, rfl, .all hd16, ?_⟩
      intro m27 g_m27 w17 hb17 hk17 hc17_m25 hc17_m27
      have y17 := hb17.size
      have z17 := hk17.size; have o17 := hk17.own
      simp only [List.mem_cons, List.not_mem_nil, or_false, forall_eq_or_imp, forall_eq] at o17
      have S_17 := S_16.ko hk17 (allc (.inr (by omega)) (allc (.inr (by omega)) (allc (.inl (by simp)) (allc (.inl (by simp)) (allc (.inl (by simp)) (allc (.inl (by simp)) all0))))))
      refine append_two hc17_m25 hc17_m27 fun aL18 cL18 w18 hd18 LL_18 => ?_
      have hb18 := hb17.trans (hd18.mono hb17.size)
      have z18 := hd18.size
      have S_18 := S_17.below hd18
      refine ⟨_, _, _, rfl, .all hd18, ?_⟩
      intro m33 g_m33 w19 hb19 hk19 hc19_m33
      have y19 := hb19.size
      have z19 := hk19.size; have o19 := hk19.own
      simp only [List.mem_cons, List.not_mem_nil, or_false, forall_eq_or_imp, forall_eq] at o19
      have S_19 := S_18.ko hk19 (allc (.inr (by omega)) (allc (.inr (by omega)) (allc (.inr (by omega)) (allc (.inl (by simp)) (allc (.inl (by simp)) (allc (.inl (by simp)) (allc (.inl (by simp)) all0)))))))
      have LL_19 := LL_18.ko hk19 (allc (.inr (by omega)) (allc (.inl (by omega)) (allc (.inl (by omega)) (allc (.inl (by omega)) (allc (.inl (by omega)) (allc (.inl (by omega)) (allc (.inl (by omega)) all0)))))))
      have RN_19 := nsub2 (N := patN) (x := [(500 + x7, 500 + x7 + x8.tmod 12), (500 + x9, 500 + x9 + x10.tmod 12)]) (RR.grow (ms := [m33, m27, m25]) (allc (by omega) (allc (by omega) (allc (by omega) all0)))) S_19.h (fun x hx => by simp only [List.mem_append, List.mem_cons, List.not_mem_nil, or_false] at hx ⊢; omega) LL_19 zB (by omega) (by omega) (by simp only [List.cons_append, List.nil_append, List.mem_cons, List.not_mem_nil, or_false, forall_eq_or_imp, forall_eq]; omega)
      refine nappend2 (P := Try.prog) (bytes := 24) (by kernel_rfl) RN_19 (Cells.obj (vs := [.slice _ _ _]) hc19_m33) (List.forall_mem_cons.2 ⟨rfl, by simp⟩) (by simp [patN, spansV]) (by omega) (by omega) (by omega) (by simp only [List.cons_append, List.nil_append, List.mem_cons, List.not_mem_nil, or_false, forall_eq_or_imp, forall_eq]; omega) fun aR20 cR20 w20 RR_20 S20 cS20 hS20 hX20 => ?_
      have z20 := cS20.size
      simp only [List.cons_append, List.nil_append, List.mem_cons, List.not_mem_nil, or_false, not_or] at hS20
      have kx20 : KeepX true w.heap.size [m33, m27, m25, m16, m3, m2, m1] (fun _ => False) w19 w20 := cS20.own (fun x hx => ⟨hk19.own x hx, fun h => by
        have h1 := hS20 x h
        simp only [List.mem_cons, List.not_mem_nil, or_false] at hx; omega⟩) (by simp) (fun _ => ⟨hb19.size, fun x hx => by have := (hS20 x hx).1; omega⟩)
      refine ⟨_, _, _, rfl, kx20, (by first | omega | (simp only; omega)), ?_⟩
      intro w21 hb21 hk21 hc21_m16 hc21_m1 hc21_m16' hc21_m16' hc21_m16' hc21_m25 hc21_m16' hc21_m25' hc21_m16' hc21_m16' hc21_m16' hc21_m27 hc21_m3 hc21_m33 hc21_m3'
      have y21 := hb21.size
      have z21 := hk21.size; have o21 := hk21.own
      simp only [List.mem_cons, List.not_mem_nil, or_false, forall_eq_or_imp, forall_eq] at o21
      have RR_21 := RR_20.chg (Chg.kept hk21) (fun _ h => h)
      refine ⟨?_, (by first | omega | (simp only; omega))⟩
      exact ⟨B, ps ++ [_], ⟨by omega, by omega, by omega, by omega⟩, by rw [List.length_append]; rfl, ⟨by rw [List.length_append, List.length_singleton]; omega, by omega⟩, fun q hq => by
        rcases List.mem_append.1 hq with hq | hq
        · exact hP q hq
        · obtain rfl := List.mem_singleton.1 hq
          exact hN2, RR_21.less (by simp), rfl, rfl, rfl⟩
    · intro h9 m53 g_m53 w22 hb22 hk22 hc22_m53 hc22_m25
      try simp only [Bool.not_eq_true', Bool.not_eq_false', decide_eq_true_eq, decide_eq_false_iff_not] at h9
      have y22 := hb22.size
      have z22 := hk22.size; have o22 := hk22.own
      simp only [List.mem_cons, List.not_mem_nil, or_false, forall_eq_or_imp, forall_eq] at o22
      have S_22 := S_14.ko hk22 (allc (.inr (by omega)) (allc (.inr (by omega)) (allc (.inl (by simp)) (allc (.inl (by simp)) (allc (.inl (by simp)) (allc (.inl (by simp)) all0))))))
      have d25 : m53 ≠ m25 := fun e => by rw [e, hc22_m25] at hc22_m53; simp at hc22_m53
      have RN_22 := nsub2 (N := patN) (x := [(500 + x7, 500 + x7 + x8.tmod 12)]) (RR.grow (ms := [m53]) (allc (by omega) all0)) S_22.h (fun x hx => by simp only [List.mem_append, List.mem_cons, List.not_mem_nil, or_false] at hx ⊢; omega) (lies_lit hc22_m25) zB (by omega) (by omega) (by simp only [List.cons_append, List.nil_append, List.mem_cons, List.not_mem_nil, or_false, forall_eq_or_imp, forall_eq]; omega)
      refine nappend2 (P := Try.prog) (bytes := 24) (by kernel_rfl) RN_22 (Cells.obj (vs := [.slice _ _ _]) hc22_m53) (List.forall_mem_cons.2 ⟨rfl, by simp⟩) (by simp [patN, spansV]) (by omega) (by omega) (by omega) (by simp only [List.cons_append, List.nil_append, List.mem_cons, List.not_mem_nil, or_false, forall_eq_or_imp, forall_eq]; omega) fun aR23 cR23 w23 RR_23 S23 cS23 hS23 hX23 => ?_
      have z23 := cS23.size
      simp only [List.cons_append, List.nil_append, List.mem_cons, List.not_mem_nil, or_false, not_or] at hS23
      have kx23 : KeepX true w.heap.size [m53, m25, m16, m3, m2, m1] (fun _ => False) w22 w23 := cS23.own (fun x hx => ⟨hk22.own x hx, fun h => by
        have h1 := hS23 x h
        have h2 : x ≠ m25 := fun e => hX23 x h 0 (by rw [e])
        simp only [List.mem_cons, List.not_mem_nil, or_false] at hx; omega⟩) (by simp) (fun _ => ⟨hb22.size, fun x hx => by have := (hS23 x hx).1; omega⟩)
      have c25 := (cS23.keep m25 (lt_of_some hc22_m25) fun h => hX23 m25 h 0 rfl).trans hc22_m25
      refine ⟨_, _, _, rfl, kx23, (by first | omega | (simp only; omega)), ?_⟩
      intro w24 hb24 hk24 hc24_m16 hc24_m25 hc24_m1 hc24_m16' hc24_m16' hc24_m16' hc24_m25' hc24_m16' hc24_m3 hc24_m25' hc24_m53 hc24_m3' hc24_m25'
      have y24 := hb24.size
      have z24 := hk24.size; have o24 := hk24.own
      simp only [List.mem_cons, List.not_mem_nil, or_false, forall_eq_or_imp, forall_eq] at o24
      have RR_24 := RR_23.chg (chg_less (T := [m53, m16, m3, m2, m1]) (Chg.kept hk24) (fun x hx => by
        by_cases e : x = m25
        · exact .inr (by rw [e, hc24_m25, c25])
        · exact .inl (by simp only [List.mem_cons, List.not_mem_nil, or_false] at hx ⊢; omega))) (fun x hx => by simpa using hx)
      refine ⟨?_, (by first | omega | (simp only; omega))⟩
      exact ⟨B, ps ++ [_], ⟨by omega, by omega, by omega, by omega⟩, by rw [List.length_append]; rfl, ⟨by rw [List.length_append, List.length_singleton]; omega, by omega⟩, fun q hq => by
        rcases List.mem_append.1 hq with hq | hq
        · exact hP q hq
        · obtain rfl := List.mem_singleton.1 hq
          exact hN1, RR_24.less (by simp), rfl, rfl, rfl⟩
  · intro h10
    try simp only [Bool.not_eq_true', Bool.not_eq_false', decide_eq_true_eq, decide_eq_false_iff_not] at h10
    have h1f := ht1.symm.trans (by assumption : t1 = false)
    simp only [Bool.or_eq_false_iff, decide_eq_false_iff_not] at h1f
    have hn4 : 2 ≤ ps.length ∧ ps.length ≤ 4 := by omega
    have LP_8 := liesS_of RR (Nat.le_refl B)
    refine ⟨fun ls w' => match ls with | [.int _ ii, .sl a n c, .sl a2 n2 c2] => ∃ (B2 : Nat) (fs : List Fit), (m1 < B2 ∧ m2 < B2 ∧ m3 < B2 ∧ w8.heap.size ≤ B2 ∧ B2 ≤ w'.heap.size) ∧ n = ps.length ∧ n2 = fs.length ∧ ((fs.length : Int) = ii ∧ ii ≤ 4) ∧ (∀ f ∈ fs, OkF ps f) ∧ LiesS B w8.heap.size w' a ps ∧ RowE 67 6 B2 [m3, m2, m1] a2 n2 c2 (fitsV fs) w' | _ => False, fun ls => match ls with | [.int _ ii, _, _] => (5 - ii).toNat | _ => 0, ?_, ?_⟩
    · intro w26 hb26 hk26
      have y26 := hb26.size
      have z26 := hk26.size; have o26 := hk26.own
      simp only [List.mem_cons, List.not_mem_nil, or_false, forall_eq_or_imp, forall_eq] at o26
      have LP_26 := LP_8.ko hk26 (allc (.inl (by omega)) (allc (.inl (by omega)) (allc (.inl (by omega)) all0)))
      exact ⟨w26.heap.size, [], ⟨by omega, by omega, by omega, by omega, by omega⟩, rfl, rfl, ⟨by rfl, by omega⟩, by simp, LP_26, .inr Row.nil⟩
    rintro x15 a10 m72 m73 a11 m74 m75 w27 hb27 ⟨B2, fs, hB2, rfl, rfl, hii2, hF, LP, FF⟩
    have y27 := hb27.size
    refine ⟨fun ls w' => match ls with | [.bool t, .sl a n c, .sl a2 n2 c2] => t = (decide (x15 = 0) || (decide (x15 < (U.length : Int)) && decide (x15 < 4))) ∧ B2 ≤ w'.heap.size ∧ n = ps.length ∧ n2 = fs.length ∧ LiesS B w8.heap.size w' a ps ∧ RowE 67 6 B2 [m3, m2, m1] a2 n2 c2 (fitsV fs) w' | _ => False, ?_, ?_⟩
    · refine ⟨?_, ?_⟩
      · intro h11 w29 hb29 hk29
        try simp only [Bool.not_eq_true', Bool.not_eq_false', decide_eq_true_eq, decide_eq_false_iff_not] at h11
        have y29 := hb29.size
        have z29 := hk29.size; have o29 := hk29.own
        simp only [List.mem_cons, List.not_mem_nil, or_false, forall_eq_or_imp, forall_eq] at o29
        have LP_29 := LP.ko hk29 (allc (.inl (by omega)) (allc (.inl (by omega)) (allc (.inl (by omega)) all0)))
        have FF_29 := FF.chg (Chg.kept hk29) (fun _ h => h)
        exact ⟨by rw [decide_eq_true (show x15 = 0 by assumption), Bool.true_or], by omega, rfl, rfl, LP_29, FF_29⟩
      · intro h12
        try simp only [Bool.not_eq_true', Bool.not_eq_false', decide_eq_true_eq, decide_eq_false_iff_not] at h12
        refine ⟨?_, ?_⟩
        · intro h13 w30 hb30 hk30 hc30_m1
          try simp only [Bool.not_eq_true', Bool.not_eq_false', decide_eq_true_eq, decide_eq_false_iff_not] at h13
          have y30 := hb30.size
          have z30 := hk30.size; have o30 := hk30.own
          simp only [List.mem_cons, List.not_mem_nil, or_false, forall_eq_or_imp, forall_eq] at o30
          have LP_30 := LP.ko hk30 (allc (.inl (by omega)) (allc (.inl (by omega)) (allc (.inl (by omega)) all0)))
          have FF_30 := FF.chg (Chg.kept hk30) (fun _ h => h)
          exact ⟨by rw [decide_eq_false (show ¬ x15 = 0 by assumption), Bool.false_or, decide_eq_true (show x15 < (U.length : Int) by assumption), Bool.true_and], by omega, rfl, rfl, LP_30, FF_30⟩
        · intro h14 w31 hb31 hk31 hc31_m1
          try simp only [Bool.not_eq_true', Bool.not_eq_false', decide_eq_true_eq, decide_eq_false_iff_not] at h14
          have y31 := hb31.size
          have z31 := hk31.size; have o31 := hk31.own
          simp only [List.mem_cons, List.not_mem_nil, or_false, forall_eq_or_imp, forall_eq] at o31
          have LP_31 := LP.ko hk31 (allc (.inl (by omega)) (allc (.inl (by omega)) (allc (.inl (by omega)) all0)))
          have FF_31 := FF.chg (Chg.kept hk31) (fun _ h => h)
          exact ⟨by rw [decide_eq_false (show ¬ x15 = 0 by assumption), Bool.false_or, decide_eq_false (show ¬ x15 < (U.length : Int) by omega), Bool.false_and], by omega, rfl, rfl, LP_31, FF_31⟩
    rintro t2 a12 m80 m81 a13 m82 m83 w32 hb32 ⟨ht2, zB2, rfl, rfl, LP, FF⟩
    have y32 := hb32.size
    refine ⟨?_, ?_⟩
    · intro h15 m84 g_m84
      try simp only [Bool.not_eq_true', Bool.not_eq_false', decide_eq_true_eq, decide_eq_false_iff_not] at h15
      have h2t := ht2.symm.trans (by assumption : t2 = true)
      simp only [Bool.or_eq_true, Bool.and_eq_true, decide_eq_true_eq] at h2t
      refine ⟨fun ls w' => match ls with | [.sl a n c, .sl a2 n2 c2, .int _ u0, .int _ u1, .int _ u2, .int _ u3] => ByteQ (u0, u1, u2, u3) ∧ B2 ≤ w'.heap.size ∧ n = ps.length ∧ n2 = fs.length ∧ LiesS B w8.heap.size w' a ps ∧ RowE 67 6 B2 [m84, m3, m2, m1] a2 n2 c2 (fitsV fs) w' | _ => False, ?_, ?_⟩
      · refine ⟨?_, ?_⟩
        · intro h16
          try simp only [Bool.not_eq_true', Bool.not_eq_false', decide_eq_true_eq, decide_eq_false_iff_not] at h16
          refine load_quad hU0 hb32 (by omega) fun m85 m86 hm2 => ?_
          refine ⟨(by first | omega | (simp only; omega)), ?_⟩
          intro w34 hb34 hk34 hc34_m1
          have y34 := hb34.size
          have z34 := hk34.size; have o34 := hk34.own
          simp only [List.mem_cons, List.not_mem_nil, or_false, forall_eq_or_imp, forall_eq] at o34
          have LP_34 := LP.ko hk34 (allc (.inr (by omega)) (allc (.inl (by omega)) (allc (.inl (by omega)) (allc (.inl (by omega)) all0))))
          have FF_34 := (FF.grow (ms := [m84]) (allc g_m84 all0)).chg (Chg.kept hk34) (fun _ h => h)
          exact ⟨quad_bd hU _, by omega, rfl, rfl, LP_34, FF_34⟩
        · intro h17 w35 hb35 hk35
          try simp only [Bool.not_eq_true', Bool.not_eq_false', decide_eq_true_eq, decide_eq_false_iff_not] at h17
          have y35 := hb35.size
          have z35 := hk35.size; have o35 := hk35.own
          simp only [List.mem_cons, List.not_mem_nil, or_false, forall_eq_or_imp, forall_eq] at o35
          have LP_35 := LP.ko hk35 (allc (.inr (by omega)) (allc (.inl (by omega)) (allc (.inl (by omega)) (allc (.inl (by omega)) all0))))
          have FF_35 := (FF.grow (ms := [m84]) (allc g_m84 all0)).chg (Chg.kept hk35) (fun _ h => h)
          exact ⟨by unfold ByteQ; simp, by omega, rfl, rfl, LP_35, FF_35⟩
      rintro a14 m88 m89 a15 m90 m91 x21 x22 x23 x24 w36 hb36 ⟨hbq, zB2, rfl, rfl, LP, FF⟩
      have y36 := hb36.size
      have hq := hbq
      unfold ByteQ at hq
      simp only at hq
      have qa := tmod_bd (b := (ps.length : Int)) hq.1.1 (by omega)
      have qb := tmod_bd (b := (ps.length : Int) - 1) hq.2.1.1 (by omega)
      have qc := tmod_bd (a := x21.tmod (ps.length : Int) + 1 + x22.tmod ((ps.length : Int) - 1)) (b := (ps.length : Int)) (by omega) (by omega)
      have pa := okP_get hP qa
      have pc := okP_get hP qc
      have na := pa.1
      have nc := pc.1
      have d25 : 0 ≤ x21.tdiv 16 ∧ x21.tdiv 16 ≤ 255 := tdiv_bd hq.1
      have d26 : 0 ≤ x22.tdiv 16 ∧ x22.tdiv 16 ≤ 255 := tdiv_bd hq.2.1
      have qd := tmod_bd (b := ((ps.getD (x21.tmod (ps.length : Int)).toNat []).length : Int)) d25.1 (by omega)
      have qe := tmod_bd (b := ((ps.getD ((x21.tmod (ps.length : Int) + 1 + x22.tmod ((ps.length : Int) - 1)).tmod (ps.length : Int)).toNat []).length : Int)) d26.1 (by omega)
      have sa := okP_span pa qd
      have sc := okP_span pc qe
      have q27 := tmod_bd (b := 8) hq.2.2.1.1 (by omega)
      have q28 := tmod_bd (b := 8) hq.2.2.2.1 (by omega)
      have hne := shift_ne (n := (ps.length : Int)) hq.1.1 hq.2.1.1 (by omega)
      have hnf : OkF ps ⟨x21.tmod (ps.length : Int), (x21.tdiv 16).tmod ((ps.getD (x21.tmod (ps.length : Int)).toNat []).length : Int), (x21.tmod (ps.length : Int) + 1 + x22.tmod ((ps.length : Int) - 1)).tmod (ps.length : Int), (x22.tdiv 16).tmod ((ps.getD ((x21.tmod (ps.length : Int) + 1 + x22.tmod ((ps.length : Int) - 1)).tmod (ps.length : Int)).toNat []).length : Int), (((ps.getD (x21.tmod (ps.length : Int)).toNat []).getD ((x21.tdiv 16).tmod ((ps.getD (x21.tmod (ps.length : Int)).toNat []).length : Int)).toNat (0, 0)).1 - ((ps.getD ((x21.tmod (ps.length : Int) + 1 + x22.tmod ((ps.length : Int) - 1)).tmod (ps.length : Int)).toNat []).getD ((x22.tdiv 16).tmod ((ps.getD ((x21.tmod (ps.length : Int) + 1 + x22.tmod ((ps.length : Int) - 1)).tmod (ps.length : Int)).toNat []).length : Int)).toNat (0, 0)).2 + x23.tmod 8 - 4, max (((ps.getD (x21.tmod (ps.length : Int)).toNat []).getD ((x21.tdiv 16).tmod ((ps.getD (x21.tmod (ps.length : Int)).toNat []).length : Int)).toNat (0, 0)).1 - ((ps.getD ((x21.tmod (ps.length : Int) + 1 + x22.tmod ((ps.length : Int) - 1)).tmod (ps.length : Int)).toNat []).getD ((x22.tdiv 16).tmod ((ps.getD ((x21.tmod (ps.length : Int) + 1 + x22.tmod ((ps.length : Int) - 1)).tmod (ps.length : Int)).toNat []).length : Int)).toNat (0, 0)).2 + x23.tmod 8 - 4) (((ps.getD (x21.tmod (ps.length : Int)).toNat []).getD ((x21.tdiv 16).tmod ((ps.getD (x21.tmod (ps.length : Int)).toNat []).length : Int)).toNat (0, 0)).2 - ((ps.getD ((x21.tmod (ps.length : Int) + 1 + x22.tmod ((ps.length : Int) - 1)).tmod (ps.length : Int)).toNat []).getD ((x22.tdiv 16).tmod ((ps.getD ((x21.tmod (ps.length : Int) + 1 + x22.tmod ((ps.length : Int) - 1)).tmod (ps.length : Int)).toNat []).length : Int)).toNat (0, 0)).1 + x24.tmod 8 - 4))⟩ := ⟨hne, ⟨qa, qd⟩, ⟨qc, qe⟩, by simp only; omega⟩
      refine ⟨(by first | omega | (simp only; omega)), (by first | omega | (simp only; omega)), ?_⟩
      intro m92 g_m92
      refine ⟨(by first | omega | (simp only; omega)), (by first | omega | (simp only; omega)), (by first | omega | (simp only; omega)), (by first | omega | (simp only; omega)), (by first | omega | (simp only; omega)), (by first | omega | (simp only; omega)), (by first | omega | (simp only; omega)), (by first | omega | (simp only; omega)), ?_⟩
      refine load_patL LP (by omega) fun m93 m94 hm3 a16 m96 hs3 => ?_
      have hs3_36 := hs3
      refine ⟨(by first | omega | (simp only; omega)), (by first | omega | (simp only; omega)), (by first | omega | (simp only; omega)), (by first | omega | (simp only; omega)), ?_⟩
      refine load_patL LP (by omega) fun m97 m98 hm4 a17 m100 hs4 => ?_
      have hs4_36 := hs4
      refine ⟨(by first | omega | (simp only; omega)), (by first | omega | (simp only; omega)), ?_⟩
      refine load_patL LP (by omega) fun m101 m102 hm5 a18 m104 hs5 => ?_
      have hs5_36 := hs5
      refine ⟨(by first | omega | (simp only; omega)), ?_⟩
      refine load_spanL hs5_36 (by omega) fun m105 m106 hm6 => ?_
      refine ⟨(by first | omega | (simp only; omega)), ?_⟩
      intro m107 g_m107 m108 g_m108
      refine load_patL LP (by omega) fun m109 m110 hm7 a19 m112 hs7 => ?_
      have hs7_36 := hs7
      refine ⟨(by first | omega | (simp only; omega)), ?_⟩
      refine load_spanL hs7_36 (by omega) fun m113 m114 hm8 => ?_
      refine ⟨(by first | omega | (simp only; omega)), (by first | omega | (simp only; omega)), (by first | omega | (simp only; omega)), (by first | omega | (simp only; omega)), (by first | omega | (simp only; omega)), (by first | omega | (simp only; omega)), (by first | omega | (simp only; omega)), (by first | omega | (simp only; omega)), (by first | omega | (simp only; omega)), (by first | omega | (simp only; omega)), (by first | omega | (simp only; omega)), ?_⟩
      intro w37 hb37 hk37
      have y37 := hb37.size
      have z37 := hk37.size; have o37 := hk37.own
      simp only [List.mem_cons, List.not_mem_nil, or_false, forall_eq_or_imp, forall_eq] at o37
      have LP_37 := LP.ko hk37 (allc (.inr (by omega)) (allc (.inr (by omega)) (allc (.inr (by omega)) (allc (.inr (by omega)) (allc (.inl (by omega)) (allc (.inl (by omega)) (allc (.inl (by omega)) all0)))))))
      have hs3_37 := hs3_36.ko hk37 (allc (.inr (by omega)) (allc (.inr (by omega)) (allc (.inr (by omega)) (allc (.inr (by omega)) (allc (.inl (by omega)) (allc (.inl (by omega)) (allc (.inl (by omega)) all0)))))))
      have hs4_37 := hs4_36.ko hk37 (allc (.inr (by omega)) (allc (.inr (by omega)) (allc (.inr (by omega)) (allc (.inr (by omega)) (allc (.inl (by omega)) (allc (.inl (by omega)) (allc (.inl (by omega)) all0)))))))
      have hs5_37 := hs5_36.ko hk37 (allc (.inr (by omega)) (allc (.inr (by omega)) (allc (.inr (by omega)) (allc (.inr (by omega)) (allc (.inl (by omega)) (allc (.inl (by omega)) (allc (.inl (by omega)) all0)))))))
      have hs7_37 := hs7_36.ko hk37 (allc (.inr (by omega)) (allc (.inr (by omega)) (allc (.inr (by omega)) (allc (.inr (by omega)) (allc (.inl (by omega)) (allc (.inl (by omega)) (allc (.inl (by omega)) all0)))))))
      have FF_37 := (FF.grow (ms := [m108, m107, m92]) (allc g_m108 (allc g_m107 (allc g_m92 all0)))).chg (Chg.kept hk37) (fun _ h => h)
      refine Pure.calls (span_any2 _ _) fun w38 hd38 => ?_
      have hb38 := hb37.trans (hd38.mono hb37.size)
      have z38 := hd38.size
      have LP_38 := LP_37.below hd38
      have hs3_38 := hs3_37.below hd38
      have hs4_38 := hs4_37.below hd38
      have hs5_38 := hs5_37.below hd38
      have hs7_38 := hs7_37.below hd38
      have FF_38 := FF_37.below hd38
      refine ⟨_, _, rfl, .all hd38, ?_⟩
      intro m116 g_m116 w39 hb39 hk39 hc39_m116
      have y39 := hb39.size
      have z39 := hk39.size; have o39 := hk39.own
      simp only [List.mem_cons, List.not_mem_nil, or_false, forall_eq_or_imp, forall_eq] at o39
      have LP_39 := LP_38.ko hk39 (allc (.inr (by omega)) (allc (.inr (by omega)) (allc (.inr (by omega)) (allc (.inr (by omega)) (allc (.inr (by omega)) (allc (.inl (by omega)) (allc (.inl (by omega)) (allc (.inl (by omega)) all0))))))))
      have hs3_39 := hs3_38.ko hk39 (allc (.inr (by omega)) (allc (.inr (by omega)) (allc (.inr (by omega)) (allc (.inr (by omega)) (allc (.inr (by omega)) (allc (.inl (by omega)) (allc (.inl (by omega)) (allc (.inl (by omega)) all0))))))))
      have hs4_39 := hs4_38.ko hk39 (allc (.inr (by omega)) (allc (.inr (by omega)) (allc (.inr (by omega)) (allc (.inr (by omega)) (allc (.inr (by omega)) (allc (.inl (by omega)) (allc (.inl (by omega)) (allc (.inl (by omega)) all0))))))))
      have hs5_39 := hs5_38.ko hk39 (allc (.inr (by omega)) (allc (.inr (by omega)) (allc (.inr (by omega)) (allc (.inr (by omega)) (allc (.inr (by omega)) (allc (.inl (by omega)) (allc (.inl (by omega)) (allc (.inl (by omega)) all0))))))))
      have hs7_39 := hs7_38.ko hk39 (allc (.inr (by omega)) (allc (.inr (by omega)) (allc (.inr (by omega)) (allc (.inr (by omega)) (allc (.inr (by omega)) (allc (.inl (by omega)) (allc (.inl (by omega)) (allc (.inl (by omega)) all0))))))))
      have FF_39 := (FF_38.grow (ms := [m116]) (allc g_m116 all0)).chg (Chg.kept hk39) (fun _ h => h)
      refine append_rowE (P := Try.prog) (bytes := 48) (by kernel_rfl) (by omega) FF_39 (m := 1) (news := [I _, I _, I _, I _, I _, I _]) (Cells.obj (vs := [I _, I _, I _, I _, I _, I _]) hc39_m116) rfl (List.forall_mem_cons.2 ⟨rfl, List.forall_mem_cons.2 ⟨rfl, List.forall_mem_cons.2 ⟨rfl, List.forall_mem_cons.2 ⟨rfl, List.forall_mem_cons.2 ⟨rfl, List.forall_mem_cons.2 ⟨rfl, by simp⟩⟩⟩⟩⟩⟩) (by omega) (by omega) (by have := hb39.size; omega) hk39.own (by omega) fun aR40 cR40 w40 FF_40r S40 cS40 hS40 => ?_
      have FF_40 : RowE _ _ _ _ _ _ _ _ _ := .inr FF_40r
      have z40 := cS40.size
      have kx40 : KeepX true w.heap.size [m116, m108, m107, m92, m84, m3, m2, m1] (fun _ => False) w39 w40 := cS40.own (fun x hx => ⟨hk39.own x hx, fun h => (hS40 x h).2 hx⟩) (by simp) (fun _ => ⟨hb39.size, fun x hx => by have := (hS40 x hx).1; omega⟩)
      have LP_40 := LP_39.out cS40 (fun x hx => by have := (hS40 x hx).1; omega)
      have hs3_40 := hs3_39.out cS40 (fun x hx => by have := (hS40 x hx).1; omega)
      have hs4_40 := hs4_39.out cS40 (fun x hx => by have := (hS40 x hx).1; omega)
      have hs5_40 := hs5_39.out cS40 (fun x hx => by have := (hS40 x hx).1; omega)
      have hs7_40 := hs7_39.out cS40 (fun x hx => by have := (hS40 x hx).1; omega)
      refine ⟨_, _, _, rfl, kx40, (by first | omega | (simp only; omega)), ?_⟩
      intro w41 hb41 hk41 hc41_m84 hc41_m92 hc41_m107 hc41_m108 hc41_m1 hc41_m84' hc41_m3 hc41_m92' hc41_m84' hc41_m3' hc41_m3' hc41_m92' hc41_m84' hc41_m3' hc41_m92' hc41_m84' hc41_m3' hc41_m92' hc41_m92' hc41_m92' hc41_m3' hc41_m92' hc41_m92' hc41_m3' hc41_m92' hc41_m92' hc41_m107' hc41_m108' hc41_m84' hc41_m107' hc41_m108' hc41_m84' hc41_m92' hc41_m3' hc41_m116 hc41_m3'
      have y41 := hb41.size
      have z41 := hk41.size; have o41 := hk41.own
      simp only [List.mem_cons, List.not_mem_nil, or_false, forall_eq_or_imp, forall_eq] at o41
      have LP_41 := LP_40.ko hk41 (allc (.inr (by omega)) (allc (.inr (by omega)) (allc (.inr (by omega)) (allc (.inr (by omega)) (allc (.inr (by omega)) (allc (.inl (by omega)) (allc (.inl (by omega)) (allc (.inl (by omega)) all0))))))))
      have hs3_41 := hs3_40.ko hk41 (allc (.inr (by omega)) (allc (.inr (by omega)) (allc (.inr (by omega)) (allc (.inr (by omega)) (allc (.inr (by omega)) (allc (.inl (by omega)) (allc (.inl (by omega)) (allc (.inl (by omega)) all0))))))))
      have hs4_41 := hs4_40.ko hk41 (allc (.inr (by omega)) (allc (.inr (by omega)) (allc (.inr (by omega)) (allc (.inr (by omega)) (allc (.inr (by omega)) (allc (.inl (by omega)) (allc (.inl (by omega)) (allc (.inl (by omega)) all0))))))))
      have hs5_41 := hs5_40.ko hk41 (allc (.inr (by omega)) (allc (.inr (by omega)) (allc (.inr (by omega)) (allc (.inr (by omega)) (allc (.inr (by omega)) (allc (.inl (by omega)) (allc (.inl (by omega)) (allc (.inl (by omega)) all0))))))))
      have hs7_41 := hs7_40.ko hk41 (allc (.inr (by omega)) (allc (.inr (by omega)) (allc (.inr (by omega)) (allc (.inr (by omega)) (allc (.inr (by omega)) (allc (.inl (by omega)) (allc (.inl (by omega)) (allc (.inl (by omega)) all0))))))))
      have FF_41 := FF_40.chg (Chg.kept hk41) (fun _ h => h)
      refine ⟨?_, (by first | omega | (simp only; omega))⟩
      exact ⟨B2, fs ++ [⟨x21.tmod (ps.length : Int), (x21.tdiv 16).tmod ((ps.getD (x21.tmod (ps.length : Int)).toNat []).length : Int), (x21.tmod (ps.length : Int) + 1 + x22.tmod ((ps.length : Int) - 1)).tmod (ps.length : Int), (x22.tdiv 16).tmod ((ps.getD ((x21.tmod (ps.length : Int) + 1 + x22.tmod ((ps.length : Int) - 1)).tmod (ps.length : Int)).toNat []).length : Int), (((ps.getD (x21.tmod (ps.length : Int)).toNat []).getD ((x21.tdiv 16).tmod ((ps.getD (x21.tmod (ps.length : Int)).toNat []).length : Int)).toNat (0, 0)).1 - ((ps.getD ((x21.tmod (ps.length : Int) + 1 + x22.tmod ((ps.length : Int) - 1)).tmod (ps.length : Int)).toNat []).getD ((x22.tdiv 16).tmod ((ps.getD ((x21.tmod (ps.length : Int) + 1 + x22.tmod ((ps.length : Int) - 1)).tmod (ps.length : Int)).toNat []).length : Int)).toNat (0, 0)).2 + x23.tmod 8 - 4, max (((ps.getD (x21.tmod (ps.length : Int)).toNat []).getD ((x21.tdiv 16).tmod ((ps.getD (x21.tmod (ps.length : Int)).toNat []).length : Int)).toNat (0, 0)).1 - ((ps.getD ((x21.tmod (ps.length : Int) + 1 + x22.tmod ((ps.length : Int) - 1)).tmod (ps.length : Int)).toNat []).getD ((x22.tdiv 16).tmod ((ps.getD ((x21.tmod (ps.length : Int) + 1 + x22.tmod ((ps.length : Int) - 1)).tmod (ps.length : Int)).toNat []).length : Int)).toNat (0, 0)).2 + x23.tmod 8 - 4) (((ps.getD (x21.tmod (ps.length : Int)).toNat []).getD ((x21.tdiv 16).tmod ((ps.getD (x21.tmod (ps.length : Int)).toNat []).length : Int)).toNat (0, 0)).2 - ((ps.getD ((x21.tmod (ps.length : Int) + 1 + x22.tmod ((ps.length : Int) - 1)).tmod (ps.length : Int)).toNat []).getD ((x22.tdiv 16).tmod ((ps.getD ((x21.tmod (ps.length : Int) + 1 + x22.tmod ((ps.length : Int) - 1)).tmod (ps.length : Int)).toNat []).length : Int)).toNat (0, 0)).1 + x24.tmod 8 - 4))⟩], ⟨by omega, by omega, by omega, by omega, by omega⟩, rfl, by rw [List.length_append]; rfl, ⟨by rw [List.length_append, List.length_singleton]; omega, by omega⟩, fun q hq2 => by
        rcases List.mem_append.1 hq2 with hq2 | hq2
        · exact hF q hq2
        · obtain rfl := List.mem_singleton.1 hq2
          exact hnf, LP_41, by rw [fitsV_append]; exact FF_41.less (by simp)⟩
    · intro h18 w42 hb42 hk42
      try simp only [Bool.not_eq_true', Bool.not_eq_false', decide_eq_true_eq, decide_eq_false_iff_not] at h18
      have y42 := hb42.size
      have z42 := hk42.size; have o42 := hk42.own
      simp only [List.mem_cons, List.not_mem_nil, or_false, forall_eq_or_imp, forall_eq] at o42
      have LP_42 := LP.ko hk42 (allc (.inl (by omega)) (allc (.inl (by omega)) (allc (.inl (by omega)) all0)))
      have FF_42 := FF.chg (Chg.kept hk42) (fun _ h => h)
      exact ⟨⟨ps, fs⟩, _, _, _, _, by rfl, hb42, ⟨hn4, hP, ⟨by show 1 ≤ fs.length; have h2f := ht2.symm.trans (by assumption : t2 = false); simp only [Bool.or_eq_false_iff, decide_eq_false_iff_not] at h2f; omega, by show fs.length ≤ 4; omega⟩, hF⟩, LP_42.wide (by omega) (by omega), rowE_lies FF_42 (by omega)⟩
end Go.Proofs.R12
end
section
/- No more pairs: what the pairs are (plain). -/
namespace Go.Proofs.R12
open Go.Vc Go.RowKit Go.Proofs
section
variable {f : Fit} {H S : List Int}
def shaftAt (S : List Int) (i : Nat) : Int := (sortIdx S).getD i 0
def vAt (l : List Int) (x : Int) : Int := l.getD x.toNat 0
def qAt (f : Fit) (H S : List Int) (i : Nat) : List Int := (pairSt f H S i).1
def pAt (f : Fit) (H S : List Int) (i : Nat) : List (Int × Int) := (pairSt f H S i).2
def dAt (f : Fit) (H S : List Int) (i : Nat) : List Int := (qAt f H S i).dropWhile (smallQ f H S (shaftAt S i))

theorem dw_head {α : Type} {p : α → Bool} {x : α} {t : List α} : ∀ {l : List α}, l.dropWhile p = x :: t → p x = false
  | [], h => by simp at h
  | a :: l, h => by
    rw [List.dropWhile_cons] at h
    split at h
    · exact dw_head h
    · rename_i hp
      simp only [List.cons.injEq] at h
      rw [← h.1]; simpa using hp
theorem dw_mem {α : Type} {p : α → Bool} {x : α} : ∀ {l : List α}, x ∈ l → x ∈ l.dropWhile p ∨ p x = true
  | a :: l, h => by
    rw [List.dropWhile_cons]
    split
    · rename_i hp
      rcases List.mem_cons.1 h with rfl | h
      · exact .inr hp
      · exact dw_mem h
    · exact .inl h
theorem sort_pw (l : List Int) : (sortIdx l).Pairwise fun x y => vAt l x ≤ vAt l y :=
  (sortK_sorted (key := fun x => l.getD x.toNat 0) (idxs_nodup l.length)).imp fun h => by
    unfold lexLt at h; simp only at h; unfold vAt; omega
theorem shaft_le {i j : Nat} (hij : i ≤ j) (hj : j < S.length) : vAt S (shaftAt S i) ≤ vAt S (shaftAt S j) := by
  by_cases e : i = j
  · subst e; exact Int.le_refl _
  · have hl : (sortIdx S).length = S.length := sortIdx_len S
    have := List.pairwise_iff_getElem.1 (sort_pw S) i j (by omega) (by omega) (by omega)
    unfold shaftAt
    rw [List.getD_eq_getElem?_getD, List.getD_eq_getElem?_getD, List.getElem?_eq_getElem (by omega), List.getElem?_eq_getElem (by omega)]
    exact this
theorem suf_head {q : List Int} (hq : q <:+ sortIdx H) {x : Int} {t : List Int} (e : q = x :: t) {y : Int} (hy : y ∈ q) : vAt H x ≤ vAt H y := by
  have := (sort_pw H).sublist hq.sublist
  rw [e] at this hy
  rcases List.mem_cons.1 hy with rfl | hy
  · exact Int.le_refl _
  · exact (List.pairwise_cons.1 this).1 y hy
theorem q_suf {i : Nat} (h : i ≤ S.length) : qAt f H S i <:+ sortIdx H := (pairSt_inv h).1
theorem d_suf (i : Nat) : dAt f H S i <:+ qAt f H S i := List.dropWhile_suffix _
theorem step_spec {i : Nat} (h : i < S.length) : (∀ x ∈ dAt f H S i, f.gap.1 ≤ vAt H x - vAt S (shaftAt S i)) ∧
    ((qAt f H S (i + 1) = dAt f H S i ∧ pAt f H S (i + 1) = pAt f H S i ∧ ∀ x ∈ dAt f H S i, f.gap.2 < vAt H x - vAt S (shaftAt S i)) ∨
     ∃ x t, dAt f H S i = x :: t ∧ qAt f H S (i + 1) = t ∧ pAt f H S (i + 1) = pAt f H S i ++ [(shaftAt S i, x)] ∧ isF f (vAt H x) (vAt S (shaftAt S i))) := by
  have hs := pairSt_succ (f := f) (H := H) h
  have hd := (d_suf (f := f) (H := H) (S := S) i).trans (q_suf (f := f) (H := H) (Nat.le_of_lt h))
  unfold pstep at hs
  have hda : dAt f H S i = (pairSt f H S i).1.dropWhile (smallQ f H S ((sortIdx S).getD i 0)) := rfl
  rw [← hda] at hs
  cases e : dAt f H S i with
  | nil =>
    rw [e] at hs
    refine ⟨by simp, .inl ⟨?_, ?_, by simp⟩⟩
    · unfold qAt; rw [hs]
    · unfold pAt; rw [hs]
  | cons x t =>
    have hx := dw_head e
    unfold smallQ at hx
    have hx := of_decide_eq_false hx
    rw [e] at hs hd
    have hle : ∀ y ∈ x :: t, vAt H x ≤ vAt H y := fun y hy => suf_head hd rfl hy
    have hlo : f.gap.1 ≤ vAt H x - vAt S (shaftAt S i) := by unfold vAt; omega
    refine ⟨fun y hy => by have := hle y hy; omega, ?_⟩
    simp only at hs
    split at hs
    · rename_i hF
      exact .inr ⟨x, t, rfl, by unfold qAt; rw [hs], by unfold pAt; rw [hs]; rfl, hF⟩
    · rename_i hF
      refine .inl ⟨by unfold qAt; rw [hs], by unfold pAt; rw [hs], fun y hy => ?_⟩
      have := hle y hy
      have hF' : ¬ isF f (vAt H x) (vAt S (shaftAt S i)) := hF
      unfold isF at hF'
      omega
theorem q_sub {i : Nat} (h : i < S.length) : ∀ x ∈ qAt f H S (i + 1), x ∈ dAt f H S i := fun x hx => by
  rcases (step_spec (f := f) (H := H) h).2 with ⟨e, _⟩ | ⟨y, t, e, e2, _⟩
  · rw [← e]; exact hx
  · rw [e]; rw [e2] at hx; exact List.mem_cons_of_mem _ hx
theorem q_back {i : Nat} : ∀ {j : Nat}, i < j → j ≤ S.length → ∀ x ∈ qAt f H S j, x ∈ dAt f H S i
  | 0, h, _, _, _ => by omega
  | j + 1, h, hj, x, hx => by
    by_cases e : i = j
    · subst e; exact q_sub (by omega) x hx
    · exact q_back (j := j) (by omega) (by omega) x ((d_suf j).subset (q_sub (by omega) x hx))
theorem p_pre {i : Nat} : ∀ {j : Nat}, i ≤ j → j ≤ S.length → ∀ p ∈ pAt f H S i, p ∈ pAt f H S j
  | 0, h, _, p, hp => by obtain rfl : i = 0 := by omega
                         exact hp
  | j + 1, h, hj, p, hp => by
    by_cases e : i = j + 1
    · subst e; exact hp
    · have := p_pre (j := j) (by omega) (by omega) p hp
      rcases (step_spec (f := f) (H := H) (S := S) (i := j) (by omega)).2 with ⟨_, e, _⟩ | ⟨_, _, _, _, e, _⟩ <;> rw [e]
      · exact this
      · exact List.mem_append_left _ this
theorem p_at : ∀ {n : Nat}, n ≤ S.length → ∀ p ∈ pAt f H S n, ∃ j t, j < n ∧ p.1 = shaftAt S j ∧ dAt f H S j = p.2 :: t ∧ isF f (vAt H p.2) (vAt S p.1)
  | 0, _, p, hp => by simp [pAt, pairSt] at hp
  | n + 1, h, p, hp => by
    rcases (step_spec (f := f) (H := H) (S := S) (i := n) (by omega)).2 with ⟨_, e, _⟩ | ⟨x, t, e1, _, e, hF⟩ <;> rw [e] at hp
    · obtain ⟨j, t, h1, h2⟩ := p_at (by omega) p hp
      exact ⟨j, t, by omega, h2⟩
    · rcases List.mem_append.1 hp with hp | hp
      · obtain ⟨j, t, h1, h2⟩ := p_at (by omega) p hp
        exact ⟨j, t, by omega, h2⟩
      · rw [List.mem_singleton] at hp
        subst hp
        exact ⟨n, t, by omega, rfl, e1, hF⟩
/-- A pair fits. -/
theorem pair_fits {p : Int × Int} (hp : p ∈ pairK f H S) : isF f (vAt H p.2) (vAt S p.1) := by
  obtain ⟨_, _, _, _, _, h⟩ := p_at (Nat.le_refl _) p hp
  exact h
theorem shaft_idx {s : Int} (h : 0 ≤ s ∧ s < S.length) : ∃ i, i < S.length ∧ shaftAt S i = s := by
  have := (sortIdx_perm S).mem_iff.2 (idxs_in h.1 h.2)
  obtain ⟨i, hi, e⟩ := List.mem_iff_getElem.1 this
  have hl : (sortIdx S).length = S.length := sortIdx_len S
  exact ⟨i, by omega, by unfold shaftAt; rw [List.getD_eq_getElem?_getD, List.getElem?_eq_getElem hi]; exact e⟩
/-- A shaft without a hole: what is left is too great for it. -/
theorem free_great {i : Nat} (h : i < S.length) (hn : ∀ p ∈ pairK f H S, p.1 ≠ shaftAt S i) : qAt f H S (i + 1) = dAt f H S i ∧ ∀ x ∈ dAt f H S i, f.gap.2 < vAt H x - vAt S (shaftAt S i) := by
  rcases (step_spec (f := f) (H := H) h).2 with ⟨e1, _, e2⟩ | ⟨x, t, _, _, e, _⟩
  · exact ⟨e1, e2⟩
  · have : (shaftAt S i, x) ∈ pAt f H S (i + 1) := by rw [e]; simp
    exact absurd rfl (hn _ (p_pre (by omega) (Nat.le_refl _) _ this))
/-- From the turn of a shaft to that of another one no hole is laid aside as too small. -/
def Claim (f : Fit) (H S : List Int) (i i0 : Nat) : Prop := ∀ x ∈ dAt f H S i, ∀ t, i < t → t ≤ i0 → x ∈ qAt f H S t → x ∈ dAt f H S t
theorem short_claim {s : Int} (h : Short f H S (pairK f H S) s) : ∃ i i0, i ≤ i0 ∧ i0 < S.length ∧ shaftAt S i = s ∧ (∀ p ∈ pairK f H S, p.1 ≠ shaftAt S i0) ∧ Claim f H S i i0 := by
  induction h with
  | @free s h0 h1 hn =>
    obtain ⟨i, hi, e⟩ := shaft_idx ⟨h0, h1⟩
    exact ⟨i, i, Nat.le_refl _, hi, e, fun p hp => by rw [e]; exact look_mem_none hn p hp, fun x _ t h1 h2 => by omega⟩
  | @next s h s' _ h0 h1 hf hp ih =>
    obtain ⟨i, i0, hii, hi0, rfl, hfree, hcl⟩ := ih
    obtain ⟨j, t, hj, e1, e2, _⟩ := p_at (Nat.le_refl _) _ hp
    simp only at e1 e2
    have hd : h ∈ dAt f H S j := by rw [e2]; exact List.mem_cons_self
    have hf' : isF f (vAt H h) (vAt S (shaftAt S i)) := hf
    unfold isF at hf'
    have hjs : ∀ y ∈ dAt f H S j, vAt H h ≤ vAt H y := fun y hy => suf_head ((d_suf j).trans (q_suf (by omega))) e2 hy
    by_cases hji : j ≤ i0
    · refine ⟨j, i0, hji, hi0, e1.symm, hfree, ?_⟩
      by_cases hij : i ≤ j
      · intro x hx t h1 h2 h3
        by_cases e : i = j
        · subst e; exact hcl x hx t h1 h2 h3
        · exact hcl x (q_back (j := j) (by omega) (by omega) x ((d_suf j).subset hx)) t (by omega) h2 h3
      · intro x hx t h1 h2 h3
        by_cases ht : t ≤ i
        · rcases dw_mem (p := smallQ f H S (shaftAt S t)) h3 with h4 | h4
          · exact h4
          · unfold smallQ at h4
            have h4 := of_decide_eq_true h4
            have h5 := hjs x hx
            have h6 := shaft_le (S := S) ht (by omega)
            unfold vAt at *
            omega
        · exact hcl x (q_back (j := t) (by omega) (by omega) x h3) t (by omega) h2 h3
    · have hg := (free_great hi0 hfree).2 h (q_back (j := j) (by omega) (by omega) h ((d_suf j).subset hd))
      have := shaft_le (S := S) hii hi0
      omega
/-- Each hole that fits a short shaft has a shaft. -/
theorem fit_taken {h : Int} (hh : FitS f H S (pairK f H S) h) : ∃ p ∈ pairK f H S, p.2 = h := by
  obtain ⟨⟨h0, h1⟩, s, hs, hf⟩ := hh
  obtain ⟨i, i0, hii, hi0, rfl, hfree, hcl⟩ := short_claim hs
  have hf' : isF f (vAt H h) (vAt S (shaftAt S i)) := hf
  unfold isF at hf'
  obtain ⟨e, hg⟩ := free_great hi0 hfree
  have hout : h ∉ qAt f H S (i0 + 1) := fun hm => by
    rw [e] at hm
    have := hg h hm
    have := shaft_le (S := S) hii hi0
    omega
  have hin : h ∈ qAt f H S 0 := (sortIdx_perm H).mem_iff.2 (idxs_in h0 h1)
  have : ∀ n, h ∉ qAt f H S n → ∃ t, t < n ∧ h ∈ qAt f H S t ∧ h ∉ qAt f H S (t + 1) := fun n => by
    induction n with
    | zero => exact fun hn => absurd hin hn
    | succ n ih =>
      intro hn
      by_cases hq : h ∈ qAt f H S n
      · exact ⟨n, by omega, hq, hn⟩
      · obtain ⟨t, h1, h2⟩ := ih hq
        exact ⟨t, by omega, h2⟩
  obtain ⟨t, ht, hq, hnq⟩ := this _ hout
  have hd : h ∈ dAt f H S t := by
    by_cases hti : t ≤ i
    · rcases dw_mem (p := smallQ f H S (shaftAt S t)) hq with h4 | h4
      · exact h4
      · unfold smallQ at h4
        have h4 := of_decide_eq_true h4
        have h6 := shaft_le (S := S) hti (by omega)
        unfold vAt at *
        omega
    · exact hcl h (q_back (j := t) (by omega) (by omega) h hq) t (by omega) (by omega) hq
  rcases (step_spec (f := f) (H := H) (S := S) (i := t) (by omega)).2 with ⟨e1, _⟩ | ⟨x, r, e1, e2, e3, _⟩
  · exact absurd (by rw [e1]; exact hd) hnq
  · rw [e1] at hd
    rcases List.mem_cons.1 hd with rfl | hd
    · exact ⟨(shaftAt S t, h), p_pre (i := t + 1) (by omega) (Nat.le_refl _) _ (by rw [e3]; simp), rfl⟩
    · exact absurd (by rw [e2]; exact hd) hnq
end
/-- Lists without repetition that have the same elements are equally long. -/
theorem nodup_eq {α : Type} [DecidableEq α] {l m : List α} (hl : l.Nodup) (hm : m.Nodup) (h : ∀ x, x ∈ l ↔ x ∈ m) : l.length = m.length := ((List.perm_ext_iff_of_nodup hl hm).2 h).length_eq
theorem filter_add {α : Type} (p : α → Bool) (l : List α) : (l.filter p).length + (l.filter fun x => !p x).length = l.length := by
  induction l with
  | nil => rfl
  | cons x l ih => simp only [List.filter_cons]; cases p x <;> simp <;> omega
section
variable {f : Fit} {H S : List Int}
theorem look_of {ps : List (Int × Int)} (hn : (ps.map (·.1)).Nodup) {p : Int × Int} (hp : p ∈ ps) : ps.lookup p.1 = some p.2 := by
  induction ps with
  | nil => cases hp
  | cons q r ih =>
    obtain ⟨a, b⟩ := q
    simp only [List.map_cons, List.nodup_cons] at hn
    simp only [List.lookup]
    rcases List.mem_cons.1 hp with rfl | hp
    · simp
    · have : (p.1 == a) = false := by
        have : p.1 ≠ a := fun e => hn.1 (List.mem_map.2 ⟨p, hp, e⟩)
        simpa using this
      rw [this]; exact ih hn.2 hp
theorem pairsL_mem {ps : List (Int × Int)} {n m : Nat} (h : PsOk ps n m) {p : Int × Int} : p ∈ pairsL ps n ↔ p ∈ ps := by
  unfold pairsL
  rw [List.mem_filterMap]
  constructor
  · rintro ⟨s, _, e⟩
    cases hl : ps.lookup s with
    | none => rw [hl] at e; cases e
    | some x => rw [hl] at e; simp only [Option.map_some, Option.some.injEq] at e; subst e; exact look_mem hl
  · intro hp
    have hr := (h.r p hp).1
    exact ⟨p.1, idxs_in hr.1 hr.2, by rw [look_of h.nf hp]; rfl⟩
theorem pairsL_pw (ps : List (Int × Int)) (n : Nat) : (pairsL ps n).Pairwise fun p q => p.1 < q.1 := by
  unfold pairsL
  rw [List.pairwise_filterMap]
  refine (idxs_sorted n).imp fun {a b} hab x hx y hy => ?_
  cases ha : ps.lookup a with
  | none => rw [ha] at hx; cases hx
  | some u =>
    cases hb : ps.lookup b with
    | none => rw [hb] at hy; cases hy
    | some v =>
      rw [ha] at hx; rw [hb] at hy
      simp only [Option.map_some, Option.some.injEq] at hx hy
      subst hx; subst hy; exact hab
theorem nodup_of_fst {α : Type} {l : List (α × α)} (h : (l.map (·.1)).Nodup) : l.Nodup := (List.pairwise_map.1 h).imp fun {a b} hab e => hab (by rw [e])
theorem pairsL_length {ps : List (Int × Int)} {n m : Nat} (h : PsOk ps n m) : (pairsL ps n).length = ps.length :=
  nodup_eq ((pairsL_pw ps n).imp fun {a b} hab e => by subst e; omega) (nodup_of_fst h.nf) fun _ => pairsL_mem h
theorem pairsL_nd {ps : List (Int × Int)} {n m : Nat} (h : PsOk ps n m) : ((pairsL ps n).map (·.2)).Nodup := by
  have hp : (pairsL ps n).Perm ps := (List.perm_ext_iff_of_nodup ((pairsL_pw ps n).imp fun {a b} hab e => by subst e; omega) (nodup_of_fst h.nf)).2 fun _ => pairsL_mem h
  exact (hp.map _).nodup_iff.2 h.ns
open Classical in
theorem short_mem {s : Int} : s ∈ shortL f H S ↔ Short f H S (pairK f H S) s := by
  unfold shortL
  rw [List.mem_filter, decide_eq_true_eq]
  exact ⟨fun h => h.2, fun h => ⟨let h' := h.in (pairK_ok f H S); idxs_in h'.1 h'.2, h⟩⟩
open Classical in
theorem fit_mem {h : Int} : h ∈ fitL f H S ↔ FitS f H S (pairK f H S) h := by
  unfold fitL
  rw [List.mem_filter, decide_eq_true_eq]
  exact ⟨fun h => h.2, fun h => ⟨idxs_in h.1.1 h.1.2, h⟩⟩
theorem short_pw : (shortL f H S).Pairwise (· < ·) := (idxs_sorted _).sublist List.filter_sublist
theorem fit_pw : (fitL f H S).Pairwise (· < ·) := (idxs_sorted _).sublist List.filter_sublist
theorem pw_nodup {l : List Int} (h : l.Pairwise (· < ·)) : l.Nodup := h.imp fun {a b} hab e => by subst e; omega
open Classical in
/-- The short shafts are those without a hole, and as many as the holes that fit them. -/
theorem short_count : (shortL f H S).length + (pairK f H S).length = S.length + (fitL f H S).length := by
  have hk := pairK_ok f H S
  have hnd := nodup_of_fst hk.nf
  have h1 : (fitL f H S).length = ((pairK f H S).filter fun p => decide (p.2 ∈ fitL f H S)).length := by
    refine Eq.trans ?_ (List.length_map (·.2))
    refine nodup_eq (pw_nodup fit_pw) (hk.ns.sublist (List.filter_sublist.map _)) fun x => ?_
    constructor
    · intro hx
      obtain ⟨p, hp, e⟩ := fit_taken (fit_mem.1 hx)
      exact List.mem_map.2 ⟨p, List.mem_filter.2 ⟨hp, decide_eq_true (by rw [e]; exact hx)⟩, e⟩
    · intro hx
      obtain ⟨p, hp, e⟩ := List.mem_map.1 hx
      have := of_decide_eq_true (List.mem_filter.1 hp).2
      rw [← e]; exact this
  have h2 : ∀ p ∈ pairK f H S, p.2 ∈ fitL f H S ↔ p.1 ∈ shortL f H S := fun p hp => by
    rw [short_mem, fit_mem]
    constructor
    · rintro ⟨⟨h0, h1⟩, s, hs, hf⟩
      exact Short.next hs h0 h1 hf hp
    · intro hs
      exact ⟨(hk.r p hp).2, p.1, hs, pair_fits hp⟩
  have h3 : ((pairK f H S).filter fun p => decide (p.2 ∈ fitL f H S)) = (pairK f H S).filter fun p => decide (p.1 ∈ shortL f H S) := List.filter_congr fun p hp => by rw [decide_eq_decide]; exact h2 p hp
  have h4 := filter_add (fun p => decide (p.1 ∈ shortL f H S)) (pairK f H S)
  -- all shafts: the short ones, and those with a hole that are not short
  have h5 : S.length = (shortL f H S).length + ((pairK f H S).filter fun p => !decide (p.1 ∈ shortL f H S)).length := by
    have e : (idxs S.length).length = S.length := by simp [idxs]
    rw [show ((pairK f H S).filter fun p => !decide (p.1 ∈ shortL f H S)).length = (((pairK f H S).filter fun p => !decide (p.1 ∈ shortL f H S)).map (·.1)).length from (List.length_map _).symm, ← List.length_append]
    refine e.symm.trans (nodup_eq (idxs_nodup _) ?_ fun x => ?_)
    · rw [List.nodup_append]
      refine ⟨pw_nodup short_pw, hk.nf.sublist (List.filter_sublist.map _), fun a ha b hb e => ?_⟩
      obtain ⟨p, hp, rfl⟩ := List.mem_map.1 hb
      have := (List.mem_filter.1 hp).2
      simp only [Bool.not_eq_true', decide_eq_false_iff_not] at this
      exact this (by rw [← e]; exact ha)
    · rw [List.mem_append]
      constructor
      · intro hx
        have hx' := idxs_mem hx
        by_cases hs : x ∈ shortL f H S
        · exact .inl hs
        · cases hl : (pairK f H S).lookup x with
          | none => exact absurd (short_mem.2 (Short.free hx'.1 hx'.2 hl)) hs
          | some y => exact .inr (List.mem_map.2 ⟨(x, y), List.mem_filter.2 ⟨look_mem hl, by simp [hs]⟩, rfl⟩)
      · rintro (hx | hx)
        · have := (short_mem.1 hx).in hk
          exact idxs_in this.1 this.2
        · obtain ⟨p, hp, rfl⟩ := List.mem_map.1 hx
          have := (hk.r p (List.mem_filter.1 hp).1).1
          exact idxs_in this.1 this.2
  rw [h3] at h1
  omega
open Classical in
/-- With a wider gap there are no fewer pairs. -/
theorem wider_pairs {g : Fit} (h1 : g.gap.1 ≤ f.gap.1) (h2 : f.gap.2 ≤ g.gap.2) : (pairK f H S).length ≤ (pairK g H S).length := by
  have hk := pairK_ok f H S
  have hc := short_count (f := g) (H := H) (S := S)
  have h3 : ((pairK f H S).filter fun p => decide (p.1 ∈ shortL g H S)).length ≤ (fitL g H S).length := by
    refine Nat.le_trans (Nat.le_of_eq (List.length_map (·.2)).symm) ?_
    refine nodup_len (hk.ns.sublist (List.filter_sublist.map _)) fun x hx => ?_
    obtain ⟨p, hp, rfl⟩ := List.mem_map.1 hx
    obtain ⟨hp, hs⟩ := List.mem_filter.1 hp
    have hs := of_decide_eq_true hs
    have hf := pair_fits hp
    refine fit_mem.2 ⟨(hk.r p hp).2, p.1, short_mem.1 hs, ?_⟩
    show isF g _ _
    unfold isF vAt at *
    omega
  have h4 : ((pairK f H S).filter fun p => !decide (p.1 ∈ shortL g H S)).length + (shortL g H S).length ≤ S.length := by
    have e : (idxs S.length).length = S.length := by simp [idxs]
    rw [show ((pairK f H S).filter fun p => !decide (p.1 ∈ shortL g H S)).length = (((pairK f H S).filter fun p => !decide (p.1 ∈ shortL g H S)).map (·.1)).length from (List.length_map _).symm, ← List.length_append, ← e]
    refine nodup_len ?_ fun x hx => ?_
    · rw [List.nodup_append]
      refine ⟨hk.nf.sublist (List.filter_sublist.map _), pw_nodup short_pw, fun a ha b hb e => ?_⟩
      obtain ⟨p, hp, rfl⟩ := List.mem_map.1 ha
      have := (List.mem_filter.1 hp).2
      simp only [Bool.not_eq_true', decide_eq_false_iff_not] at this
      exact this (by rw [e]; exact hb)
    · rcases List.mem_append.1 hx with hx | hx
      · obtain ⟨p, hp, rfl⟩ := List.mem_map.1 hx
        have := (hk.r p (List.mem_filter.1 hp).1).1
        exact idxs_in this.1 this.2
      · have := (short_mem.1 hx).in (pairK_ok g H S)
        exact idxs_in this.1 this.2
  have h5 := filter_add (fun p => decide (p.1 ∈ shortL g H S)) (pairK f H S)
  omega
end
end Go.Proofs.R12
end
section
/- The conditions of the functions, printed by program; each is what the generator reckons (kernel_rfl). -/
namespace Go.Proofs
open Go.Vc
set_option maxRecDepth 100000 in
set_option maxHeartbeats 2000000 in
theorem vc43 (f0 : Int) (f1 : Int) (f2 : Int) (f3 : Int) (f4 : Int) (f5 : Int) (p1w0a : Option Addr) (p1w0n : Nat) (p1w0c : Nat) (p1w1a : Option Addr) (p1w1n : Nat) (p1w1c : Nat)
    (holesa : Option Addr) (holesn : Nat) (holesc : Nat) (shaftsa : Option Addr) (shaftsn : Nat) (shaftsc : Nat) (w : World) (R : Ending → World → Prop) (h : ∀ (m1 : Nat),
    w.heap.size ≤ m1 → ∀ (m2 : Nat), w.heap.size ≤ m2 → ∀ (m3 : Nat), w.heap.size ≤ m3 → ∀ (m4 : Nat), w.heap.size ≤ m4 → ∃ (m5 : Nat), ∃ (m6 : Nat), p1w0a = some
    { block := m5, off := m6 } ∧ (0 ≤ f0 ∧ f0 < (↑p1w0n : Int)) ∧ ∃ (a1 : Option Addr), ∃ (m7 : Nat), ∃ (m8 : Nat), w.cell? { block := m5, off := m6 + f0.toNat * 1 } = some
    (Value.slice a1 m7 m8) ∧ (m5 < w.heap.size ∨ m5 ≠ m4 ∧ m5 ≠ m3 ∧ m5 ≠ m2 ∧ m5 ≠ m1) ∧ ∃ (m9 : Nat), ∃ (m10 : Nat), a1 = some { block := m9, off := m10 } ∧ (0 ≤ f1 ∧ f1 < (↑m7 :
    Int)) ∧ ∃ (x1 : Int), ∃ (x2 : Int), w.cell? { block := m9, off := m10 + f1.toNat * 2 } = some (Value.int IntKind.i64 x1) ∧ w.cell?
    { block := m9, off := m10 + f1.toNat * 2 + 1 } = some (Value.int IntKind.i64 x2) ∧ (m9 < w.heap.size ∨ m9 ≠ m4 ∧ m9 ≠ m3 ∧ m9 ≠ m2 ∧ m9 ≠ m1) ∧ ∀ (m11 : Nat), w.heap.size ≤ m11
    → ∀ (m12 : Nat), w.heap.size ≤ m12 → ∃ (m13 : Nat), ∃ (m14 : Nat), p1w0a = some { block := m13, off := m14 } ∧ (0 ≤ f2 ∧ f2 < (↑p1w0n : Int)) ∧ ∃ (a2 : Option Addr), ∃ (m15 :
    Nat), ∃ (m16 : Nat), w.cell? { block := m13, off := m14 + f2.toNat * 1 } = some (Value.slice a2 m15 m16) ∧ (m13 < w.heap.size ∨ m13 ≠ m4 ∧ m13 ≠ m3 ∧ m13 ≠ m12 ∧ m13 ≠ m11 ∧
    m13 ≠ m2 ∧ m13 ≠ m1) ∧ ∃ (m17 : Nat), ∃ (m18 : Nat), a2 = some { block := m17, off := m18 } ∧ (0 ≤ f3 ∧ f3 < (↑m15 : Int)) ∧ ∃ (x3 : Int), ∃ (x4 : Int), w.cell?
    { block := m17, off := m18 + f3.toNat * 2 } = some (Value.int IntKind.i64 x3) ∧ w.cell? { block := m17, off := m18 + f3.toNat * 2 + 1 } = some (Value.int IntKind.i64 x4) ∧ (m17
    < w.heap.size ∨ m17 ≠ m4 ∧ m17 ≠ m3 ∧ m17 ≠ m12 ∧ m17 ≠ m11 ∧ m17 ≠ m2 ∧ m17 ≠ m1) ∧ ∃ (F1 : List Lf → World → Prop), ∃ (F2 : List Lf → Nat), (∀ (w2 : World), RowKit.Below
    w.heap.size w w2 → Kept [m4, m3, m12, m11, m2, m1] w w2 → w2.heap[m3]? = some (Obj.cells #[] 3) → F1 [Lf.sl (some { block := m3, off := 0 }) 0 0, Lf.int IntKind.i64 0] w2) ∧ ∀
    (a3 : Option Addr) (m20 m21 : Nat) (x5 : Int) (w3 : World), RowKit.Below w.heap.size w w3 → F1 [Lf.sl a3 m20 m21, Lf.int IntKind.i64 x5] w3 → (x5 < (↑holesn : Int) → (x5 < 20 →
    (-9223372036854775808 ≤ x1 - 5 ∧ x1 - (5 : Int) ≤ 9223372036854775807) ∧ ∃ (m22 : Nat), ∃ (m23 : Nat), holesa = some { block := m22, off := m23 } ∧ (0 ≤ x5 ∧ x5 < (↑holesn :
    Int)) ∧ ∃ (x6 : Int), w3.cell? { block := m22, off := m23 + x5.toNat * 1 } = some (Value.int IntKind.u8 x6) ∧ (m22 < w.heap.size ∨ m22 ≠ m4 ∧ m22 ≠ m12 ∧ m22 ≠ m11 ∧ m22 ≠ m2 ∧
    m22 ≠ m1) ∧ (-9223372036854775808 ≤ x6 ∧ x6 ≤ 9223372036854775807) ∧ (-9223372036854775808 ≤ x2 - x1 ∧ x2 - x1 ≤ 9223372036854775807) ∧ (-9223372036854775808 ≤ x2 - x1 + 11 ∧
    x2 - x1 + (11 : Int) ≤ 9223372036854775807) ∧ x2 - x1 + (11 : Int) ≠ 0 ∧ (-9223372036854775808 ≤ x1 - 5 + x6.tmod (x2 - x1 + 11) ∧ x1 - 5 + x6.tmod (x2 - x1 + 11) ≤
    9223372036854775807) ∧ ∀ (m24 : Nat), w3.heap.size ≤ m24 → ∀ (w4 : World), RowKit.Below w.heap.size w w4 → KeptIn [(0, w3.heap.size)] [m24, m4, m12, m11, m2, m1] w3 w4 →
    w4.heap[m24]? = some (Obj.cells #[Value.int IntKind.i64 (x1 - 5 + x6.tmod (x2 - x1 + 11))] 3) → RunsTo Try.prog (Builtin.append_ #[38, 38] 38 #[Value.slice a3 m20 m21,
    Value.slice (some { block := m24, off := 0 }) 1 1]) w4 fun (v1 : Value) (w5 : World) => ∃ (a4 : Option Addr), ∃ (m26 : Nat), ∃ (m27 : Nat), v1 = Value.slice a4 m26 m27 ∧ KeepX
    true w.heap.size [m24, m4, m12, m11, m2, m1] (fun _ => False) w4 w5 ∧ (-9223372036854775808 ≤ x5 + 1 ∧ x5 + (1 : Int) ≤ 9223372036854775807) ∧ ∀ (w6 : World), RowKit.Below
    w.heap.size w w6 → Kept [m24, m4, m12, m11, m2, m1] w5 w6 → F1 [Lf.sl a4 m26 m27, Lf.int IntKind.i64 (x5 + 1)] w6 ∧ F2 [Lf.sl a4 m26 m27, Lf.int IntKind.i64 (x5 + 1)] < F2
    [Lf.sl a3 m20 m21, Lf.int IntKind.i64 x5]) ∧ (20 ≤ x5 → ∃ (F3 : List Lf → World → Prop), ∃ (F4 : List Lf → Nat), (∀ (w8 : World), RowKit.Below w.heap.size w w8 → Kept [m4, m12,
    m11, m2, m1] w3 w8 → w8.heap[m4]? = some (Obj.cells #[] 3) → F3 [Lf.sl (some { block := m4, off := 0 }) 0 0, Lf.int IntKind.i64 0] w8) ∧ ∀ (a5 : Option Addr) (m30 m31 : Nat)
    (x7 : Int) (w9 : World), RowKit.Below w.heap.size w w9 → F3 [Lf.sl a5 m30 m31, Lf.int IntKind.i64 x7] w9 → (x7 < (↑shaftsn : Int) → (x7 < 20 → (-9223372036854775808 ≤ x3 - 5 ∧
    x3 - (5 : Int) ≤ 9223372036854775807) ∧ ∃ (m32 : Nat), ∃ (m33 : Nat), shaftsa = some { block := m32, off := m33 } ∧ (0 ≤ x7 ∧ x7 < (↑shaftsn : Int)) ∧ ∃ (x8 : Int), w9.cell?
    { block := m32, off := m33 + x7.toNat * 1 } = some (Value.int IntKind.u8 x8) ∧ (m32 < w.heap.size ∨ m32 ≠ m12 ∧ m32 ≠ m11 ∧ m32 ≠ m2 ∧ m32 ≠ m1) ∧ (-9223372036854775808 ≤ x8 ∧
    x8 ≤ 9223372036854775807) ∧ (-9223372036854775808 ≤ x4 - x3 ∧ x4 - x3 ≤ 9223372036854775807) ∧ (-9223372036854775808 ≤ x4 - x3 + 11 ∧ x4 - x3 + (11 : Int) ≤
    9223372036854775807) ∧ x4 - x3 + (11 : Int) ≠ 0 ∧ (-9223372036854775808 ≤ x3 - 5 + x8.tmod (x4 - x3 + 11) ∧ x3 - 5 + x8.tmod (x4 - x3 + 11) ≤ 9223372036854775807) ∧ ∀ (m34 :
    Nat), w9.heap.size ≤ m34 → ∀ (w10 : World), RowKit.Below w.heap.size w w10 → KeptIn [(0, w9.heap.size)] [m34, m12, m11, m2, m1] w9 w10 → w10.heap[m34]? = some (Obj.cells
    #[Value.int IntKind.i64 (x3 - 5 + x8.tmod (x4 - x3 + 11))] 3) → RunsTo Try.prog (Builtin.append_ #[38, 38] 38 #[Value.slice a5 m30 m31, Value.slice (some
    { block := m34, off := 0 }) 1 1]) w10 fun (v2 : Value) (w11 : World) => ∃ (a6 : Option Addr), ∃ (m36 : Nat), ∃ (m37 : Nat), v2 = Value.slice a6 m36 m37 ∧ KeepX true w.heap.size
    [m34, m12, m11, m2, m1] (fun _ => False) w10 w11 ∧ (-9223372036854775808 ≤ x7 + 1 ∧ x7 + (1 : Int) ≤ 9223372036854775807) ∧ ∀ (w12 : World), RowKit.Below w.heap.size w w12 →
    Kept [m34, m12, m11, m2, m1] w11 w12 → F3 [Lf.sl a6 m36 m37, Lf.int IntKind.i64 (x7 + 1)] w12 ∧ F4 [Lf.sl a6 m36 m37, Lf.int IntKind.i64 (x7 + 1)] < F4 [Lf.sl a5 m30 m31,
    Lf.int IntKind.i64 x7]) ∧ (20 ≤ x7 → ∀ (w13 : World), RowKit.Below w.heap.size w w13 → Kept [m12, m11, m2, m1] w9 w13 → R (Ending.returned (Value.tuple #[Value.slice a3 m20
    m21, Value.slice a5 m30 m31])) w13)) ∧ ((↑shaftsn : Int) ≤ x7 → ∀ (w14 : World), RowKit.Below w.heap.size w w14 → Kept [m12, m11, m2, m1] w9 w14 → R (Ending.returned
    (Value.tuple #[Value.slice a3 m20 m21, Value.slice a5 m30 m31])) w14))) ∧ ((↑holesn : Int) ≤ x5 → ∃ (F5 : List Lf → World → Prop), ∃ (F6 : List Lf → Nat), (∀ (w16 : World),
    RowKit.Below w.heap.size w w16 → Kept [m4, m12, m11, m2, m1] w3 w16 → w16.heap[m4]? = some (Obj.cells #[] 3) → F5 [Lf.sl (some { block := m4, off := 0 }) 0 0, Lf.int
    IntKind.i64 0] w16) ∧ ∀ (a7 : Option Addr) (m40 m41 : Nat) (x9 : Int) (w17 : World), RowKit.Below w.heap.size w w17 → F5 [Lf.sl a7 m40 m41, Lf.int IntKind.i64 x9] w17 → (x9 <
    (↑shaftsn : Int) → (x9 < 20 → (-9223372036854775808 ≤ x3 - 5 ∧ x3 - (5 : Int) ≤ 9223372036854775807) ∧ ∃ (m42 : Nat), ∃ (m43 : Nat), shaftsa = some { block := m42, off := m43 }
    ∧ (0 ≤ x9 ∧ x9 < (↑shaftsn : Int)) ∧ ∃ (x10 : Int), w17.cell? { block := m42, off := m43 + x9.toNat * 1 } = some (Value.int IntKind.u8 x10) ∧ (m42 < w.heap.size ∨ m42 ≠ m12 ∧
    m42 ≠ m11 ∧ m42 ≠ m2 ∧ m42 ≠ m1) ∧ (-9223372036854775808 ≤ x10 ∧ x10 ≤ 9223372036854775807) ∧ (-9223372036854775808 ≤ x4 - x3 ∧ x4 - x3 ≤ 9223372036854775807) ∧
    (-9223372036854775808 ≤ x4 - x3 + 11 ∧ x4 - x3 + (11 : Int) ≤ 9223372036854775807) ∧ x4 - x3 + (11 : Int) ≠ 0 ∧ (-9223372036854775808 ≤ x3 - 5 + x10.tmod (x4 - x3 + 11) ∧ x3 -
    5 + x10.tmod (x4 - x3 + 11) ≤ 9223372036854775807) ∧ ∀ (m44 : Nat), w17.heap.size ≤ m44 → ∀ (w18 : World), RowKit.Below w.heap.size w w18 → KeptIn [(0, w17.heap.size)] [m44,
    m12, m11, m2, m1] w17 w18 → w18.heap[m44]? = some (Obj.cells #[Value.int IntKind.i64 (x3 - 5 + x10.tmod (x4 - x3 + 11))] 3) → RunsTo Try.prog (Builtin.append_ #[38, 38] 38
    #[Value.slice a7 m40 m41, Value.slice (some { block := m44, off := 0 }) 1 1]) w18 fun (v3 : Value) (w19 : World) => ∃ (a8 : Option Addr), ∃ (m46 : Nat), ∃ (m47 : Nat), v3 =
    Value.slice a8 m46 m47 ∧ KeepX true w.heap.size [m44, m12, m11, m2, m1] (fun _ => False) w18 w19 ∧ (-9223372036854775808 ≤ x9 + 1 ∧ x9 + (1 : Int) ≤ 9223372036854775807) ∧ ∀
    (w20 : World), RowKit.Below w.heap.size w w20 → Kept [m44, m12, m11, m2, m1] w19 w20 → F5 [Lf.sl a8 m46 m47, Lf.int IntKind.i64 (x9 + 1)] w20 ∧ F6 [Lf.sl a8 m46 m47, Lf.int
    IntKind.i64 (x9 + 1)] < F6 [Lf.sl a7 m40 m41, Lf.int IntKind.i64 x9]) ∧ (20 ≤ x9 → ∀ (w21 : World), RowKit.Below w.heap.size w w21 → Kept [m12, m11, m2, m1] w17 w21 → R
    (Ending.returned (Value.tuple #[Value.slice a3 m20 m21, Value.slice a7 m40 m41])) w21)) ∧ ((↑shaftsn : Int) ≤ x9 → ∀ (w22 : World), RowKit.Below w.heap.size w w22 → Kept [m12,
    m11, m2, m1] w17 w22 → R (Ending.returned (Value.tuple #[Value.slice a3 m20 m21, Value.slice a7 m40 m41])) w22))) : Calls Try.prog 43 #[Value.agg #[Value.int IntKind.i64 f0,
    Value.int IntKind.i64 f1, Value.int IntKind.i64 f2, Value.int IntKind.i64 f3, Value.int IntKind.i64 f4, Value.int IntKind.i64 f5], Value.agg #[Value.slice p1w0a p1w0n p1w0c,
    Value.slice p1w1a p1w1n p1w1c], Value.slice holesa holesn holesc, Value.slice shaftsa shaftsn shaftsc] w R := calls_of_vc (pure := true) (wrapAt := []) (muts := []) (esc := [])
    (args := [SV.pv (PV.agg [Lf.int IntKind.i64 f0, Lf.int IntKind.i64 f1, Lf.int IntKind.i64 f2, Lf.int IntKind.i64 f3, Lf.int IntKind.i64 f4, Lf.int IntKind.i64 f5]), SV.pv
    (PV.agg [Lf.sl p1w0a p1w0n p1w0c, Lf.sl p1w1a p1w1n p1w1c]), SV.pv (PV.one (Lf.sl holesa holesn holesc)), SV.pv (PV.one (Lf.sl shaftsa shaftsn shaftsc))]) (vs := [Value.agg
    #[Value.int IntKind.i64 f0, Value.int IntKind.i64 f1, Value.int IntKind.i64 f2, Value.int IntKind.i64 f3, Value.int IntKind.i64 f4, Value.int IntKind.i64 f5], Value.agg
    #[Value.slice p1w0a p1w0n p1w0c, Value.slice p1w1a p1w1n p1w1c], Value.slice holesa holesn holesc, Value.slice shaftsa shaftsn shaftsc]) Try.func43 rfl rfl rfl (Eq.mp (by
    kernel_rfl) h) 
set_option maxRecDepth 100000 in
set_option maxHeartbeats 2000000 in
theorem vc10 (x0a : Option Addr) (x0n : Nat) (x0c : Nat) (x1a : Option Addr) (x1n : Nat) (x1c : Nat) (holesa : Option Addr) (holesn : Nat) (holesc : Nat) (shaftsa : Option Addr)
    (shaftsn : Nat) (shaftsc : Nat) (w : World) (R : Ending → World → Prop) (h : ∀ (m1 : Nat), w.heap.size ≤ m1 → ∀ (w1 : World), RowKit.Below w.heap.size w w1 → Kept [m1] w w1 →
    Calls Try.prog 40 #[Value.agg #[Value.slice x0a x0n x0c, Value.slice x1a x1n x1c]] w1 fun (e1 : Ending) (w2 : World) => ∃ (a1 : Option Addr), ∃ (m2 : Nat), ∃ (m3 : Nat), ∃ (a2
    : Option Addr), ∃ (m4 : Nat), ∃ (m5 : Nat), e1 = Ending.returned (Value.agg #[Value.slice a1 m2 m3, Value.slice a2 m4 m5]) ∧ KeepX true w.heap.size [m1] (fun _ => False) w1 w2
    ∧ ∀ (m7 : Nat), w2.heap.size ≤ m7 → ∃ (m8 : Nat), ∃ (m9 : Nat), a2 = some { block := m8, off := m9 } ∧ ((0 : Int) ≤ 0 ∧ 0 < (↑m4 : Int)) ∧ ∃ (x1 : Int), ∃ (x2 : Int), ∃ (x3 :
    Int), ∃ (x4 : Int), ∃ (x5 : Int), ∃ (x6 : Int), w2.cell? { block := m8, off := m9 + Int.toNat 0 * 6 } = some (Value.int IntKind.i64 x1) ∧ w2.cell?
    { block := m8, off := m9 + Int.toNat 0 * 6 + 1 } = some (Value.int IntKind.i64 x2) ∧ w2.cell? { block := m8, off := m9 + Int.toNat 0 * 6 + 1 + 1 } = some (Value.int IntKind.i64
    x3) ∧ w2.cell? { block := m8, off := m9 + Int.toNat 0 * 6 + 1 + 1 + 1 } = some (Value.int IntKind.i64 x4) ∧ w2.cell?
    { block := m8, off := m9 + Int.toNat 0 * 6 + 1 + 1 + 1 + 1 } = some (Value.int IntKind.i64 x5) ∧ w2.cell? { block := m8, off := m9 + Int.toNat 0 * 6 + 1 + 1 + 1 + 1 + 1 } =
    some (Value.int IntKind.i64 x6) ∧ (m8 < w.heap.size ∨ m8 ≠ m7 ∧ m8 ≠ m1) ∧ ∀ (m10 : Nat), w2.heap.size ≤ m10 → ∀ (w3 : World), RowKit.Below w.heap.size w w3 → Kept [m10, m7,
    m1] w2 w3 → Calls Try.prog 43 #[Value.agg #[Value.int IntKind.i64 x1, Value.int IntKind.i64 x2, Value.int IntKind.i64 x3, Value.int IntKind.i64 x4, Value.int IntKind.i64 x5,
    Value.int IntKind.i64 x6], Value.agg #[Value.slice a1 m2 m3, Value.slice a2 m4 m5], Value.slice holesa holesn holesc, Value.slice shaftsa shaftsn shaftsc] w3 fun (e2 : Ending)
    (w4 : World) => ∃ (a3 : Option Addr), ∃ (m11 : Nat), ∃ (m12 : Nat), ∃ (a4 : Option Addr), ∃ (m13 : Nat), ∃ (m14 : Nat), e2 = Ending.returned (Value.tuple #[Value.slice a3 m11
    m12, Value.slice a4 m13 m14]) ∧ KeepX true w.heap.size [m10, m7, m1] (fun _ => False) w3 w4 ∧ ∀ (w5 : World), RowKit.Below w.heap.size w w5 → Kept [m10, m7, m1] w4 w5 → Calls
    Try.prog 15 #[Value.agg #[Value.slice a1 m2 m3, Value.slice a2 m4 m5]] w5 fun (e3 : Ending) (w6 : World) => ∃ (a5 : Option Addr), ∃ (m16 : Nat), ∃ (m17 : Nat), ∃ (a6 : Option
    Addr), ∃ (m18 : Nat), ∃ (m19 : Nat), e3 = Ending.returned (Value.agg #[Value.slice a5 m16 m17, Value.slice a6 m18 m19]) ∧ KeepX true w.heap.size [m10, m7, m1] (fun _ => False)
    w5 w6 ∧ ∀ (w7 : World), RowKit.Below w.heap.size w w7 → Kept [m10, m7, m1] w6 w7 → Calls Try.prog 29 #[Value.slice a3 m11 m12] w7 fun (e4 : Ending) (w8 : World) => ∃ (a7 :
    Option Addr), ∃ (m21 : Nat), ∃ (m22 : Nat), e4 = Ending.returned (Value.slice a7 m21 m22) ∧ KeepX true w.heap.size [m10, m7, m1] (fun _ => False) w7 w8 ∧ ∀ (w9 : World),
    RowKit.Below w.heap.size w w9 → Kept [m10, m7, m1] w8 w9 → Calls Try.prog 29 #[Value.slice a4 m13 m14] w9 fun (e5 : Ending) (w10 : World) => ∃ (a8 : Option Addr), ∃ (m24 :
    Nat), ∃ (m25 : Nat), e5 = Ending.returned (Value.slice a8 m24 m25) ∧ KeepX true w.heap.size [m10, m7, m1] (fun _ => False) w9 w10 ∧ ∀ (w11 : World), RowKit.Below w.heap.size w
    w11 → Kept [m10, m7, m1] w10 w11 → Calls Try.prog 30 #[Value.agg #[Value.slice a5 m16 m17, Value.slice a6 m18 m19], Value.int IntKind.i64 0, Value.slice a7 m21 m22, Value.slice
    a8 m24 m25] w11 fun (e6 : Ending) (w12 : World) => ∃ (a9 : Option Addr), ∃ (m27 : Nat), ∃ (m28 : Nat), ∃ (x7 : Int), e6 = Ending.returned (Value.tuple #[Value.slice a9 m27 m28,
    Value.int IntKind.i64 x7]) ∧ KeepX true w.heap.size [m10, m7, m1] (fun _ => False) w11 w12 ∧ ∀ (w13 : World), RowKit.Below w.heap.size w w13 → Kept [m10, m7, m1] w12 w13 →
    Calls Try.prog 15 #[Value.agg #[Value.slice a1 m2 m3, Value.slice a2 m4 m5]] w13 fun (e7 : Ending) (w14 : World) => ∃ (a10 : Option Addr), ∃ (m30 : Nat), ∃ (m31 : Nat), ∃ (a11
    : Option Addr), ∃ (m32 : Nat), ∃ (m33 : Nat), e7 = Ending.returned (Value.agg #[Value.slice a10 m30 m31, Value.slice a11 m32 m33]) ∧ KeepX true w.heap.size [m10, m7, m1] (fun _
    => False) w13 w14 ∧ ∀ (w15 : World), RowKit.Below w.heap.size w w15 → Kept [m10, m7, m1] w14 w15 → Calls Try.prog 29 #[Value.slice a3 m11 m12] w15 fun (e8 : Ending) (w16 :
    World) => ∃ (a12 : Option Addr), ∃ (m35 : Nat), ∃ (m36 : Nat), e8 = Ending.returned (Value.slice a12 m35 m36) ∧ KeepX true w.heap.size [m10, m7, m1] (fun _ => False) w15 w16 ∧
    ∀ (w17 : World), RowKit.Below w.heap.size w w17 → Kept [m10, m7, m1] w16 w17 → Calls Try.prog 29 #[Value.slice a4 m13 m14] w17 fun (e9 : Ending) (w18 : World) => ∃ (a13 :
    Option Addr), ∃ (m38 : Nat), ∃ (m39 : Nat), e9 = Ending.returned (Value.slice a13 m38 m39) ∧ KeepX true w.heap.size [m10, m7, m1] (fun _ => False) w17 w18 ∧ ∀ (w19 : World),
    RowKit.Below w.heap.size w w19 → Kept [m10, m7, m1] w18 w19 → Calls Try.prog 31 #[Value.agg #[Value.slice a10 m30 m31, Value.slice a11 m32 m33], Value.int IntKind.i64 0,
    Value.slice a12 m35 m36, Value.slice a13 m38 m39] w19 fun (e10 : Ending) (w20 : World) => ∃ (a14 : Option Addr), ∃ (m41 : Nat), ∃ (m42 : Nat), ∃ (a15 : Option Addr), ∃ (m43 :
    Nat), ∃ (m44 : Nat), ∃ (x8 : Int), e10 = Ending.returned (Value.tuple #[Value.slice a14 m41 m42, Value.slice a15 m43 m44, Value.int IntKind.i64 x8]) ∧ KeepX true w.heap.size
    [m10, m7, m1] (fun _ => False) w19 w20 ∧ (x7 ≠ 0 → ∀ (w21 : World), RowKit.Below w.heap.size w w21 → Kept [m10, m7, m1] w20 w21 → R (Ending.returned (Value.bool false)) w21) ∧
    (x7 = 0 → (x8 ≠ 0 → ∀ (w22 : World), RowKit.Below w.heap.size w w22 → Kept [m10, m7, m1] w20 w22 → R (Ending.returned (Value.bool false)) w22) ∧ (x8 = 0 → ∀ (w23 : World),
    RowKit.Below w.heap.size w w23 → Kept [m10, m7, m1] w20 w23 → RunsTo Try.prog (Instr.makeMap 87 none) w23 fun (v1 : Value) (w24 : World) => ∃ (m46 : Nat), v1 = Value.map (some
    m46) ∧ KeepX true w.heap.size [m10, m7, m1] (fun _ => False) w23 w24 ∧ ∀ (w25 : World), RowKit.Below w.heap.size w w25 → Kept [m10, m7, m1] w24 w25 → RunsTo Try.prog
    (Instr.makeMap 87 none) w25 fun (v2 : Value) (w26 : World) => ∃ (m48 : Nat), v2 = Value.map (some m48) ∧ KeepX true w.heap.size [m10, m7, m1] (fun _ => False) w25 w26 ∧ ∃ (F1 :
    List Lf → World → Prop), ∃ (F2 : List Lf → Nat), (∀ (w28 : World), RowKit.Below w.heap.size w w28 → Kept [m10, m7, m1] w26 w28 → F1 [Lf.bool false, Lf.int IntKind.i64 0] w28) ∧
    ∀ (t1 : Bool) (x9 : Int) (w29 : World), RowKit.Below w.heap.size w w29 → F1 [Lf.bool t1, Lf.int IntKind.i64 x9] w29 → (x9 < (↑m27 : Int) → ∃ (m50 : Nat), ∃ (m51 : Nat), a9 =
    some { block := m50, off := m51 } ∧ (0 ≤ x9 ∧ x9 < (↑m27 : Int)) ∧ ((0 : Int) ≤ 0 ∧ 0 < (↑2 : Int)) ∧ ∃ (x10 : Int), w29.cell?
    { block := m50, off := m51 + x9.toNat * 2 + Int.toNat 0 * 1 } = some (Value.int IntKind.i64 x10) ∧ (m50 < w.heap.size ∨ m50 ≠ m10 ∧ m50 ≠ m7 ∧ m50 ≠ m1) ∧ ∃ (m52 : Nat), ∃ (m53
    : Nat), a9 = some { block := m52, off := m53 } ∧ (0 ≤ x9 ∧ x9 < (↑m27 : Int)) ∧ ((0 : Int) ≤ 1 ∧ 1 < (↑2 : Int)) ∧ ∃ (x11 : Int), w29.cell?
    { block := m52, off := m53 + x9.toNat * 2 + Int.toNat 1 * 1 } = some (Value.int IntKind.i64 x11) ∧ (m52 < w.heap.size ∨ m52 ≠ m10 ∧ m52 ≠ m7 ∧ m52 ≠ m1) ∧ (x10 < 0 → ∀ (w30 :
    World), RowKit.Below w.heap.size w w30 → Kept [m10, m7, m1] w29 w30 → R (Ending.returned (Value.bool false)) w30) ∧ (0 ≤ x10 → ((↑m13 : Int) ≤ x10 → ∀ (w31 : World),
    RowKit.Below w.heap.size w w31 → Kept [m10, m7, m1] w29 w31 → R (Ending.returned (Value.bool false)) w31) ∧ (x10 < (↑m13 : Int) → (x11 < 0 → ∀ (w32 : World), RowKit.Below
    w.heap.size w w32 → Kept [m10, m7, m1] w29 w32 → R (Ending.returned (Value.bool false)) w32) ∧ (0 ≤ x11 → ((↑m11 : Int) ≤ x11 → ∀ (w33 : World), RowKit.Below w.heap.size w w33
    → Kept [m10, m7, m1] w29 w33 → R (Ending.returned (Value.bool false)) w33) ∧ (x11 < (↑m11 : Int) → ∀ (w34 : World), RowKit.Below w.heap.size w w34 → KeptIn [(0, w29.heap.size)]
    [m10, m7, m1] w29 w34 → RunsTo Try.prog (Instr.lookup 87 (Value.map (some m46)) (Value.int IntKind.i64 x11) false) w34 fun (v3 : Value) (w35 : World) => ∃ (t2 : Bool), v3 =
    Value.bool t2 ∧ KeepX true w.heap.size [m10, m7, m1] (fun _ => False) w34 w35 ∧ (t2 = true → ∀ (w36 : World), RowKit.Below w.heap.size w w36 → Kept [m10, m7, m1] w35 w36 → R
    (Ending.returned (Value.bool false)) w36) ∧ (t2 = false → ∀ (w37 : World), RowKit.Below w.heap.size w w37 → KeptIn [(0, w35.heap.size)] [m10, m7, m1] w35 w37 → RunsTo Try.prog
    (Instr.lookup 87 (Value.map (some m48)) (Value.int IntKind.i64 x10) false) w37 fun (v4 : Value) (w38 : World) => ∃ (t3 : Bool), v4 = Value.bool t3 ∧ KeepX true w.heap.size
    [m10, m7, m1] (fun _ => False) w37 w38 ∧ (t3 = true → ∀ (w39 : World), RowKit.Below w.heap.size w w39 → Kept [m10, m7, m1] w38 w39 → R (Ending.returned (Value.bool false)) w39)
    ∧ (t3 = false → (0 < x9 → (-9223372036854775808 ≤ x9 - 1 ∧ x9 - (1 : Int) ≤ 9223372036854775807) ∧ ∃ (m56 : Nat), ∃ (m57 : Nat), a9 = some { block := m56, off := m57 } ∧ (0 ≤
    x9 - 1 ∧ x9 - 1 < (↑m27 : Int)) ∧ ((0 : Int) ≤ 0 ∧ 0 < (↑2 : Int)) ∧ ∃ (x12 : Int), w38.cell? { block := m56, off := m57 + (x9 - 1).toNat * 2 + Int.toNat 0 * 1 } = some
    (Value.int IntKind.i64 x12) ∧ (m56 < w.heap.size ∨ m56 ≠ m10 ∧ m56 ≠ m7 ∧ m56 ≠ m1) ∧ (x10 ≤ x12 → ∀ (w40 : World), RowKit.Below w.heap.size w w40 → Kept [m10, m7, m1] w38 w40
    → R (Ending.returned (Value.bool false)) w40) ∧ (x12 < x10 → ∃ (m58 : Nat), ∃ (m59 : Nat), a3 = some { block := m58, off := m59 } ∧ (0 ≤ x11 ∧ x11 < (↑m11 : Int)) ∧ ∃ (x13 :
    Int), w38.cell? { block := m58, off := m59 + x11.toNat * 1 } = some (Value.int IntKind.i64 x13) ∧ (m58 < w.heap.size ∨ m58 ≠ m10 ∧ m58 ≠ m7 ∧ m58 ≠ m1) ∧ ∃ (m60 : Nat), ∃ (m61
    : Nat), a4 = some { block := m60, off := m61 } ∧ (0 ≤ x10 ∧ x10 < (↑m13 : Int)) ∧ ∃ (x14 : Int), w38.cell? { block := m60, off := m61 + x10.toNat * 1 } = some (Value.int
    IntKind.i64 x14) ∧ (m60 < w.heap.size ∨ m60 ≠ m10 ∧ m60 ≠ m7 ∧ m60 ≠ m1) ∧ (-9223372036854775808 ≤ x13 - x14 ∧ x13 - x14 ≤ 9223372036854775807) ∧ (x13 - x14 < x5 → ∀ (w41 :
    World), RowKit.Below w.heap.size w w41 → Kept [m10, m7, m1] w38 w41 → R (Ending.returned (Value.bool false)) w41) ∧ (x5 ≤ x13 - x14 → ∃ (m62 : Nat), ∃ (m63 : Nat), a3 = some
    { block := m62, off := m63 } ∧ (0 ≤ x11 ∧ x11 < (↑m11 : Int)) ∧ ∃ (x15 : Int), w38.cell? { block := m62, off := m63 + x11.toNat * 1 } = some (Value.int IntKind.i64 x15) ∧ (m62
    < w.heap.size ∨ m62 ≠ m10 ∧ m62 ≠ m7 ∧ m62 ≠ m1) ∧ ∃ (m64 : Nat), ∃ (m65 : Nat), a4 = some { block := m64, off := m65 } ∧ (0 ≤ x10 ∧ x10 < (↑m13 : Int)) ∧ ∃ (x16 : Int),
    w38.cell? { block := m64, off := m65 + x10.toNat * 1 } = some (Value.int IntKind.i64 x16) ∧ (m64 < w.heap.size ∨ m64 ≠ m10 ∧ m64 ≠ m7 ∧ m64 ≠ m1) ∧ (-9223372036854775808 ≤ x15
    - x16 ∧ x15 - x16 ≤ 9223372036854775807) ∧ (x6 < x15 - x16 → ∀ (w42 : World), RowKit.Below w.heap.size w w42 → Kept [m10, m7, m1] w38 w42 → R (Ending.returned (Value.bool
    false)) w42) ∧ (x15 - x16 ≤ x6 → ∀ (w43 : World), RowKit.Below w.heap.size w w43 → Kept [m10, m7, m1] w38 w43 → RunsTo Try.prog ((Instr.mapUpdate 87 (Value.map (some m46))
    (Value.int IntKind.i64 x11) (Value.bool true)) >>= fun _ => pure (Value.tuple #[])) w43 fun (v5 : Value) (w44 : World) => KeepX true w.heap.size [m10, m7, m1] (fun _ => False)
    w43 w44 ∧ ∀ (w45 : World), RowKit.Below w.heap.size w w45 → Kept [m10, m7, m1] w44 w45 → RunsTo Try.prog ((Instr.mapUpdate 87 (Value.map (some m48)) (Value.int IntKind.i64 x10)
    (Value.bool true)) >>= fun _ => pure (Value.tuple #[])) w45 fun (v6 : Value) (w46 : World) => KeepX true w.heap.size [m10, m7, m1] (fun _ => False) w45 w46 ∧
    (-9223372036854775808 ≤ x9 + 1 ∧ x9 + (1 : Int) ≤ 9223372036854775807) ∧ ∀ (w47 : World), RowKit.Below w.heap.size w w47 → Kept [m10, m7, m1] w46 w47 → F1 [Lf.bool t1, Lf.int
    IntKind.i64 (x9 + 1)] w47 ∧ F2 [Lf.bool t1, Lf.int IntKind.i64 (x9 + 1)] < F2 [Lf.bool t1, Lf.int IntKind.i64 x9])))) ∧ (x9 ≤ 0 → ∃ (m68 : Nat), ∃ (m69 : Nat), a3 = some
    { block := m68, off := m69 } ∧ (0 ≤ x11 ∧ x11 < (↑m11 : Int)) ∧ ∃ (x17 : Int), w38.cell? { block := m68, off := m69 + x11.toNat * 1 } = some (Value.int IntKind.i64 x17) ∧ (m68
    < w.heap.size ∨ m68 ≠ m10 ∧ m68 ≠ m7 ∧ m68 ≠ m1) ∧ ∃ (m70 : Nat), ∃ (m71 : Nat), a4 = some { block := m70, off := m71 } ∧ (0 ≤ x10 ∧ x10 < (↑m13 : Int)) ∧ ∃ (x18 : Int),
    w38.cell? { block := m70, off := m71 + x10.toNat * 1 } = some (Value.int IntKind.i64 x18) ∧ (m70 < w.heap.size ∨ m70 ≠ m10 ∧ m70 ≠ m7 ∧ m70 ≠ m1) ∧ (-9223372036854775808 ≤ x17
    - x18 ∧ x17 - x18 ≤ 9223372036854775807) ∧ (x17 - x18 < x5 → ∀ (w48 : World), RowKit.Below w.heap.size w w48 → Kept [m10, m7, m1] w38 w48 → R (Ending.returned (Value.bool
    false)) w48) ∧ (x5 ≤ x17 - x18 → ∃ (m72 : Nat), ∃ (m73 : Nat), a3 = some { block := m72, off := m73 } ∧ (0 ≤ x11 ∧ x11 < (↑m11 : Int)) ∧ ∃ (x19 : Int), w38.cell?
    { block := m72, off := m73 + x11.toNat * 1 } = some (Value.int IntKind.i64 x19) ∧ (m72 < w.heap.size ∨ m72 ≠ m10 ∧ m72 ≠ m7 ∧ m72 ≠ m1) ∧ ∃ (m74 : Nat), ∃ (m75 : Nat), a4 =
    some { block := m74, off := m75 } ∧ (0 ≤ x10 ∧ x10 < (↑m13 : Int)) ∧ ∃ (x20 : Int), w38.cell? { block := m74, off := m75 + x10.toNat * 1 } = some (Value.int IntKind.i64 x20) ∧
    (m74 < w.heap.size ∨ m74 ≠ m10 ∧ m74 ≠ m7 ∧ m74 ≠ m1) ∧ (-9223372036854775808 ≤ x19 - x20 ∧ x19 - x20 ≤ 9223372036854775807) ∧ (x6 < x19 - x20 → ∀ (w49 : World), RowKit.Below
    w.heap.size w w49 → Kept [m10, m7, m1] w38 w49 → R (Ending.returned (Value.bool false)) w49) ∧ (x19 - x20 ≤ x6 → ∀ (w50 : World), RowKit.Below w.heap.size w w50 → Kept [m10,
    m7, m1] w38 w50 → RunsTo Try.prog ((Instr.mapUpdate 87 (Value.map (some m46)) (Value.int IntKind.i64 x11) (Value.bool true)) >>= fun _ => pure (Value.tuple #[])) w50 fun (v7 :
    Value) (w51 : World) => KeepX true w.heap.size [m10, m7, m1] (fun _ => False) w50 w51 ∧ ∀ (w52 : World), RowKit.Below w.heap.size w w52 → Kept [m10, m7, m1] w51 w52 → RunsTo
    Try.prog ((Instr.mapUpdate 87 (Value.map (some m48)) (Value.int IntKind.i64 x10) (Value.bool true)) >>= fun _ => pure (Value.tuple #[])) w52 fun (v8 : Value) (w53 : World) =>
    KeepX true w.heap.size [m10, m7, m1] (fun _ => False) w52 w53 ∧ (-9223372036854775808 ≤ x9 + 1 ∧ x9 + (1 : Int) ≤ 9223372036854775807) ∧ ∀ (w54 : World), RowKit.Below
    w.heap.size w w54 → Kept [m10, m7, m1] w53 w54 → F1 [Lf.bool t1, Lf.int IntKind.i64 (x9 + 1)] w54 ∧ F2 [Lf.bool t1, Lf.int IntKind.i64 (x9 + 1)] < F2 [Lf.bool t1, Lf.int
    IntKind.i64 x9])))))))))) ∧ ((↑m27 : Int) ≤ x9 → ∀ (w55 : World), RowKit.Below w.heap.size w w55 → Kept [m10, m7, m1] w29 w55 → RunsTo Try.prog (Instr.makeMap 87 none) w55 fun
    (v9 : Value) (w56 : World) => ∃ (m78 : Nat), v9 = Value.map (some m78) ∧ KeepX true w.heap.size [m10, m7, m1] (fun _ => False) w55 w56 ∧ ∀ (w57 : World), RowKit.Below
    w.heap.size w w57 → Kept [m10, m7, m1] w56 w57 → RunsTo Try.prog (Instr.makeMap 87 none) w57 fun (v10 : Value) (w58 : World) => ∃ (m80 : Nat), v10 = Value.map (some m80) ∧
    KeepX true w.heap.size [m10, m7, m1] (fun _ => False) w57 w58 ∧ ∃ (F3 : List Lf → World → Prop), ∃ (F4 : List Lf → Nat), (∀ (w60 : World), RowKit.Below w.heap.size w w60 → Kept
    [m10, m7, m1] w58 w60 → F3 [Lf.bool t1, Lf.int IntKind.i64 0] w60) ∧ ∀ (t4 : Bool) (x21 : Int) (w61 : World), RowKit.Below w.heap.size w w61 → F3 [Lf.bool t4, Lf.int
    IntKind.i64 x21] w61 → (x21 < (↑m43 : Int) → ∃ (m82 : Nat), ∃ (m83 : Nat), a15 = some { block := m82, off := m83 } ∧ (0 ≤ x21 ∧ x21 < (↑m43 : Int)) ∧ ∃ (x22 : Int), w61.cell?
    { block := m82, off := m83 + x21.toNat * 1 } = some (Value.int IntKind.i64 x22) ∧ (m82 < w.heap.size ∨ m82 ≠ m10 ∧ m82 ≠ m7 ∧ m82 ≠ m1) ∧ (x22 < 0 → ∀ (w62 : World),
    RowKit.Below w.heap.size w w62 → Kept [m10, m7, m1] w61 w62 → R (Ending.returned (Value.bool false)) w62) ∧ (0 ≤ x22 → ∃ (m84 : Nat), ∃ (m85 : Nat), a15 = some
    { block := m84, off := m85 } ∧ (0 ≤ x21 ∧ x21 < (↑m43 : Int)) ∧ ∃ (x23 : Int), w61.cell? { block := m84, off := m85 + x21.toNat * 1 } = some (Value.int IntKind.i64 x23) ∧ (m84
    < w.heap.size ∨ m84 ≠ m10 ∧ m84 ≠ m7 ∧ m84 ≠ m1) ∧ ((↑m11 : Int) ≤ x23 → ∀ (w63 : World), RowKit.Below w.heap.size w w63 → Kept [m10, m7, m1] w61 w63 → R (Ending.returned
    (Value.bool false)) w63) ∧ (x23 < (↑m11 : Int) → (0 < x21 → ∃ (m86 : Nat), ∃ (m87 : Nat), a15 = some { block := m86, off := m87 } ∧ (0 ≤ x21 ∧ x21 < (↑m43 : Int)) ∧ ∃ (x24 :
    Int), w61.cell? { block := m86, off := m87 + x21.toNat * 1 } = some (Value.int IntKind.i64 x24) ∧ (m86 < w.heap.size ∨ m86 ≠ m10 ∧ m86 ≠ m7 ∧ m86 ≠ m1) ∧ (-9223372036854775808
    ≤ x21 - 1 ∧ x21 - (1 : Int) ≤ 9223372036854775807) ∧ ∃ (m88 : Nat), ∃ (m89 : Nat), a15 = some { block := m88, off := m89 } ∧ (0 ≤ x21 - 1 ∧ x21 - 1 < (↑m43 : Int)) ∧ ∃ (x25 :
    Int), w61.cell? { block := m88, off := m89 + (x21 - 1).toNat * 1 } = some (Value.int IntKind.i64 x25) ∧ (m88 < w.heap.size ∨ m88 ≠ m10 ∧ m88 ≠ m7 ∧ m88 ≠ m1) ∧ (x24 ≤ x25 → ∀
    (w64 : World), RowKit.Below w.heap.size w w64 → Kept [m10, m7, m1] w61 w64 → R (Ending.returned (Value.bool false)) w64) ∧ (x25 < x24 → ∃ (m90 : Nat), ∃ (m91 : Nat), a15 = some
    { block := m90, off := m91 } ∧ (0 ≤ x21 ∧ x21 < (↑m43 : Int)) ∧ ∃ (x26 : Int), w61.cell? { block := m90, off := m91 + x21.toNat * 1 } = some (Value.int IntKind.i64 x26) ∧ (m90
    < w.heap.size ∨ m90 ≠ m10 ∧ m90 ≠ m7 ∧ m90 ≠ m1) ∧ ∀ (w65 : World), RowKit.Below w.heap.size w w65 → Kept [m10, m7, m1] w61 w65 → RunsTo Try.prog ((Instr.mapUpdate 87
    (Value.map (some m78)) (Value.int IntKind.i64 x26) (Value.bool true)) >>= fun _ => pure (Value.tuple #[])) w65 fun (v11 : Value) (w66 : World) => KeepX true w.heap.size [m10,
    m7, m1] (fun _ => False) w65 w66 ∧ (-9223372036854775808 ≤ x21 + 1 ∧ x21 + (1 : Int) ≤ 9223372036854775807) ∧ ∀ (w67 : World), RowKit.Below w.heap.size w w67 → Kept [m10, m7,
    m1] w66 w67 → F3 [Lf.bool t4, Lf.int IntKind.i64 (x21 + 1)] w67 ∧ F4 [Lf.bool t4, Lf.int IntKind.i64 (x21 + 1)] < F4 [Lf.bool t4, Lf.int IntKind.i64 x21])) ∧ (x21 ≤ 0 → ∃ (m93
    : Nat), ∃ (m94 : Nat), a15 = some { block := m93, off := m94 } ∧ (0 ≤ x21 ∧ x21 < (↑m43 : Int)) ∧ ∃ (x27 : Int), w61.cell? { block := m93, off := m94 + x21.toNat * 1 } = some
    (Value.int IntKind.i64 x27) ∧ (m93 < w.heap.size ∨ m93 ≠ m10 ∧ m93 ≠ m7 ∧ m93 ≠ m1) ∧ ∀ (w68 : World), RowKit.Below w.heap.size w w68 → Kept [m10, m7, m1] w61 w68 → RunsTo
    Try.prog ((Instr.mapUpdate 87 (Value.map (some m78)) (Value.int IntKind.i64 x27) (Value.bool true)) >>= fun _ => pure (Value.tuple #[])) w68 fun (v12 : Value) (w69 : World) =>
    KeepX true w.heap.size [m10, m7, m1] (fun _ => False) w68 w69 ∧ (-9223372036854775808 ≤ x21 + 1 ∧ x21 + (1 : Int) ≤ 9223372036854775807) ∧ ∀ (w70 : World), RowKit.Below
    w.heap.size w w70 → Kept [m10, m7, m1] w69 w70 → F3 [Lf.bool t4, Lf.int IntKind.i64 (x21 + 1)] w70 ∧ F4 [Lf.bool t4, Lf.int IntKind.i64 (x21 + 1)] < F4 [Lf.bool t4, Lf.int
    IntKind.i64 x21])))) ∧ ((↑m43 : Int) ≤ x21 → ∃ (F5 : List Lf → World → Prop), ∃ (F6 : List Lf → Nat), (∀ (w72 : World), RowKit.Below w.heap.size w w72 → Kept [m10, m7, m1] w61
    w72 → F5 [Lf.bool t4, Lf.int IntKind.i64 0] w72) ∧ ∀ (t5 : Bool) (x28 : Int) (w73 : World), RowKit.Below w.heap.size w w73 → F5 [Lf.bool t5, Lf.int IntKind.i64 x28] w73 → (x28
    < (↑m41 : Int) → ∃ (m96 : Nat), ∃ (m97 : Nat), a14 = some { block := m96, off := m97 } ∧ (0 ≤ x28 ∧ x28 < (↑m41 : Int)) ∧ ∃ (x29 : Int), w73.cell?
    { block := m96, off := m97 + x28.toNat * 1 } = some (Value.int IntKind.i64 x29) ∧ (m96 < w.heap.size ∨ m96 ≠ m10 ∧ m96 ≠ m7 ∧ m96 ≠ m1) ∧ (x29 < 0 → ∀ (w74 : World),
    RowKit.Below w.heap.size w w74 → Kept [m10, m7, m1] w73 w74 → R (Ending.returned (Value.bool false)) w74) ∧ (0 ≤ x29 → ∃ (m98 : Nat), ∃ (m99 : Nat), a14 = some
    { block := m98, off := m99 } ∧ (0 ≤ x28 ∧ x28 < (↑m41 : Int)) ∧ ∃ (x30 : Int), w73.cell? { block := m98, off := m99 + x28.toNat * 1 } = some (Value.int IntKind.i64 x30) ∧ (m98
    < w.heap.size ∨ m98 ≠ m10 ∧ m98 ≠ m7 ∧ m98 ≠ m1) ∧ ((↑m13 : Int) ≤ x30 → ∀ (w75 : World), RowKit.Below w.heap.size w w75 → Kept [m10, m7, m1] w73 w75 → R (Ending.returned
    (Value.bool false)) w75) ∧ (x30 < (↑m13 : Int) → (0 < x28 → ∃ (m100 : Nat), ∃ (m101 : Nat), a14 = some { block := m100, off := m101 } ∧ (0 ≤ x28 ∧ x28 < (↑m41 : Int)) ∧ ∃ (x31
    : Int), w73.cell? { block := m100, off := m101 + x28.toNat * 1 } = some (Value.int IntKind.i64 x31) ∧ (m100 < w.heap.size ∨ m100 ≠ m10 ∧ m100 ≠ m7 ∧ m100 ≠ m1) ∧
    (-9223372036854775808 ≤ x28 - 1 ∧ x28 - (1 : Int) ≤ 9223372036854775807) ∧ ∃ (m102 : Nat), ∃ (m103 : Nat), a14 = some { block := m102, off := m103 } ∧ (0 ≤ x28 - 1 ∧ x28 - 1 <
    (↑m41 : Int)) ∧ ∃ (x32 : Int), w73.cell? { block := m102, off := m103 + (x28 - 1).toNat * 1 } = some (Value.int IntKind.i64 x32) ∧ (m102 < w.heap.size ∨ m102 ≠ m10 ∧ m102 ≠ m7
    ∧ m102 ≠ m1) ∧ (x31 ≤ x32 → ∀ (w76 : World), RowKit.Below w.heap.size w w76 → Kept [m10, m7, m1] w73 w76 → R (Ending.returned (Value.bool false)) w76) ∧ (x32 < x31 → ∃ (m104 :
    Nat), ∃ (m105 : Nat), a14 = some { block := m104, off := m105 } ∧ (0 ≤ x28 ∧ x28 < (↑m41 : Int)) ∧ ∃ (x33 : Int), w73.cell? { block := m104, off := m105 + x28.toNat * 1 } =
    some (Value.int IntKind.i64 x33) ∧ (m104 < w.heap.size ∨ m104 ≠ m10 ∧ m104 ≠ m7 ∧ m104 ≠ m1) ∧ ∀ (w77 : World), RowKit.Below w.heap.size w w77 → Kept [m10, m7, m1] w73 w77 →
    RunsTo Try.prog ((Instr.mapUpdate 87 (Value.map (some m80)) (Value.int IntKind.i64 x33) (Value.bool true)) >>= fun _ => pure (Value.tuple #[])) w77 fun (v13 : Value) (w78 :
    World) => KeepX true w.heap.size [m10, m7, m1] (fun _ => False) w77 w78 ∧ ∃ (F7 : List Lf → World → Prop), ∃ (F8 : List Lf → Nat), (∀ (w80 : World), RowKit.Below w.heap.size w
    w80 → Kept [m10, m7, m1] w78 w80 → F7 [Lf.bool t5, Lf.int IntKind.i64 0] w80) ∧ ∀ (t6 : Bool) (x34 : Int) (w81 : World), RowKit.Below w.heap.size w w81 → F7 [Lf.bool t6, Lf.int
    IntKind.i64 x34] w81 → (x34 < (↑m11 : Int) → ∃ (m107 : Nat), ∃ (m108 : Nat), a3 = some { block := m107, off := m108 } ∧ (0 ≤ x34 ∧ x34 < (↑m11 : Int)) ∧ ∃ (x35 : Int),
    w81.cell? { block := m107, off := m108 + x34.toNat * 1 } = some (Value.int IntKind.i64 x35) ∧ (m107 < w.heap.size ∨ m107 ≠ m10 ∧ m107 ≠ m7 ∧ m107 ≠ m1) ∧ ∃ (m109 : Nat), ∃
    (m110 : Nat), a14 = some { block := m109, off := m110 } ∧ (0 ≤ x28 ∧ x28 < (↑m41 : Int)) ∧ ∃ (x36 : Int), w81.cell? { block := m109, off := m110 + x28.toNat * 1 } = some
    (Value.int IntKind.i64 x36) ∧ (m109 < w.heap.size ∨ m109 ≠ m10 ∧ m109 ≠ m7 ∧ m109 ≠ m1) ∧ ∃ (m111 : Nat), ∃ (m112 : Nat), a4 = some { block := m111, off := m112 } ∧ (0 ≤ x36 ∧
    x36 < (↑m13 : Int)) ∧ ∃ (x37 : Int), w81.cell? { block := m111, off := m112 + x36.toNat * 1 } = some (Value.int IntKind.i64 x37) ∧ (m111 < w.heap.size ∨ m111 ≠ m10 ∧ m111 ≠ m7
    ∧ m111 ≠ m1) ∧ (-9223372036854775808 ≤ x35 - x37 ∧ x35 - x37 ≤ 9223372036854775807) ∧ (x5 ≤ x35 - x37 → (x35 - x37 ≤ x6 → ∀ (w82 : World), RowKit.Below w.heap.size w w82 → Kept
    [m10, m7, m1] w81 w82 → RunsTo Try.prog (Instr.lookup 87 (Value.map (some m78)) (Value.int IntKind.i64 x34) false) w82 fun (v14 : Value) (w83 : World) => ∃ (t7 : Bool), v14 =
    Value.bool t7 ∧ KeepX true w.heap.size [m10, m7, m1] (fun _ => False) w82 w83 ∧ ((!t7) = true → ∀ (w84 : World), RowKit.Below w.heap.size w w84 → Kept [m10, m7, m1] w83 w84 → R
    (Ending.returned (Value.bool false)) w84) ∧ ((!t7) = false → (-9223372036854775808 ≤ x34 + 1 ∧ x34 + (1 : Int) ≤ 9223372036854775807) ∧ ∀ (w85 : World), RowKit.Below
    w.heap.size w w85 → Kept [m10, m7, m1] w83 w85 → F7 [Lf.bool t6, Lf.int IntKind.i64 (x34 + 1)] w85 ∧ F8 [Lf.bool t6, Lf.int IntKind.i64 (x34 + 1)] < F8 [Lf.bool t6, Lf.int
    IntKind.i64 x34])) ∧ (x6 < x35 - x37 → (-9223372036854775808 ≤ x34 + 1 ∧ x34 + (1 : Int) ≤ 9223372036854775807) ∧ ∀ (w86 : World), RowKit.Below w.heap.size w w86 → Kept [m10,
    m7, m1] w81 w86 → F7 [Lf.bool t6, Lf.int IntKind.i64 (x34 + 1)] w86 ∧ F8 [Lf.bool t6, Lf.int IntKind.i64 (x34 + 1)] < F8 [Lf.bool t6, Lf.int IntKind.i64 x34])) ∧ (x35 - x37 <
    x5 → (-9223372036854775808 ≤ x34 + 1 ∧ x34 + (1 : Int) ≤ 9223372036854775807) ∧ ∀ (w87 : World), RowKit.Below w.heap.size w w87 → Kept [m10, m7, m1] w81 w87 → F7 [Lf.bool t6,
    Lf.int IntKind.i64 (x34 + 1)] w87 ∧ F8 [Lf.bool t6, Lf.int IntKind.i64 (x34 + 1)] < F8 [Lf.bool t6, Lf.int IntKind.i64 x34])) ∧ ((↑m11 : Int) ≤ x34 → (-9223372036854775808 ≤
    x28 + 1 ∧ x28 + (1 : Int) ≤ 9223372036854775807) ∧ ∀ (w88 : World), RowKit.Below w.heap.size w w88 → Kept [m10, m7, m1] w81 w88 → F5 [Lf.bool t6, Lf.int IntKind.i64 (x28 + 1)]
    w88 ∧ F6 [Lf.bool t6, Lf.int IntKind.i64 (x28 + 1)] < F6 [Lf.bool t5, Lf.int IntKind.i64 x28]))) ∧ (x28 ≤ 0 → ∃ (m114 : Nat), ∃ (m115 : Nat), a14 = some
    { block := m114, off := m115 } ∧ (0 ≤ x28 ∧ x28 < (↑m41 : Int)) ∧ ∃ (x38 : Int), w73.cell? { block := m114, off := m115 + x28.toNat * 1 } = some (Value.int IntKind.i64 x38) ∧
    (m114 < w.heap.size ∨ m114 ≠ m10 ∧ m114 ≠ m7 ∧ m114 ≠ m1) ∧ ∀ (w89 : World), RowKit.Below w.heap.size w w89 → Kept [m10, m7, m1] w73 w89 → RunsTo Try.prog ((Instr.mapUpdate 87
    (Value.map (some m80)) (Value.int IntKind.i64 x38) (Value.bool true)) >>= fun _ => pure (Value.tuple #[])) w89 fun (v15 : Value) (w90 : World) => KeepX true w.heap.size [m10,
    m7, m1] (fun _ => False) w89 w90 ∧ ∃ (F9 : List Lf → World → Prop), ∃ (F10 : List Lf → Nat), (∀ (w92 : World), RowKit.Below w.heap.size w w92 → Kept [m10, m7, m1] w90 w92 → F9
    [Lf.bool t5, Lf.int IntKind.i64 0] w92) ∧ ∀ (t8 : Bool) (x39 : Int) (w93 : World), RowKit.Below w.heap.size w w93 → F9 [Lf.bool t8, Lf.int IntKind.i64 x39] w93 → (x39 < (↑m11 :
    Int) → ∃ (m117 : Nat), ∃ (m118 : Nat), a3 = some { block := m117, off := m118 } ∧ (0 ≤ x39 ∧ x39 < (↑m11 : Int)) ∧ ∃ (x40 : Int), w93.cell?
    { block := m117, off := m118 + x39.toNat * 1 } = some (Value.int IntKind.i64 x40) ∧ (m117 < w.heap.size ∨ m117 ≠ m10 ∧ m117 ≠ m7 ∧ m117 ≠ m1) ∧ ∃ (m119 : Nat), ∃ (m120 : Nat),
    a14 = some { block := m119, off := m120 } ∧ (0 ≤ x28 ∧ x28 < (↑m41 : Int)) ∧ ∃ (x41 : Int), w93.cell? { block := m119, off := m120 + x28.toNat * 1 } = some (Value.int
    IntKind.i64 x41) ∧ (m119 < w.heap.size ∨ m119 ≠ m10 ∧ m119 ≠ m7 ∧ m119 ≠ m1) ∧ ∃ (m121 : Nat), ∃ (m122 : Nat), a4 = some { block := m121, off := m122 } ∧ (0 ≤ x41 ∧ x41 < (↑m13
    : Int)) ∧ ∃ (x42 : Int), w93.cell? { block := m121, off := m122 + x41.toNat * 1 } = some (Value.int IntKind.i64 x42) ∧ (m121 < w.heap.size ∨ m121 ≠ m10 ∧ m121 ≠ m7 ∧ m121 ≠ m1)
    ∧ (-9223372036854775808 ≤ x40 - x42 ∧ x40 - x42 ≤ 9223372036854775807) ∧ (x5 ≤ x40 - x42 → (x40 - x42 ≤ x6 → ∀ (w94 : World), RowKit.Below w.heap.size w w94 → Kept [m10, m7,
    m1] w93 w94 → RunsTo Try.prog (Instr.lookup 87 (Value.map (some m78)) (Value.int IntKind.i64 x39) false) w94 fun (v16 : Value) (w95 : World) => ∃ (t9 : Bool), v16 = Value.bool
    t9 ∧ KeepX true w.heap.size [m10, m7, m1] (fun _ => False) w94 w95 ∧ ((!t9) = true → ∀ (w96 : World), RowKit.Below w.heap.size w w96 → Kept [m10, m7, m1] w95 w96 → R
    (Ending.returned (Value.bool false)) w96) ∧ ((!t9) = false → (-9223372036854775808 ≤ x39 + 1 ∧ x39 + (1 : Int) ≤ 9223372036854775807) ∧ ∀ (w97 : World), RowKit.Below
    w.heap.size w w97 → Kept [m10, m7, m1] w95 w97 → F9 [Lf.bool t8, Lf.int IntKind.i64 (x39 + 1)] w97 ∧ F10 [Lf.bool t8, Lf.int IntKind.i64 (x39 + 1)] < F10 [Lf.bool t8, Lf.int
    IntKind.i64 x39])) ∧ (x6 < x40 - x42 → (-9223372036854775808 ≤ x39 + 1 ∧ x39 + (1 : Int) ≤ 9223372036854775807) ∧ ∀ (w98 : World), RowKit.Below w.heap.size w w98 → Kept [m10,
    m7, m1] w93 w98 → F9 [Lf.bool t8, Lf.int IntKind.i64 (x39 + 1)] w98 ∧ F10 [Lf.bool t8, Lf.int IntKind.i64 (x39 + 1)] < F10 [Lf.bool t8, Lf.int IntKind.i64 x39])) ∧ (x40 - x42 <
    x5 → (-9223372036854775808 ≤ x39 + 1 ∧ x39 + (1 : Int) ≤ 9223372036854775807) ∧ ∀ (w99 : World), RowKit.Below w.heap.size w w99 → Kept [m10, m7, m1] w93 w99 → F9 [Lf.bool t8,
    Lf.int IntKind.i64 (x39 + 1)] w99 ∧ F10 [Lf.bool t8, Lf.int IntKind.i64 (x39 + 1)] < F10 [Lf.bool t8, Lf.int IntKind.i64 x39])) ∧ ((↑m11 : Int) ≤ x39 → (-9223372036854775808 ≤
    x28 + 1 ∧ x28 + (1 : Int) ≤ 9223372036854775807) ∧ ∀ (w100 : World), RowKit.Below w.heap.size w w100 → Kept [m10, m7, m1] w93 w100 → F5 [Lf.bool t8, Lf.int IntKind.i64 (x28 +
    1)] w100 ∧ F6 [Lf.bool t8, Lf.int IntKind.i64 (x28 + 1)] < F6 [Lf.bool t5, Lf.int IntKind.i64 x28]))))) ∧ ((↑m41 : Int) ≤ x28 → ∃ (F11 : List Lf → World → Prop), ∃ (F12 : List
    Lf → Nat), (∀ (w102 : World), RowKit.Below w.heap.size w w102 → Kept [m10, m7, m1] w73 w102 → F11 [Lf.bool t5, Lf.int IntKind.i64 0] w102) ∧ ∀ (t10 : Bool) (x43 : Int) (w103 :
    World), RowKit.Below w.heap.size w w103 → F11 [Lf.bool t10, Lf.int IntKind.i64 x43] w103 → (x43 < (↑m13 : Int) → ∀ (w104 : World), RowKit.Below w.heap.size w w104 → Kept [m10,
    m7, m1] w103 w104 → RunsTo Try.prog (Instr.lookup 87 (Value.map (some m48)) (Value.int IntKind.i64 x43) false) w104 fun (v17 : Value) (w105 : World) => ∃ (t11 : Bool), v17 =
    Value.bool t11 ∧ KeepX true w.heap.size [m10, m7, m1] (fun _ => False) w104 w105 ∧ ((!t11) = true → ∀ (w106 : World), RowKit.Below w.heap.size w w106 → Kept [m10, m7, m1] w105
    w106 → RunsTo Try.prog (Instr.lookup 87 (Value.map (some m80)) (Value.int IntKind.i64 x43) false) w106 fun (v18 : Value) (w107 : World) => ∃ (t12 : Bool), v18 = Value.bool t12
    ∧ KeepX true w.heap.size [m10, m7, m1] (fun _ => False) w106 w107 ∧ ((!t12) = true → ∀ (w108 : World), RowKit.Below w.heap.size w w108 → Kept [m10, m7, m1] w107 w108 → R
    (Ending.returned (Value.bool false)) w108) ∧ ((!t12) = false → (-9223372036854775808 ≤ x43 + 1 ∧ x43 + (1 : Int) ≤ 9223372036854775807) ∧ ∀ (w109 : World), RowKit.Below
    w.heap.size w w109 → Kept [m10, m7, m1] w107 w109 → F11 [Lf.bool t10, Lf.int IntKind.i64 (x43 + 1)] w109 ∧ F12 [Lf.bool t10, Lf.int IntKind.i64 (x43 + 1)] < F12 [Lf.bool t10,
    Lf.int IntKind.i64 x43])) ∧ ((!t11) = false → (-9223372036854775808 ≤ x43 + 1 ∧ x43 + (1 : Int) ≤ 9223372036854775807) ∧ ∀ (w110 : World), RowKit.Below w.heap.size w w110 →
    Kept [m10, m7, m1] w105 w110 → F11 [Lf.bool t10, Lf.int IntKind.i64 (x43 + 1)] w110 ∧ F12 [Lf.bool t10, Lf.int IntKind.i64 (x43 + 1)] < F12 [Lf.bool t10, Lf.int IntKind.i64
    x43])) ∧ ((↑m13 : Int) ≤ x43 → (-9223372036854775808 ≤ (↑m41 : Int) - (↑m43 : Int) ∧ (↑m41 : Int) - (↑m43 : Int) ≤ 9223372036854775807) ∧ (-9223372036854775808 ≤ (↑m13 : Int) -
    (↑m27 : Int) ∧ (↑m13 : Int) - (↑m27 : Int) ≤ 9223372036854775807) ∧ ((↑m41 : Int) - (↑m43 : Int) ≠ (↑m13 : Int) - (↑m27 : Int) → ∀ (w111 : World), RowKit.Below w.heap.size w
    w111 → Kept [m10, m7, m1] w103 w111 → R (Ending.returned (Value.bool false)) w111) ∧ ((↑m41 : Int) - (↑m43 : Int) = (↑m13 : Int) - (↑m27 : Int) → ∀ (w112 : World), RowKit.Below
    w.heap.size w w112 → Kept [m10, m7, m1] w103 w112 → Calls Try.prog 15 #[Value.agg #[Value.slice a1 m2 m3, Value.slice a2 m4 m5]] w112 fun (e11 : Ending) (w113 : World) => ∃
    (a16 : Option Addr), ∃ (m126 : Nat), ∃ (m127 : Nat), ∃ (a17 : Option Addr), ∃ (m128 : Nat), ∃ (m129 : Nat), e11 = Ending.returned (Value.agg #[Value.slice a16 m126 m127,
    Value.slice a17 m128 m129]) ∧ KeepX true w.heap.size [m10, m7, m1] (fun _ => False) w112 w113 ∧ ∀ (m131 : Nat), w113.heap.size ≤ m131 → (-9223372036854775808 ≤ x5 - 2 ∧ x5 - (2
    : Int) ≤ 9223372036854775807) ∧ (-9223372036854775808 ≤ x6 + 3 ∧ x6 + (3 : Int) ≤ 9223372036854775807) ∧ ∀ (w114 : World), RowKit.Below w.heap.size w w114 → KeptIn [(0,
    w113.heap.size)] [m131, m10, m7, m1] w113 w114 → Calls Try.prog 42 #[Value.int IntKind.i64 (x5 - 2), Value.int IntKind.i64 (x6 + 3)] w114 fun (e12 : Ending) (w115 : World) => ∃
    (x44 : Int), ∃ (x45 : Int), e12 = Ending.returned (Value.agg #[Value.int IntKind.i64 x44, Value.int IntKind.i64 x45]) ∧ KeepX true w.heap.size [m131, m10, m7, m1] (fun _ =>
    False) w114 w115 ∧ ∃ (m133 : Nat), ∃ (m134 : Nat), a17 = some { block := m133, off := m134 } ∧ ((0 : Int) ≤ 0 ∧ 0 < (↑m128 : Int)) ∧ ∀ (w116 : World), RowKit.Below w.heap.size
    w w116 → KeptIn [(0, w115.heap.size)] [m131, m10, m7, m1] w115 w116 → RunsTo Try.prog ((Instr.storeAt 42 (Value.pointer (some
    { block := m133, off := m134 + Int.toNat 0 * 6 + 4 })) (Value.agg #[Value.int IntKind.i64 x44, Value.int IntKind.i64 x45])) >>= fun _ => pure (Value.tuple #[])) w116 fun (v19 :
    Value) (w117 : World) => KeepX true w.heap.size [m131, m10, m7, m1] (fun _ => False) w116 w117 ∧ ∀ (w118 : World), RowKit.Below w.heap.size w w118 → Kept [m131, m10, m7, m1]
    w117 w118 → Calls Try.prog 30 #[Value.agg #[Value.slice a16 m126 m127, Value.slice a17 m128 m129], Value.int IntKind.i64 0, Value.slice a3 m11 m12, Value.slice a4 m13 m14] w118
    fun (e13 : Ending) (w119 : World) => ∃ (a18 : Option Addr), ∃ (m136 : Nat), ∃ (m137 : Nat), ∃ (x46 : Int), e13 = Ending.returned (Value.tuple #[Value.slice a18 m136 m137,
    Value.int IntKind.i64 x46]) ∧ KeepX true w.heap.size [m131, m10, m7, m1] (fun _ => False) w118 w119 ∧ (x46 = 0 → ((↑m27 : Int) ≤ (↑m136 : Int) → ∀ (w120 : World), RowKit.Below
    w.heap.size w w120 → Kept [m131, m10, m7, m1] w119 w120 → Calls Try.prog 14 #[] w120 fun (e14 : Ending) (w121 : World) => ∃ (t13 : Bool), e14 = Ending.returned (Value.bool t13)
    ∧ KeepX true w.heap.size [m131, m10, m7, m1] (fun _ => False) w120 w121 ∧ ∀ (w122 : World), RowKit.Below w.heap.size w w122 → Kept [m131, m10, m7, m1] w121 w122 → R
    (Ending.returned (Value.bool t13)) w122) ∧ ((↑m136 : Int) < (↑m27 : Int) → ∀ (w123 : World), RowKit.Below w.heap.size w w123 → Kept [m131, m10, m7, m1] w119 w123 → R
    (Ending.returned (Value.bool false)) w123)) ∧ (x46 ≠ 0 → ∀ (w124 : World), RowKit.Below w.heap.size w w124 → Kept [m131, m10, m7, m1] w119 w124 → R (Ending.returned (Value.bool
    false)) w124))))))))) : Calls Try.prog 10 #[Value.agg #[Value.slice x0a x0n x0c, Value.slice x1a x1n x1c], Value.slice holesa holesn holesc, Value.slice shaftsa shaftsn
    shaftsc] w R := calls_of_vc (pure := true) (wrapAt := []) (muts := []) (esc := []) (args := [SV.pv (PV.agg [Lf.sl x0a x0n x0c, Lf.sl x1a x1n x1c]), SV.pv (PV.one (Lf.sl holesa
    holesn holesc)), SV.pv (PV.one (Lf.sl shaftsa shaftsn shaftsc))]) (vs := [Value.agg #[Value.slice x0a x0n x0c, Value.slice x1a x1n x1c], Value.slice holesa holesn holesc,
    Value.slice shaftsa shaftsn shaftsc]) Try.func10 rfl rfl rfl (Eq.mp (by kernel_rfl) h) 
end Go.Proofs
end
section
/- A box out of bytes. -/
namespace Go.Proofs.R12
open Go.Vc Go.RowKit Go.Proofs
theorem load_u8 {w wj : World} {a : Option Addr} {l : List Int} {i : Int} {X : Nat → Nat → Int → Prop} (h : Cells w a (u8s l)) (hb : Below w.heap.size w wj) (hi0 : 0 ≤ i ∧ i < (l.length : Int)) (k : ∀ m o, m < w.heap.size → X m o (l.getD i.toNat 0)) : ∃ m o, a = some ⟨m, o, none⟩ ∧ (0 ≤ i ∧ i < (l.length : Int)) ∧ ∃ x0 : Int, wj.cell? ⟨m, o + i.toNat * 1, none⟩ = some (.int .u8 x0) ∧ X m o x0 := by
  have hi : i.toNat < l.length := by omega
  have hv : (u8s l)[i.toNat]? = some (Value.int .u8 (l.getD i.toNat 0)) := by
    unfold u8s; rw [List.getElem?_map, getElem_of_lt hi, List.getD_eq_getElem?_getD, getElem_of_lt hi]; rfl
  obtain ⟨b, o, e, hcell⟩ := h _ _ hv
  exact ⟨b, o, e, hi0, _, cell_at' (cell_keep hb hcell) (by omega), k b o (cell_lt hcell)⟩
def boxOne (s : Sp) (x : Int) : Int := s.1 - 5 + x.tmod (s.2 - s.1 + 11)
def boxN (s : Sp) (l : List Int) (k : Nat) : List Int := (l.take k).map (boxOne s)
def boxL (s : Sp) (l : List Int) : List Int := boxN s l 20
theorem boxN_len {s : Sp} {l : List Int} {k : Nat} (h : k ≤ l.length) : (boxN s l k).length = k := by simp [boxN]; omega
theorem boxN_done {s : Sp} {l : List Int} {k : Nat} (h1 : k ≤ 20) (h2 : k = l.length ∨ k = 20) : boxN s l k = boxL s l := by
  rcases h2 with h2 | h2
  · subst h2; unfold boxL boxN; rw [List.take_length, List.take_of_length_le h1]
  · subst h2; rfl
theorem boxN_succ {s : Sp} {l : List Int} {k : Nat} (h : k < l.length) : boxN s l (k + 1) = boxN s l k ++ [boxOne s (l.getD k 0)] := by
  unfold boxN
  rw [List.take_succ_eq_append_getElem h, List.map_append]
  simp [List.getD_eq_getElem?_getD, h]
theorem boxL_len {s : Sp} {l : List Int} : (boxL s l).length ≤ 20 := by simp [boxL, boxN]; omega
theorem boxOne_bd {s : Sp} {x : Int} (hs : s.1 ≤ s.2) (hx : 0 ≤ x) : s.1 - 5 ≤ boxOne s x ∧ boxOne s x ≤ s.2 + 5 := by
  have := tmod_bd (b := s.2 - s.1 + 11) hx (by omega)
  unfold boxOne; omega
theorem boxL_sz {s : Sp} {l : List Int} (hl : ∀ x ∈ l, 0 ≤ x ∧ x ≤ 255) (h : (500 ≤ s.1 ∧ s.1 ≤ 755) ∧ s.1 ≤ s.2 ∧ s.2 ≤ s.1 + 11) : ∀ x ∈ boxL s l, 0 ≤ x ∧ x ≤ 1000 := fun x hx => by
  obtain ⟨y, hy, rfl⟩ := List.mem_map.1 hx
  have := boxOne_bd h.2.1 (hl y (List.mem_of_mem_take hy)).1
  omega
theorem getD_inI {l : List Int} {i : Nat} (h : i < l.length) : l.getD i 0 ∈ l := by rw [List.getD_eq_getElem?_getD, getElem_of_lt h]; exact List.getElem_mem h
set_option maxRecDepth 100000 in
set_option maxHeartbeats 8000000 in
theorem box_l {w : World} {W : Wk} {f0 f1 f2 f3 f4 f5 : Int} {pa fa ha sa : Option Addr} {pc fc hc sc : Nat} {H S : List Int} (hp : CellsS w pa W.pats) (hW : ShopW W) (hf : OkF W.pats ⟨f0, f1, f2, f3, (f4, f5)⟩) (hH : Cells w ha (u8s H)) (hS : Cells w sa (u8s S)) (hlH : ∀ x ∈ H, 0 ≤ x ∧ x ≤ 255) (hlS : ∀ x ∈ S, 0 ≤ x ∧ x ≤ 255) : Calls Try.prog 43 #[.agg #[I f0, I f1, I f2, I f3, I f4, I f5], W.v pa pc fa fc, .slice ha H.length hc, .slice sa S.length sc] w fun e w' => ∃ a c a' c', e = .returned (.tuple #[.slice a (boxL ((W.pats.getD f0.toNat []).getD f1.toNat (0, 0)) H).length c, .slice a' (boxL ((W.pats.getD f2.toNat []).getD f3.toNat (0, 0)) S).length c']) ∧ Below w.heap.size w w' ∧ Lies [] w.heap.size w'.heap.size w' a (ints (boxL ((W.pats.getD f0.toNat []).getD f1.toNat (0, 0)) H)) ∧ Lies [] w.heap.size w'.heap.size w' a' (ints (boxL ((W.pats.getD f2.toNat []).getD f3.toNat (0, 0)) S)) := by
  obtain ⟨_, hfh, hfs, _⟩ := hf
  simp only at hfh hfs
  have hsH := okP_span (okP_get hW.p hfh.1) hfh.2
  have hsS := okP_span (okP_get hW.p hfs.1) hfs.2
  refine vc43 _ _ _ _ _ _ _ _ _ _ _ _ _ _ _ _ _ _ w _ ?_
  intro m1 g_m1 m2 g_m2 m3 g_m3 m4 g_m4
  refine load_pat hp (.refl _ _) (by omega) fun m5 m6 hm1 a1 m8 hs1 => ?_
  refine ⟨(by first | omega | (simp only; omega)), ?_⟩
  refine load_span hs1 (.refl _ _) (by omega) fun m9 m10 hm2 => ?_
  refine ⟨(by first | omega | (simp only; omega)), ?_⟩
  intro m11 g_m11 m12 g_m12
  refine load_pat hp (.refl _ _) (by omega) fun m13 m14 hm3 a2 m16 hs3 => ?_
  refine ⟨(by first | omega | (simp only; omega)), ?_⟩
  refine load_span hs3 (.refl _ _) (by omega) fun m17 m18 hm4 => ?_
  refine ⟨(by first | omega | (simp only; omega)), ?_⟩
  refine ⟨fun ls w' => match ls with | [.sl a n c, .int _ ii] => (0 ≤ ii ∧ ii ≤ H.length ∧ ii ≤ 20) ∧ n = ii.toNat ∧ ∃ B : Nat, (m1 < B ∧ m2 < B ∧ m11 < B ∧ m12 < B ∧ m4 < B ∧ w.heap.size ≤ B ∧ B ≤ w'.heap.size) ∧ RowE 3 1 B [m4, m12, m11, m2, m1] a n c (ints (boxN ((W.pats.getD f0.toNat []).getD f1.toNat (0, 0)) H ii.toNat)) w' | _ => False, fun ls => match ls with | [_, .int _ ii] => (H.length - ii).toNat | _ => 0, ?_, ?_⟩
  · intro w2 hb2 hk2 hc2_m3
    have y2 := hb2.size
    have z2 := hk2.size; have o2 := hk2.own
    simp only [List.mem_cons, List.not_mem_nil, or_false, forall_eq_or_imp, forall_eq] at o2
    exact ⟨⟨by omega, by omega, by omega⟩, rfl, w2.heap.size, ⟨by omega, by omega, by omega, by omega, by omega, by omega, Nat.le_refl _⟩, .lit⟩
  rintro a3 m20 m21 x5 w3 hb3 ⟨hx5, rfl, Ba3, hmsa3, RRa3⟩
  have y3 := hb3.size
  have qhx5 := fun (hi : x5 < (H.length : Int)) => hlH (H.getD x5.toNat 0) (getD_inI (by omega))
  refine ⟨?_, ?_⟩
  · intro h1
    try simp only [Bool.not_eq_true', Bool.not_eq_false', decide_eq_true_eq, decide_eq_false_iff_not] at h1
    refine ⟨?_, ?_⟩
    · intro h2
      try simp only [Bool.not_eq_true', Bool.not_eq_false', decide_eq_true_eq, decide_eq_false_iff_not] at h2
      refine ⟨(by first | omega | (simp only; omega)), ?_⟩
      refine load_u8 hH hb3 (by omega) fun m22 m23 hm5 => ?_
      have qq := qhx5 (by omega)
      have qt := tmod_bd (a := H.getD x5.toNat 0) (b := ((W.pats.getD f0.toNat []).getD f1.toNat (0, 0)).2 - ((W.pats.getD f0.toNat []).getD f1.toNat (0, 0)).1 + 11) qq.1 (by omega)
      refine ⟨(by first | omega | (simp only; omega)), (by first | omega | (simp only; omega)), (by first | omega | (simp only; omega)), (by first | omega | (simp only; omega)), (by first | omega | (simp only; omega)), (by first | omega | (simp only; omega)), ?_⟩
      intro m24 g_m24 w4 hb4 hk4 hc4_m24
      have y4 := hb4.size
      have z4 := hk4.size; have o4 := hk4.own
      simp only [List.mem_cons, List.not_mem_nil, or_false, forall_eq_or_imp, forall_eq] at o4
      have RRa3_4 := (RRa3.grow (ms := [m24]) (allc g_m24 all0)).chg (KeptIn.chg hk4) (fun _ h => h)
      refine append_rowE (P := Try.prog) (bytes := 8) (by kernel_rfl) (by omega) RRa3_4 (m := 1) (news := [I _]) (Cells.obj (vs := [I _]) hc4_m24) rfl (List.forall_mem_cons.2 ⟨rfl, by simp⟩) (by omega) (by omega) (by have := hb4.size; omega) hk4.own (by omega) fun aR5 cR5 w5 RRa3_5r S5 cS5 hS5 => ?_
      have RRa3_5 : RowE _ _ _ _ _ _ _ _ _ := .inr RRa3_5r
      have z5 := cS5.size
      have kx5 : KeepX true w.heap.size [m24, m4, m12, m11, m2, m1] (fun _ => False) w4 w5 := cS5.own (fun x hx => ⟨hk4.own x hx, fun h => (hS5 x h).2 hx⟩) (by simp) (fun _ => ⟨hb4.size, fun x hx => by have := (hS5 x hx).1; omega⟩)
      refine ⟨_, _, _, rfl, kx5, (by first | omega | (simp only; omega)), ?_⟩
      intro w6 hb6 hk6
      have y6 := hb6.size
      have z6 := hk6.size; have o6 := hk6.own
      simp only [List.mem_cons, List.not_mem_nil, or_false, forall_eq_or_imp, forall_eq] at o6
      have RRa3_6 := RRa3_5.chg (Chg.kept hk6) (fun _ h => h)
      refine ⟨?_, (by first | omega | (simp only; omega))⟩
      exact ⟨⟨by omega, by omega, by omega⟩, by omega, Ba3, ⟨by omega, by omega, by omega, by omega, by omega, by omega, by omega⟩, by rw [show (x5 + 1).toNat = x5.toNat + 1 by omega, boxN_succ (by omega), ints_append]; exact RRa3_6.less (by simp)⟩
    · intro h3
      try simp only [Bool.not_eq_true', Bool.not_eq_false', decide_eq_true_eq, decide_eq_false_iff_not] at h3
      have LA_3 := rowE_lies RRa3 (Nat.le_refl Ba3)
      refine ⟨fun ls w' => match ls with | [.sl a n c, .int _ ii] => (0 ≤ ii ∧ ii ≤ S.length ∧ ii ≤ 20) ∧ n = ii.toNat ∧ ∃ B : Nat, (m1 < B ∧ m2 < B ∧ m11 < B ∧ m12 < B ∧ m4 < B ∧ w3.heap.size ≤ B ∧ B ≤ w'.heap.size) ∧ RowE 3 1 B [m12, m11, m2, m1] a n c (ints (boxN ((W.pats.getD f2.toNat []).getD f3.toNat (0, 0)) S ii.toNat)) w' ∧ Lies [] Ba3 w3.heap.size w' a3 (ints (boxN ((W.pats.getD f0.toNat []).getD f1.toNat (0, 0)) H x5.toNat)) | _ => False, fun ls => match ls with | [_, .int _ ii] => (S.length - ii).toNat | _ => 0, ?_, ?_⟩
      · intro w8 hb8 hk8 hc8_m4
        have y8 := hb8.size
        have z8 := hk8.size; have o8 := hk8.own
        simp only [List.mem_cons, List.not_mem_nil, or_false, forall_eq_or_imp, forall_eq] at o8
        have LA_8 := LA_3.ko hk8 (allc (.inl (by omega)) (allc (.inl (by omega)) (allc (.inl (by omega)) (allc (.inl (by omega)) (allc (.inl (by omega)) all0)))))
        exact ⟨⟨by omega, by omega, by omega⟩, rfl, w8.heap.size, ⟨by omega, by omega, by omega, by omega, by omega, by omega, Nat.le_refl _⟩, .lit, LA_8⟩
      rintro a5 m30 m31 x7 w9 hb9 ⟨hx7, rfl, Ba5, hmsa5, RRa5, LA⟩
      have y9 := hb9.size
      have qhx7 := fun (hi : x7 < (S.length : Int)) => hlS (S.getD x7.toNat 0) (getD_inI (by omega))
      refine ⟨?_, ?_⟩
      · intro h4
        try simp only [Bool.not_eq_true', Bool.not_eq_false', decide_eq_true_eq, decide_eq_false_iff_not] at h4
        refine ⟨?_, ?_⟩
        · intro h5
          try simp only [Bool.not_eq_true', Bool.not_eq_false', decide_eq_true_eq, decide_eq_false_iff_not] at h5
          refine ⟨(by first | omega | (simp only; omega)), ?_⟩
          refine load_u8 hS hb9 (by omega) fun m32 m33 hm6 => ?_
          have qq := qhx7 (by omega)
          have qt := tmod_bd (a := S.getD x7.toNat 0) (b := ((W.pats.getD f2.toNat []).getD f3.toNat (0, 0)).2 - ((W.pats.getD f2.toNat []).getD f3.toNat (0, 0)).1 + 11) qq.1 (by omega)
          refine ⟨(by first | omega | (simp only; omega)), (by first | omega | (simp only; omega)), (by first | omega | (simp only; omega)), (by first | omega | (simp only; omega)), (by first | omega | (simp only; omega)), (by first | omega | (simp only; omega)), ?_⟩
          intro m34 g_m34 w10 hb10 hk10 hc10_m34
          have y10 := hb10.size
          have z10 := hk10.size; have o10 := hk10.own
          simp only [List.mem_cons, List.not_mem_nil, or_false, forall_eq_or_imp, forall_eq] at o10
          have LA_10 := LA.kio hk10 (allc (.inr (by omega)) (allc (.inl (by omega)) (allc (.inl (by omega)) (allc (.inl (by omega)) (allc (.inl (by omega)) all0))))) ⟨(0, w9.heap.size), by simp, by simp only; omega, by simp only; omega⟩
          have RRa5_10 := (RRa5.grow (ms := [m34]) (allc g_m34 all0)).chg (KeptIn.chg hk10) (fun _ h => h)
          refine append_rowE (P := Try.prog) (bytes := 8) (by kernel_rfl) (by omega) RRa5_10 (m := 1) (news := [I _]) (Cells.obj (vs := [I _]) hc10_m34) rfl (List.forall_mem_cons.2 ⟨rfl, by simp⟩) (by omega) (by omega) (by have := hb10.size; omega) hk10.own (by omega) fun aR11 cR11 w11 RRa5_11r S11 cS11 hS11 => ?_
          have RRa5_11 : RowE _ _ _ _ _ _ _ _ _ := .inr RRa5_11r
          have z11 := cS11.size
          have kx11 : KeepX true w.heap.size [m34, m12, m11, m2, m1] (fun _ => False) w10 w11 := cS11.own (fun x hx => ⟨hk10.own x hx, fun h => (hS11 x h).2 hx⟩) (by simp) (fun _ => ⟨hb10.size, fun x hx => by have := (hS11 x hx).1; omega⟩)
          have LA_11 := LA_10.out cS11 (fun x hx => by have := (hS11 x hx).1; omega)
          refine ⟨_, _, _, rfl, kx11, (by first | omega | (simp only; omega)), ?_⟩
          intro w12 hb12 hk12
          have y12 := hb12.size
          have z12 := hk12.size; have o12 := hk12.own
          simp only [List.mem_cons, List.not_mem_nil, or_false, forall_eq_or_imp, forall_eq] at o12
          have LA_12 := LA_11.ko hk12 (allc (.inr (by omega)) (allc (.inl (by omega)) (allc (.inl (by omega)) (allc (.inl (by omega)) (allc (.inl (by omega)) all0)))))
          have RRa5_12 := RRa5_11.chg (Chg.kept hk12) (fun _ h => h)
          refine ⟨?_, (by first | omega | (simp only; omega))⟩
          exact ⟨⟨by omega, by omega, by omega⟩, by omega, Ba5, ⟨by omega, by omega, by omega, by omega, by omega, by omega, by omega⟩, by rw [show (x7 + 1).toNat = x7.toNat + 1 by omega, boxN_succ (by omega), ints_append]; exact RRa5_12.less (by simp), LA_12⟩
        · intro h6 w13 hb13 hk13
          try simp only [Bool.not_eq_true', Bool.not_eq_false', decide_eq_true_eq, decide_eq_false_iff_not] at h6
          have y13 := hb13.size
          have z13 := hk13.size; have o13 := hk13.own
          simp only [List.mem_cons, List.not_mem_nil, or_false, forall_eq_or_imp, forall_eq] at o13
          have LA_13 := LA.ko hk13 (allc (.inl (by omega)) (allc (.inl (by omega)) (allc (.inl (by omega)) (allc (.inl (by omega)) all0))))
          have RRa5_13 := RRa5.chg (Chg.kept hk13) (fun _ h => h)
          exact ⟨_, _, _, _, by rw [← boxN_done (s := ((W.pats.getD f0.toNat []).getD f1.toNat (0, 0))) (l := H) (k := x5.toNat) (by omega) (by omega), ← boxN_done (s := ((W.pats.getD f2.toNat []).getD f3.toNat (0, 0))) (l := S) (k := x7.toNat) (by omega) (by omega), boxN_len (by omega), boxN_len (by omega)], hb13, by rw [← boxN_done (s := ((W.pats.getD f0.toNat []).getD f1.toNat (0, 0))) (l := H) (k := x5.toNat) (by omega) (by omega)]; exact LA_13.to (by omega) (by omega), by rw [← boxN_done (s := ((W.pats.getD f2.toNat []).getD f3.toNat (0, 0))) (l := S) (k := x7.toNat) (by omega) (by omega)]; exact (rowE_lies RRa5_13 (Nat.le_refl _)).to (by omega) (Nat.le_refl _)⟩
      · intro h7 w14 hb14 hk14
        try simp only [Bool.not_eq_true', Bool.not_eq_false', decide_eq_true_eq, decide_eq_false_iff_not] at h7
        have y14 := hb14.size
        have z14 := hk14.size; have o14 := hk14.own
        simp only [List.mem_cons, List.not_mem_nil, or_false, forall_eq_or_imp, forall_eq] at o14
        have LA_14 := LA.ko hk14 (allc (.inl (by omega)) (allc (.inl (by omega)) (allc (.inl (by omega)) (allc (.inl (by omega)) all0))))
        have RRa5_14 := RRa5.chg (Chg.kept hk14) (fun _ h => h)
        exact ⟨_, _, _, _, by rw [← boxN_done (s := ((W.pats.getD f0.toNat []).getD f1.toNat (0, 0))) (l := H) (k := x5.toNat) (by omega) (by omega), ← boxN_done (s := ((W.pats.getD f2.toNat []).getD f3.toNat (0, 0))) (l := S) (k := x7.toNat) (by omega) (by omega), boxN_len (by omega), boxN_len (by omega)], hb14, by rw [← boxN_done (s := ((W.pats.getD f0.toNat []).getD f1.toNat (0, 0))) (l := H) (k := x5.toNat) (by omega) (by omega)]; exact LA_14.to (by omega) (by omega), by rw [← boxN_done (s := ((W.pats.getD f2.toNat []).getD f3.toNat (0, 0))) (l := S) (k := x7.toNat) (by omega) (by omega)]; exact (rowE_lies RRa5_14 (Nat.le_refl _)).to (by omega) (Nat.le_refl _)⟩
  · intro h8
    try simp only [Bool.not_eq_true', Bool.not_eq_false', decide_eq_true_eq, decide_eq_false_iff_not] at h8
    have LA_3 := rowE_lies RRa3 (Nat.le_refl Ba3)
    refine ⟨fun ls w' => match ls with | [.sl a n c, .int _ ii] => (0 ≤ ii ∧ ii ≤ S.length ∧ ii ≤ 20) ∧ n = ii.toNat ∧ ∃ B : Nat, (m1 < B ∧ m2 < B ∧ m11 < B ∧ m12 < B ∧ m4 < B ∧ w3.heap.size ≤ B ∧ B ≤ w'.heap.size) ∧ RowE 3 1 B [m12, m11, m2, m1] a n c (ints (boxN ((W.pats.getD f2.toNat []).getD f3.toNat (0, 0)) S ii.toNat)) w' ∧ Lies [] Ba3 w3.heap.size w' a3 (ints (boxN ((W.pats.getD f0.toNat []).getD f1.toNat (0, 0)) H x5.toNat)) | _ => False, fun ls => match ls with | [_, .int _ ii] => (S.length - ii).toNat | _ => 0, ?_, ?_⟩
    · intro w16 hb16 hk16 hc16_m4
      have y16 := hb16.size
      have z16 := hk16.size; have o16 := hk16.own
      simp only [List.mem_cons, List.not_mem_nil, or_false, forall_eq_or_imp, forall_eq] at o16
      have LA_16 := LA_3.ko hk16 (allc (.inl (by omega)) (allc (.inl (by omega)) (allc (.inl (by omega)) (allc (.inl (by omega)) (allc (.inl (by omega)) all0)))))
      exact ⟨⟨by omega, by omega, by omega⟩, rfl, w16.heap.size, ⟨by omega, by omega, by omega, by omega, by omega, by omega, Nat.le_refl _⟩, .lit, LA_16⟩
    rintro a7 m40 m41 x9 w17 hb17 ⟨hx9, rfl, Ba7, hmsa7, RRa7, LA⟩
    have y17 := hb17.size
    have qhx9 := fun (hi : x9 < (S.length : Int)) => hlS (S.getD x9.toNat 0) (getD_inI (by omega))
    refine ⟨?_, ?_⟩
    · intro h9
      try simp only [Bool.not_eq_true', Bool.not_eq_false', decide_eq_true_eq, decide_eq_false_iff_not] at h9
      refine ⟨?_, ?_⟩
      · intro h10
        try simp only [Bool.not_eq_true', Bool.not_eq_false', decide_eq_true_eq, decide_eq_false_iff_not] at h10
        refine ⟨(by first | omega | (simp only; omega)), ?_⟩
        refine load_u8 hS hb17 (by omega) fun m42 m43 hm7 => ?_
        have qq := qhx9 (by omega)
        have qt := tmod_bd (a := S.getD x9.toNat 0) (b := ((W.pats.getD f2.toNat []).getD f3.toNat (0, 0)).2 - ((W.pats.getD f2.toNat []).getD f3.toNat (0, 0)).1 + 11) qq.1 (by omega)
        refine ⟨(by first | omega | (simp only; omega)), (by first | omega | (simp only; omega)), (by first | omega | (simp only; omega)), (by first | omega | (simp only; omega)), (by first | omega | (simp only; omega)), (by first | omega | (simp only; omega)), ?_⟩
        intro m44 g_m44 w18 hb18 hk18 hc18_m44
        have y18 := hb18.size
        have z18 := hk18.size; have o18 := hk18.own
        simp only [List.mem_cons, List.not_mem_nil, or_false, forall_eq_or_imp, forall_eq] at o18
        have LA_18 := LA.kio hk18 (allc (.inr (by omega)) (allc (.inl (by omega)) (allc (.inl (by omega)) (allc (.inl (by omega)) (allc (.inl (by omega)) all0))))) ⟨(0, w17.heap.size), by simp, by simp only; omega, by simp only; omega⟩
        have RRa7_18 := (RRa7.grow (ms := [m44]) (allc g_m44 all0)).chg (KeptIn.chg hk18) (fun _ h => h)
        refine append_rowE (P := Try.prog) (bytes := 8) (by kernel_rfl) (by omega) RRa7_18 (m := 1) (news := [I _]) (Cells.obj (vs := [I _]) hc18_m44) rfl (List.forall_mem_cons.2 ⟨rfl, by simp⟩) (by omega) (by omega) (by have := hb18.size; omega) hk18.own (by omega) fun aR19 cR19 w19 RRa7_19r S19 cS19 hS19 => ?_
        have RRa7_19 : RowE _ _ _ _ _ _ _ _ _ := .inr RRa7_19r
        have z19 := cS19.size
        have kx19 : KeepX true w.heap.size [m44, m12, m11, m2, m1] (fun _ => False) w18 w19 := cS19.own (fun x hx => ⟨hk18.own x hx, fun h => (hS19 x h).2 hx⟩) (by simp) (fun _ => ⟨hb18.size, fun x hx => by have := (hS19 x hx).1; omega⟩)
        have LA_19 := LA_18.out cS19 (fun x hx => by have := (hS19 x hx).1; omega)
        refine ⟨_, _, _, rfl, kx19, (by first | omega | (simp only; omega)), ?_⟩
        intro w20 hb20 hk20
        have y20 := hb20.size
        have z20 := hk20.size; have o20 := hk20.own
        simp only [List.mem_cons, List.not_mem_nil, or_false, forall_eq_or_imp, forall_eq] at o20
        have LA_20 := LA_19.ko hk20 (allc (.inr (by omega)) (allc (.inl (by omega)) (allc (.inl (by omega)) (allc (.inl (by omega)) (allc (.inl (by omega)) all0)))))
        have RRa7_20 := RRa7_19.chg (Chg.kept hk20) (fun _ h => h)
        refine ⟨?_, (by first | omega | (simp only; omega))⟩
        exact ⟨⟨by omega, by omega, by omega⟩, by omega, Ba7, ⟨by omega, by omega, by omega, by omega, by omega, by omega, by omega⟩, by rw [show (x9 + 1).toNat = x9.toNat + 1 by omega, boxN_succ (by omega), ints_append]; exact RRa7_20.less (by simp), LA_20⟩
      · intro h11 w21 hb21 hk21
        try simp only [Bool.not_eq_true', Bool.not_eq_false', decide_eq_true_eq, decide_eq_false_iff_not] at h11
        have y21 := hb21.size
        have z21 := hk21.size; have o21 := hk21.own
        simp only [List.mem_cons, List.not_mem_nil, or_false, forall_eq_or_imp, forall_eq] at o21
        have LA_21 := LA.ko hk21 (allc (.inl (by omega)) (allc (.inl (by omega)) (allc (.inl (by omega)) (allc (.inl (by omega)) all0))))
        have RRa7_21 := RRa7.chg (Chg.kept hk21) (fun _ h => h)
        exact ⟨_, _, _, _, by rw [← boxN_done (s := ((W.pats.getD f0.toNat []).getD f1.toNat (0, 0))) (l := H) (k := x5.toNat) (by omega) (by omega), ← boxN_done (s := ((W.pats.getD f2.toNat []).getD f3.toNat (0, 0))) (l := S) (k := x9.toNat) (by omega) (by omega), boxN_len (by omega), boxN_len (by omega)], hb21, by rw [← boxN_done (s := ((W.pats.getD f0.toNat []).getD f1.toNat (0, 0))) (l := H) (k := x5.toNat) (by omega) (by omega)]; exact LA_21.to (by omega) (by omega), by rw [← boxN_done (s := ((W.pats.getD f2.toNat []).getD f3.toNat (0, 0))) (l := S) (k := x9.toNat) (by omega) (by omega)]; exact (rowE_lies RRa7_21 (Nat.le_refl _)).to (by omega) (Nat.le_refl _)⟩
    · intro h12 w22 hb22 hk22
      try simp only [Bool.not_eq_true', Bool.not_eq_false', decide_eq_true_eq, decide_eq_false_iff_not] at h12
      have y22 := hb22.size
      have z22 := hk22.size; have o22 := hk22.own
      simp only [List.mem_cons, List.not_mem_nil, or_false, forall_eq_or_imp, forall_eq] at o22
      have LA_22 := LA.ko hk22 (allc (.inl (by omega)) (allc (.inl (by omega)) (allc (.inl (by omega)) (allc (.inl (by omega)) all0))))
      have RRa7_22 := RRa7.chg (Chg.kept hk22) (fun _ h => h)
      exact ⟨_, _, _, _, by rw [← boxN_done (s := ((W.pats.getD f0.toNat []).getD f1.toNat (0, 0))) (l := H) (k := x5.toNat) (by omega) (by omega), ← boxN_done (s := ((W.pats.getD f2.toNat []).getD f3.toNat (0, 0))) (l := S) (k := x9.toNat) (by omega) (by omega), boxN_len (by omega), boxN_len (by omega)], hb22, by rw [← boxN_done (s := ((W.pats.getD f0.toNat []).getD f1.toNat (0, 0))) (l := H) (k := x5.toNat) (by omega) (by omega)]; exact LA_22.to (by omega) (by omega), by rw [← boxN_done (s := ((W.pats.getD f2.toNat []).getD f3.toNat (0, 0))) (l := S) (k := x9.toNat) (by omega) (by omega)]; exact (rowE_lies RRa7_22 (Nat.le_refl _)).to (by omega) (Nat.le_refl _)⟩
end Go.Proofs.R12
end
