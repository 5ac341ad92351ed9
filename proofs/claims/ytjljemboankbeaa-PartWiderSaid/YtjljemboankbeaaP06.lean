/- Part 6: own lemmas, and the conditions of the functions. -/
import Derived.Test.YtjljemboankbeaaProg
import Derived.Test.YtjljemboankbeaaRows
import Derived.Laws.MakeOwn
import Derived.Test.YtjljemboankbeaaP05
section
/- The conditions of the functions, printed by program; each is what the generator reckons (kernel_rfl). -/
namespace Go.Proofs
open Go.Vc
set_option maxRecDepth 100000 in
set_option maxHeartbeats 2000000 in
theorem vc45  (w : World) (R : Ending → World → Prop) (h : ∀ (m1 : Nat), w.heap.size ≤ m1 → ∀ (w1 : World), RowKit.Below w.heap.size w w1 → Kept [m1] w w1 → Calls Try.prog 42
    #[Value.int IntKind.i64 1000, Value.int IntKind.i64 1010] w1 fun (e1 : Ending) (w2 : World) => ∃ (x1 : Int), ∃ (x2 : Int), e1 = Ending.returned (Value.agg #[Value.int
    IntKind.i64 x1, Value.int IntKind.i64 x2]) ∧ KeepX true w.heap.size [m1] (fun _ => False) w1 w2 ∧ ∀ (m3 : Nat), w2.heap.size ≤ m3 → ∀ (w3 : World), RowKit.Below w.heap.size w
    w3 → Kept [m3, m1] w2 w3 → Calls Try.prog 42 #[Value.int IntKind.i64 990, Value.int IntKind.i64 998] w3 fun (e2 : Ending) (w4 : World) => ∃ (x3 : Int), ∃ (x4 : Int), e2 =
    Ending.returned (Value.agg #[Value.int IntKind.i64 x3, Value.int IntKind.i64 x4]) ∧ KeepX true w.heap.size [m3, m1] (fun _ => False) w3 w4 ∧ ∀ (m5 : Nat), w4.heap.size ≤ m5 → ∀
    (m6 : Nat), w4.heap.size ≤ m6 → ∀ (w5 : World), RowKit.Below w.heap.size w w5 → Kept [m6, m5, m3, m1] w4 w5 → Calls Try.prog 42 #[Value.int IntKind.i64 2, Value.int IntKind.i64
    15] w5 fun (e3 : Ending) (w6 : World) => ∃ (x5 : Int), ∃ (x6 : Int), e3 = Ending.returned (Value.agg #[Value.int IntKind.i64 x5, Value.int IntKind.i64 x6]) ∧ KeepX true
    w.heap.size [m6, m5, m3, m1] (fun _ => False) w5 w6 ∧ ∀ (m8 : Nat), w6.heap.size ≤ m8 → ∀ (w7 : World), RowKit.Below w.heap.size w w7 → Kept [m8, m6, m5, m3, m1] w6 w7 →
    w7.heap[m6]? = some (Obj.cells #[Value.slice (some { block := m3, off := 0 }) 1 1, Value.slice (some { block := m5, off := 0 }) 1 1] 89) → w7.heap[m8]? = some (Obj.cells
    #[Value.int IntKind.i64 0, Value.int IntKind.i64 0, Value.int IntKind.i64 1, Value.int IntKind.i64 0, Value.int IntKind.i64 x5, Value.int IntKind.i64 x6] 67) → w7.heap[m3]? =
    some (Obj.cells #[Value.int IntKind.i64 x1, Value.int IntKind.i64 x2] 42) → w7.heap[m5]? = some (Obj.cells #[Value.int IntKind.i64 x3, Value.int IntKind.i64 x4] 42) → R
    (Ending.returned (Value.agg #[Value.slice (some { block := m6, off := 0 }) 2 2, Value.slice (some { block := m8, off := 0 }) 1 1])) w7) : Calls Try.prog 45 #[] w R :=
    calls_of_vc (pure := true) (wrapAt := []) (muts := []) (esc := []) (args := []) (vs := []) Try.func45 rfl rfl rfl (Eq.mp (by kernel_rfl) h) 
set_option maxRecDepth 100000 in
set_option maxHeartbeats 2000000 in
theorem vc14  (w : World) (R : Ending → World → Prop) (h : ∀ (w1 : World), RowKit.Below w.heap.size w w1 → Kept [] w w1 → Calls Try.prog 45 #[] w1 fun (e1 : Ending) (w2 : World) =>
    ∃ (a1 : Option Addr), ∃ (m1 : Nat), ∃ (m2 : Nat), ∃ (a2 : Option Addr), ∃ (m3 : Nat), ∃ (m4 : Nat), e1 = Ending.returned (Value.agg #[Value.slice a1 m1 m2, Value.slice a2 m3
    m4]) ∧ KeepX true w.heap.size [] (fun _ => False) w1 w2 ∧ ∀ (w3 : World), RowKit.Below w.heap.size w w3 → Kept [] w2 w3 → Calls Try.prog 17 #[Value.agg #[Value.slice a1 m1 m2,
    Value.slice a2 m3 m4]] w3 fun (e2 : Ending) (w4 : World) => ∃ (a3 : Option Addr), ∃ (m6 : Nat), ∃ (m7 : Nat), ∃ (x1 : Int), e2 = Ending.returned (Value.tuple #[Value.slice a3
    m6 m7, Value.int IntKind.i64 x1]) ∧ KeepX true w.heap.size [] (fun _ => False) w3 w4 ∧ ∀ (w5 : World), RowKit.Below w.heap.size w w5 → Kept [] w4 w5 → Calls Try.prog 45 #[] w5
    fun (e3 : Ending) (w6 : World) => ∃ (a4 : Option Addr), ∃ (m9 : Nat), ∃ (m10 : Nat), ∃ (a5 : Option Addr), ∃ (m11 : Nat), ∃ (m12 : Nat), e3 = Ending.returned (Value.agg
    #[Value.slice a4 m9 m10, Value.slice a5 m11 m12]) ∧ KeepX true w.heap.size [] (fun _ => False) w5 w6 ∧ ∀ (w7 : World), RowKit.Below w.heap.size w w7 → Kept [] w6 w7 → Calls
    Try.prog 42 #[Value.int IntKind.i64 (-2), Value.int IntKind.i64 1] w7 fun (e4 : Ending) (w8 : World) => ∃ (x2 : Int), ∃ (x3 : Int), e4 = Ending.returned (Value.agg #[Value.int
    IntKind.i64 x2, Value.int IntKind.i64 x3]) ∧ KeepX true w.heap.size [] (fun _ => False) w7 w8 ∧ ∀ (w9 : World), RowKit.Below w.heap.size w w9 → Kept [] w8 w9 → Calls Try.prog
    24 #[Value.agg #[Value.slice a4 m9 m10, Value.slice a5 m11 m12], Value.int IntKind.i64 0, Value.int IntKind.i64 0, Value.agg #[Value.int IntKind.i64 x2, Value.int IntKind.i64
    x3]] w9 fun (e5 : Ending) (w10 : World) => ∃ (x4 : Int), ∃ (x5 : Int), ∃ (x6 : Int), ∃ (x7 : Int), ∃ (x8 : Int), e5 = Ending.returned (Value.tuple #[Value.agg #[Value.int
    IntKind.i64 x4, Value.int IntKind.i64 x5], Value.agg #[Value.int IntKind.i64 x6, Value.int IntKind.i64 x7], Value.int IntKind.i64 x8]) ∧ KeepX true w.heap.size [] (fun _ =>
    False) w9 w10 ∧ ∀ (m16 : Nat), w10.heap.size ≤ m16 → ∀ (m17 : Nat), w10.heap.size ≤ m17 → ∀ (w11 : World), RowKit.Below w.heap.size w w11 → Kept [m17, m16] w10 w11 → Calls
    Try.prog 45 #[] w11 fun (e6 : Ending) (w12 : World) => ∃ (a6 : Option Addr), ∃ (m18 : Nat), ∃ (m19 : Nat), ∃ (a7 : Option Addr), ∃ (m20 : Nat), ∃ (m21 : Nat), e6 =
    Ending.returned (Value.agg #[Value.slice a6 m18 m19, Value.slice a7 m20 m21]) ∧ KeepX true w.heap.size [m17, m16] (fun _ => False) w11 w12 ∧ ∀ (m23 : Nat), w12.heap.size ≤ m23
    → ∀ (m24 : Nat), w12.heap.size ≤ m24 → ∀ (w13 : World), RowKit.Below w.heap.size w w13 → Kept [m24, m23, m17, m16] w12 w13 → w13.heap[m23]? = some (Obj.cells #[Value.int
    IntKind.i64 1000, Value.int IntKind.i64 1012, Value.int IntKind.i64 1001] 3) → w13.heap[m24]? = some (Obj.cells #[Value.int IntKind.i64 999, Value.int IntKind.i64 995,
    Value.int IntKind.i64 1003] 3) → Calls Try.prog 30 #[Value.agg #[Value.slice a6 m18 m19, Value.slice a7 m20 m21], Value.int IntKind.i64 0, Value.slice (some
    { block := m23, off := 0 }) 3 3, Value.slice (some { block := m24, off := 0 }) 3 3] w13 fun (e7 : Ending) (w14 : World) => ∃ (a8 : Option Addr), ∃ (m27 : Nat), ∃ (m28 : Nat), ∃
    (x9 : Int), e7 = Ending.returned (Value.tuple #[Value.slice a8 m27 m28, Value.int IntKind.i64 x9]) ∧ KeepX true w.heap.size [m24, m23, m17, m16] (fun _ => False) w13 w14 ∧ ∀
    (w15 : World), RowKit.Below w.heap.size w w15 → Kept [m24, m23, m17, m16] w14 w15 → Calls Try.prog 45 #[] w15 fun (e8 : Ending) (w16 : World) => ∃ (a9 : Option Addr), ∃ (m30 :
    Nat), ∃ (m31 : Nat), ∃ (a10 : Option Addr), ∃ (m32 : Nat), ∃ (m33 : Nat), e8 = Ending.returned (Value.agg #[Value.slice a9 m30 m31, Value.slice a10 m32 m33]) ∧ KeepX true
    w.heap.size [m24, m23, m17, m16] (fun _ => False) w15 w16 ∧ ∀ (m35 : Nat), w16.heap.size ≤ m35 → ∀ (m36 : Nat), w16.heap.size ≤ m36 → ∀ (w17 : World), RowKit.Below w.heap.size
    w w17 → Kept [m36, m35, m24, m23, m17, m16] w16 w17 → w17.heap[m35]? = some (Obj.cells #[Value.int IntKind.i64 1000, Value.int IntKind.i64 1030, Value.int IntKind.i64 1001] 3)
    → w17.heap[m36]? = some (Obj.cells #[Value.int IntKind.i64 995, Value.int IntKind.i64 996, Value.int IntKind.i64 997] 3) → Calls Try.prog 31 #[Value.agg #[Value.slice a9 m30
    m31, Value.slice a10 m32 m33], Value.int IntKind.i64 0, Value.slice (some { block := m35, off := 0 }) 3 3, Value.slice (some { block := m36, off := 0 }) 3 3] w17 fun (e9 :
    Ending) (w18 : World) => ∃ (a11 : Option Addr), ∃ (m39 : Nat), ∃ (m40 : Nat), ∃ (a12 : Option Addr), ∃ (m41 : Nat), ∃ (m42 : Nat), ∃ (x10 : Int), e9 = Ending.returned
    (Value.tuple #[Value.slice a11 m39 m40, Value.slice a12 m41 m42, Value.int IntKind.i64 x10]) ∧ KeepX true w.heap.size [m36, m35, m24, m23, m17, m16] (fun _ => False) w17 w18 ∧
    ∀ (w19 : World), RowKit.Below w.heap.size w w19 → Kept [m36, m35, m24, m23, m17, m16] w18 w19 → Calls Try.prog 45 #[] w19 fun (e10 : Ending) (w20 : World) => ∃ (a13 : Option
    Addr), ∃ (m44 : Nat), ∃ (m45 : Nat), ∃ (a14 : Option Addr), ∃ (m46 : Nat), ∃ (m47 : Nat), e10 = Ending.returned (Value.agg #[Value.slice a13 m44 m45, Value.slice a14 m46 m47])
    ∧ KeepX true w.heap.size [m36, m35, m24, m23, m17, m16] (fun _ => False) w19 w20 ∧ ∀ (m49 : Nat), w20.heap.size ≤ m49 → ∀ (m50 : Nat), w20.heap.size ≤ m50 → ∀ (m51 : Nat),
    w20.heap.size ≤ m51 → ∀ (m52 : Nat), w20.heap.size ≤ m52 → ∀ (m53 : Nat), w20.heap.size ≤ m53 → ∀ (m54 : Nat), w20.heap.size ≤ m54 → ∀ (w21 : World), RowKit.Below w.heap.size w
    w21 → Kept [m54, m53, m52, m51, m50, m49, m36, m35, m24, m23, m17, m16] w20 w21 → w21.heap[m50]? = some (Obj.cells #[Value.int IntKind.i64 0, Value.slice (some
    { block := m49, off := 0 }) 1 1] 40) → w21.heap[m54]? = some (Obj.cells #[Value.int IntKind.i64 1, Value.slice (some { block := m51, off := 0 }) 1 1, Value.int IntKind.i64 1,
    Value.slice (some { block := m52, off := 0 }) 1 1, Value.int IntKind.i64 1, Value.slice (some { block := m53, off := 0 }) 1 1] 40) → w21.heap[m49]? = some (Obj.cells
    #[Value.int IntKind.i64 1010] 3) → w21.heap[m51]? = some (Obj.cells #[Value.int IntKind.i64 990] 3) → w21.heap[m52]? = some (Obj.cells #[Value.int IntKind.i64 996] 3) →
    w21.heap[m53]? = some (Obj.cells #[Value.int IntKind.i64 999] 3) → Calls Try.prog 36 #[Value.agg #[Value.slice a13 m44 m45, Value.slice a14 m46 m47], Value.slice (some
    { block := m50, off := 0 }) 1 1, Value.int IntKind.i64 1, Value.slice (some { block := m54, off := 0 }) 3 3] w21 fun (e11 : Ending) (w22 : World) => ∃ (a15 : Option Addr), ∃
    (m61 : Nat), ∃ (m62 : Nat), ∃ (x11 : Int), e11 = Ending.returned (Value.tuple #[Value.slice a15 m61 m62, Value.int IntKind.i64 x11]) ∧ KeepX true w.heap.size [m54, m53, m52,
    m51, m50, m49, m36, m35, m24, m23, m17, m16] (fun _ => False) w21 w22 ∧ ∀ (w23 : World), RowKit.Below w.heap.size w w23 → Kept [m54, m53, m52, m51, m50, m49, m36, m35, m24,
    m23, m17, m16] w22 w23 → Calls Try.prog 42 #[Value.int IntKind.i64 5, Value.int IntKind.i64 9] w23 fun (e12 : Ending) (w24 : World) => ∃ (x12 : Int), ∃ (x13 : Int), e12 =
    Ending.returned (Value.agg #[Value.int IntKind.i64 x12, Value.int IntKind.i64 x13]) ∧ KeepX true w.heap.size [m54, m53, m52, m51, m50, m49, m36, m35, m24, m23, m17, m16] (fun _
    => False) w23 w24 ∧ ∀ (m65 : Nat), w24.heap.size ≤ m65 → ∀ (m66 : Nat), w24.heap.size ≤ m66 → ∀ (w25 : World), RowKit.Below w.heap.size w w25 → Kept [m66, m65, m54, m53, m52,
    m51, m50, m49, m36, m35, m24, m23, m17, m16] w24 w25 → w25.heap[m65]? = some (Obj.cells #[Value.int IntKind.i64 10, Value.int IntKind.i64 0, Value.int IntKind.i64 20] 80) →
    w25.heap[m66]? = some (Obj.cells #[Value.int IntKind.i64 3, Value.int IntKind.i64 12] 3) → Calls Try.prog 38 #[Value.agg #[Value.int IntKind.i64 x12, Value.int IntKind.i64
    x13], Value.slice (some { block := m65, off := 0 }) 1 1, Value.slice (some { block := m66, off := 0 }) 2 2] w25 fun (e13 : Ending) (w26 : World) => ∃ (a16 : Option Addr), ∃
    (m69 : Nat), ∃ (m70 : Nat), ∃ (x14 : Int), e13 = Ending.returned (Value.tuple #[Value.slice a16 m69 m70, Value.int IntKind.i64 x14]) ∧ KeepX true w.heap.size [m66, m65, m54,
    m53, m52, m51, m50, m49, m36, m35, m24, m23, m17, m16] (fun _ => False) w25 w26 ∧ ∀ (w27 : World), RowKit.Below w.heap.size w w27 → Kept [m66, m65, m54, m53, m52, m51, m50,
    m49, m36, m35, m24, m23, m17, m16] w26 w27 → Calls Try.prog 45 #[] w27 fun (e14 : Ending) (w28 : World) => ∃ (a17 : Option Addr), ∃ (m72 : Nat), ∃ (m73 : Nat), ∃ (a18 : Option
    Addr), ∃ (m74 : Nat), ∃ (m75 : Nat), e14 = Ending.returned (Value.agg #[Value.slice a17 m72 m73, Value.slice a18 m74 m75]) ∧ KeepX true w.heap.size [m66, m65, m54, m53, m52,
    m51, m50, m49, m36, m35, m24, m23, m17, m16] (fun _ => False) w27 w28 ∧ ∀ (m77 : Nat), w28.heap.size ≤ m77 → ∀ (w29 : World), RowKit.Below w.heap.size w w29 → Kept [m77, m66,
    m65, m54, m53, m52, m51, m50, m49, m36, m35, m24, m23, m17, m16] w28 w29 → w29.heap[m77]? = some (Obj.cells #[Value.int IntKind.i64 998] 3) → Calls Try.prog 23 #[Value.agg
    #[Value.slice a17 m72 m73, Value.slice a18 m74 m75], Value.agg #[Value.int IntKind.i64 1, Value.slice (some { block := m77, off := 0 }) 1 1]] w29 fun (e15 : Ending) (w30 :
    World) => ∃ (t1 : Bool), ∃ (x15 : Int), e15 = Ending.returned (Value.tuple #[Value.bool t1, Value.int IntKind.i64 x15]) ∧ KeepX true w.heap.size [m77, m66, m65, m54, m53, m52,
    m51, m50, m49, m36, m35, m24, m23, m17, m16] (fun _ => False) w29 w30 ∧ ∃ (F1 : List Lf → World → Prop), ((x1 ≠ 0 → ∀ (w32 : World), RowKit.Below w.heap.size w w32 → Kept [m77,
    m66, m65, m54, m53, m52, m51, m50, m49, m36, m35, m24, m23, m17, m16] w30 w32 → F1 [Lf.bool true] w32) ∧ (x1 = 0 → (x8 ≠ 0 → ∀ (w33 : World), RowKit.Below w.heap.size w w33 →
    Kept [m77, m66, m65, m54, m53, m52, m51, m50, m49, m36, m35, m24, m23, m17, m16] w30 w33 → F1 [Lf.bool true] w33) ∧ (x8 = 0 → (x9 ≠ 0 → ∀ (w34 : World), RowKit.Below
    w.heap.size w w34 → Kept [m77, m66, m65, m54, m53, m52, m51, m50, m49, m36, m35, m24, m23, m17, m16] w30 w34 → F1 [Lf.bool true] w34) ∧ (x9 = 0 → (x10 ≠ 0 → ∀ (w35 : World),
    RowKit.Below w.heap.size w w35 → Kept [m77, m66, m65, m54, m53, m52, m51, m50, m49, m36, m35, m24, m23, m17, m16] w30 w35 → F1 [Lf.bool true] w35) ∧ (x10 = 0 → (x11 ≠ 0 → ∀
    (w36 : World), RowKit.Below w.heap.size w w36 → Kept [m77, m66, m65, m54, m53, m52, m51, m50, m49, m36, m35, m24, m23, m17, m16] w30 w36 → F1 [Lf.bool true] w36) ∧ (x11 = 0 →
    (x14 ≠ 0 → ∀ (w37 : World), RowKit.Below w.heap.size w w37 → Kept [m77, m66, m65, m54, m53, m52, m51, m50, m49, m36, m35, m24, m23, m17, m16] w30 w37 → F1 [Lf.bool true] w37) ∧
    (x14 = 0 → (x15 ≠ 0 → ∀ (w38 : World), RowKit.Below w.heap.size w w38 → Kept [m77, m66, m65, m54, m53, m52, m51, m50, m49, m36, m35, m24, m23, m17, m16] w30 w38 → F1 [Lf.bool
    true] w38) ∧ (x15 = 0 → ((↑m6 : Int) ≠ 1 → ∀ (w39 : World), RowKit.Below w.heap.size w w39 → Kept [m77, m66, m65, m54, m53, m52, m51, m50, m49, m36, m35, m24, m23, m17, m16]
    w30 w39 → F1 [Lf.bool true] w39) ∧ ((↑m6 : Int) = 1 → ((↑m27 : Int) ≠ 3 → ∀ (w40 : World), RowKit.Below w.heap.size w w40 → Kept [m77, m66, m65, m54, m53, m52, m51, m50, m49,
    m36, m35, m24, m23, m17, m16] w30 w40 → F1 [Lf.bool true] w40) ∧ ((↑m27 : Int) = 3 → ((↑m39 : Int) ≠ 3 → ∀ (w41 : World), RowKit.Below w.heap.size w w41 → Kept [m77, m66, m65,
    m54, m53, m52, m51, m50, m49, m36, m35, m24, m23, m17, m16] w30 w41 → F1 [Lf.bool true] w41) ∧ ((↑m39 : Int) = 3 → ((↑m41 : Int) ≠ 2 → ∀ (w42 : World), RowKit.Below w.heap.size
    w w42 → Kept [m77, m66, m65, m54, m53, m52, m51, m50, m49, m36, m35, m24, m23, m17, m16] w30 w42 → F1 [Lf.bool true] w42) ∧ ((↑m41 : Int) = 2 → ((↑m61 : Int) ≠ 1 → ∀ (w43 :
    World), RowKit.Below w.heap.size w w43 → Kept [m77, m66, m65, m54, m53, m52, m51, m50, m49, m36, m35, m24, m23, m17, m16] w30 w43 → F1 [Lf.bool true] w43) ∧ ((↑m61 : Int) = 1 →
    ∀ (w44 : World), RowKit.Below w.heap.size w w44 → Kept [m77, m66, m65, m54, m53, m52, m51, m50, m49, m36, m35, m24, m23, m17, m16] w30 w44 → F1 [Lf.bool ((↑m69 : Int) != 2)]
    w44))))))))))))) ∧ ∀ (t2 : Bool) (w45 : World), RowKit.Below w.heap.size w w45 → F1 [Lf.bool t2] w45 → (t2 = true → ∀ (w46 : World), RowKit.Below w.heap.size w w46 → Kept [m77,
    m66, m65, m54, m53, m52, m51, m50, m49, m36, m35, m24, m23, m17, m16] w45 w46 → R (Ending.returned (Value.bool false)) w46) ∧ (t2 = false → ∃ (m80 : Nat), ∃ (m81 : Nat), a3 =
    some { block := m80, off := m81 } ∧ ((0 : Int) ≤ 0 ∧ 0 < (↑m6 : Int)) ∧ ∃ (x16 : Int), ∃ (x17 : Int), ∃ (x18 : Int), w45.cell? { block := m80, off := m81 + Int.toNat 0 * 3 } =
    some (Value.int IntKind.i64 x16) ∧ w45.cell? { block := m80, off := m81 + Int.toNat 0 * 3 + 1 } = some (Value.int IntKind.i64 x17) ∧ w45.cell?
    { block := m80, off := m81 + Int.toNat 0 * 3 + 1 + 1 } = some (Value.int IntKind.i64 x18) ∧ (m80 < w.heap.size ∨ m80 ≠ m77 ∧ m80 ≠ m66 ∧ m80 ≠ m65 ∧ m80 ≠ m54 ∧ m80 ≠ m53 ∧ m80
    ≠ m52 ∧ m80 ≠ m51 ∧ m80 ≠ m50 ∧ m80 ≠ m49 ∧ m80 ≠ m36 ∧ m80 ≠ m35 ∧ m80 ≠ m24 ∧ m80 ≠ m23 ∧ m80 ≠ m17 ∧ m80 ≠ m16) ∧ ∀ (w47 : World), RowKit.Below w.heap.size w w47 → KeptIn
    [(0, w45.heap.size)] [m77, m66, m65, m54, m53, m52, m51, m50, m49, m36, m35, m24, m23, m17, m16] w45 w47 → RunsTo Try.prog ((eqGuard BinOp.eql 37 (Operand.tmp 132) (Operand.tmp
    133) (Value.agg #[Value.int IntKind.i64 x16, Value.int IntKind.i64 x17, Value.int IntKind.i64 x18]) (Value.agg #[Value.int IntKind.i64 0, Value.int IntKind.i64 1006, Value.int
    IntKind.i64 990])) >>= fun _ => binOp BinOp.eql 37 (Value.agg #[Value.int IntKind.i64 x16, Value.int IntKind.i64 x17, Value.int IntKind.i64 x18]) (Value.agg #[Value.int
    IntKind.i64 0, Value.int IntKind.i64 1006, Value.int IntKind.i64 990])) w47 fun (v1 : Value) (w48 : World) => ∃ (t3 : Bool), v1 = Value.bool t3 ∧ KeepX true w.heap.size [m77,
    m66, m65, m54, m53, m52, m51, m50, m49, m36, m35, m24, m23, m17, m16] (fun _ => False) w47 w48 ∧ (t3 = true → ∀ (w49 : World), RowKit.Below w.heap.size w w49 → KeptIn [(0,
    w48.heap.size)] [m77, m66, m65, m54, m53, m52, m51, m50, m49, m36, m35, m24, m23, m17, m16] w48 w49 → Calls Try.prog 42 #[Value.int IntKind.i64 1001, Value.int IntKind.i64
    1008] w49 fun (e16 : Ending) (w50 : World) => ∃ (x19 : Int), ∃ (x20 : Int), e16 = Ending.returned (Value.agg #[Value.int IntKind.i64 x19, Value.int IntKind.i64 x20]) ∧ KeepX
    true w.heap.size [m77, m66, m65, m54, m53, m52, m51, m50, m49, m36, m35, m24, m23, m17, m16] (fun _ => False) w49 w50 ∧ ∀ (w51 : World), RowKit.Below w.heap.size w w51 → KeptIn
    [(0, w50.heap.size)] [m77, m66, m65, m54, m53, m52, m51, m50, m49, m36, m35, m24, m23, m17, m16] w50 w51 → RunsTo Try.prog ((eqGuard BinOp.eql 42 (Operand.tmp 136) (Operand.tmp
    137) (Value.agg #[Value.int IntKind.i64 x4, Value.int IntKind.i64 x5]) (Value.agg #[Value.int IntKind.i64 x19, Value.int IntKind.i64 x20])) >>= fun _ => binOp BinOp.eql 42
    (Value.agg #[Value.int IntKind.i64 x4, Value.int IntKind.i64 x5]) (Value.agg #[Value.int IntKind.i64 x19, Value.int IntKind.i64 x20])) w51 fun (v2 : Value) (w52 : World) => ∃
    (t4 : Bool), v2 = Value.bool t4 ∧ KeepX true w.heap.size [m77, m66, m65, m54, m53, m52, m51, m50, m49, m36, m35, m24, m23, m17, m16] (fun _ => False) w51 w52 ∧ (t4 = true → ∀
    (w53 : World), RowKit.Below w.heap.size w w53 → KeptIn [(0, w52.heap.size)] [m77, m66, m65, m54, m53, m52, m51, m50, m49, m36, m35, m24, m23, m17, m16] w52 w53 → Calls Try.prog
    42 #[Value.int IntKind.i64 998, Value.int IntKind.i64 1011] w53 fun (e17 : Ending) (w54 : World) => ∃ (x21 : Int), ∃ (x22 : Int), e17 = Ending.returned (Value.agg #[Value.int
    IntKind.i64 x21, Value.int IntKind.i64 x22]) ∧ KeepX true w.heap.size [m77, m66, m65, m54, m53, m52, m51, m50, m49, m36, m35, m24, m23, m17, m16] (fun _ => False) w53 w54 ∧ ∀
    (w55 : World), RowKit.Below w.heap.size w w55 → KeptIn [(0, w54.heap.size)] [m77, m66, m65, m54, m53, m52, m51, m50, m49, m36, m35, m24, m23, m17, m16] w54 w55 → RunsTo
    Try.prog ((eqGuard BinOp.eql 42 (Operand.tmp 141) (Operand.tmp 142) (Value.agg #[Value.int IntKind.i64 x6, Value.int IntKind.i64 x7]) (Value.agg #[Value.int IntKind.i64 x21,
    Value.int IntKind.i64 x22])) >>= fun _ => binOp BinOp.eql 42 (Value.agg #[Value.int IntKind.i64 x6, Value.int IntKind.i64 x7]) (Value.agg #[Value.int IntKind.i64 x21, Value.int
    IntKind.i64 x22])) w55 fun (v3 : Value) (w56 : World) => ∃ (t5 : Bool), v3 = Value.bool t5 ∧ KeepX true w.heap.size [m77, m66, m65, m54, m53, m52, m51, m50, m49, m36, m35, m24,
    m23, m17, m16] (fun _ => False) w55 w56 ∧ (t5 = true → ∃ (m87 : Nat), ∃ (m88 : Nat), a8 = some { block := m87, off := m88 } ∧ ((0 : Int) ≤ 0 ∧ 0 < (↑m27 : Int)) ∧ ∃ (x23 :
    Int), ∃ (x24 : Int), w56.cell? { block := m87, off := m88 + Int.toNat 0 * 2 } = some (Value.int IntKind.i64 x23) ∧ w56.cell? { block := m87, off := m88 + Int.toNat 0 * 2 + 1 }
    = some (Value.int IntKind.i64 x24) ∧ (m87 < w.heap.size ∨ m87 ≠ m77 ∧ m87 ≠ m66 ∧ m87 ≠ m65 ∧ m87 ≠ m54 ∧ m87 ≠ m53 ∧ m87 ≠ m52 ∧ m87 ≠ m51 ∧ m87 ≠ m50 ∧ m87 ≠ m49 ∧ m87 ≠ m36
    ∧ m87 ≠ m35 ∧ m87 ≠ m24 ∧ m87 ≠ m23 ∧ m87 ≠ m17 ∧ m87 ≠ m16) ∧ ∀ (w57 : World), RowKit.Below w.heap.size w w57 → KeptIn [(0, w56.heap.size)] [m77, m66, m65, m54, m53, m52, m51,
    m50, m49, m36, m35, m24, m23, m17, m16] w56 w57 → RunsTo Try.prog ((eqGuard BinOp.eql 68 (Operand.tmp 148) (Operand.tmp 149) (Value.agg #[Value.int IntKind.i64 x23, Value.int
    IntKind.i64 x24]) (Value.agg #[Value.int IntKind.i64 0, Value.int IntKind.i64 2])) >>= fun _ => binOp BinOp.eql 68 (Value.agg #[Value.int IntKind.i64 x23, Value.int IntKind.i64
    x24]) (Value.agg #[Value.int IntKind.i64 0, Value.int IntKind.i64 2])) w57 fun (v4 : Value) (w58 : World) => ∃ (t6 : Bool), v4 = Value.bool t6 ∧ KeepX true w.heap.size [m77,
    m66, m65, m54, m53, m52, m51, m50, m49, m36, m35, m24, m23, m17, m16] (fun _ => False) w57 w58 ∧ (t6 = true → ∃ (m90 : Nat), ∃ (m91 : Nat), a8 = some
    { block := m90, off := m91 } ∧ ((0 : Int) ≤ 2 ∧ 2 < (↑m27 : Int)) ∧ ∃ (x25 : Int), ∃ (x26 : Int), w58.cell? { block := m90, off := m91 + Int.toNat 2 * 2 } = some (Value.int
    IntKind.i64 x25) ∧ w58.cell? { block := m90, off := m91 + Int.toNat 2 * 2 + 1 } = some (Value.int IntKind.i64 x26) ∧ (m90 < w.heap.size ∨ m90 ≠ m77 ∧ m90 ≠ m66 ∧ m90 ≠ m65 ∧
    m90 ≠ m54 ∧ m90 ≠ m53 ∧ m90 ≠ m52 ∧ m90 ≠ m51 ∧ m90 ≠ m50 ∧ m90 ≠ m49 ∧ m90 ≠ m36 ∧ m90 ≠ m35 ∧ m90 ≠ m24 ∧ m90 ≠ m23 ∧ m90 ≠ m17 ∧ m90 ≠ m16) ∧ ∀ (w59 : World), RowKit.Below
    w.heap.size w w59 → KeptIn [(0, w58.heap.size)] [m77, m66, m65, m54, m53, m52, m51, m50, m49, m36, m35, m24, m23, m17, m16] w58 w59 → RunsTo Try.prog ((eqGuard BinOp.eql 68
    (Operand.tmp 155) (Operand.tmp 156) (Value.agg #[Value.int IntKind.i64 x25, Value.int IntKind.i64 x26]) (Value.agg #[Value.int IntKind.i64 2, Value.int IntKind.i64 1])) >>= fun
    _ => binOp BinOp.eql 68 (Value.agg #[Value.int IntKind.i64 x25, Value.int IntKind.i64 x26]) (Value.agg #[Value.int IntKind.i64 2, Value.int IntKind.i64 1])) w59 fun (v5 :
    Value) (w60 : World) => ∃ (t7 : Bool), v5 = Value.bool t7 ∧ KeepX true w.heap.size [m77, m66, m65, m54, m53, m52, m51, m50, m49, m36, m35, m24, m23, m17, m16] (fun _ => False)
    w59 w60 ∧ (t7 = true → ∃ (m93 : Nat), ∃ (m94 : Nat), a12 = some { block := m93, off := m94 } ∧ ((0 : Int) ≤ 1 ∧ 1 < (↑m41 : Int)) ∧ ∃ (x27 : Int), w60.cell?
    { block := m93, off := m94 + Int.toNat 1 * 1 } = some (Value.int IntKind.i64 x27) ∧ (m93 < w.heap.size ∨ m93 ≠ m77 ∧ m93 ≠ m66 ∧ m93 ≠ m65 ∧ m93 ≠ m54 ∧ m93 ≠ m53 ∧ m93 ≠ m52 ∧
    m93 ≠ m51 ∧ m93 ≠ m50 ∧ m93 ≠ m49 ∧ m93 ≠ m36 ∧ m93 ≠ m35 ∧ m93 ≠ m24 ∧ m93 ≠ m23 ∧ m93 ≠ m17 ∧ m93 ≠ m16) ∧ (x27 = 2 → ∃ (m95 : Nat), ∃ (m96 : Nat), a15 = some
    { block := m95, off := m96 } ∧ ((0 : Int) ≤ 0 ∧ 0 < (↑m61 : Int)) ∧ ∃ (x28 : Int), w60.cell? { block := m95, off := m96 + Int.toNat 0 * 1 } = some (Value.int IntKind.i64 x28) ∧
    (m95 < w.heap.size ∨ m95 ≠ m77 ∧ m95 ≠ m66 ∧ m95 ≠ m65 ∧ m95 ≠ m54 ∧ m95 ≠ m53 ∧ m95 ≠ m52 ∧ m95 ≠ m51 ∧ m95 ≠ m50 ∧ m95 ≠ m49 ∧ m95 ≠ m36 ∧ m95 ≠ m35 ∧ m95 ≠ m24 ∧ m95 ≠ m23 ∧
    m95 ≠ m17 ∧ m95 ≠ m16) ∧ (x28 = 1 → ∃ (m97 : Nat), ∃ (m98 : Nat), a16 = some { block := m97, off := m98 } ∧ ((0 : Int) ≤ 0 ∧ 0 < (↑m69 : Int)) ∧ ∃ (x29 : Int), w60.cell?
    { block := m97, off := m98 + Int.toNat 0 * 1 } = some (Value.int IntKind.i64 x29) ∧ (m97 < w.heap.size ∨ m97 ≠ m77 ∧ m97 ≠ m66 ∧ m97 ≠ m65 ∧ m97 ≠ m54 ∧ m97 ≠ m53 ∧ m97 ≠ m52 ∧
    m97 ≠ m51 ∧ m97 ≠ m50 ∧ m97 ≠ m49 ∧ m97 ≠ m36 ∧ m97 ≠ m35 ∧ m97 ≠ m24 ∧ m97 ≠ m23 ∧ m97 ≠ m17 ∧ m97 ≠ m16) ∧ (x29 = 20 → ∃ (m99 : Nat), ∃ (m100 : Nat), a16 = some
    { block := m99, off := m100 } ∧ ((0 : Int) ≤ 1 ∧ 1 < (↑m69 : Int)) ∧ ∃ (x30 : Int), w60.cell? { block := m99, off := m100 + Int.toNat 1 * 1 } = some (Value.int IntKind.i64 x30)
    ∧ (m99 < w.heap.size ∨ m99 ≠ m77 ∧ m99 ≠ m66 ∧ m99 ≠ m65 ∧ m99 ≠ m54 ∧ m99 ≠ m53 ∧ m99 ≠ m52 ∧ m99 ≠ m51 ∧ m99 ≠ m50 ∧ m99 ≠ m49 ∧ m99 ≠ m36 ∧ m99 ≠ m35 ∧ m99 ≠ m24 ∧ m99 ≠ m23
    ∧ m99 ≠ m17 ∧ m99 ≠ m16) ∧ (x30 = 10 → ∀ (w61 : World), RowKit.Below w.heap.size w w61 → Kept [m77, m66, m65, m54, m53, m52, m51, m50, m49, m36, m35, m24, m23, m17, m16] w60
    w61 → R (Ending.returned (Value.bool t1)) w61) ∧ (x30 ≠ 10 → ∀ (w62 : World), RowKit.Below w.heap.size w w62 → Kept [m77, m66, m65, m54, m53, m52, m51, m50, m49, m36, m35, m24,
    m23, m17, m16] w60 w62 → R (Ending.returned (Value.bool false)) w62)) ∧ (x29 ≠ 20 → ∀ (w63 : World), RowKit.Below w.heap.size w w63 → Kept [m77, m66, m65, m54, m53, m52, m51,
    m50, m49, m36, m35, m24, m23, m17, m16] w60 w63 → R (Ending.returned (Value.bool false)) w63)) ∧ (x28 ≠ 1 → ∀ (w64 : World), RowKit.Below w.heap.size w w64 → Kept [m77, m66,
    m65, m54, m53, m52, m51, m50, m49, m36, m35, m24, m23, m17, m16] w60 w64 → R (Ending.returned (Value.bool false)) w64)) ∧ (x27 ≠ 2 → ∀ (w65 : World), RowKit.Below w.heap.size w
    w65 → Kept [m77, m66, m65, m54, m53, m52, m51, m50, m49, m36, m35, m24, m23, m17, m16] w60 w65 → R (Ending.returned (Value.bool false)) w65)) ∧ (t7 = false → ∀ (w66 : World),
    RowKit.Below w.heap.size w w66 → Kept [m77, m66, m65, m54, m53, m52, m51, m50, m49, m36, m35, m24, m23, m17, m16] w60 w66 → R (Ending.returned (Value.bool false)) w66)) ∧ (t6 =
    false → ∀ (w67 : World), RowKit.Below w.heap.size w w67 → Kept [m77, m66, m65, m54, m53, m52, m51, m50, m49, m36, m35, m24, m23, m17, m16] w58 w67 → R (Ending.returned
    (Value.bool false)) w67)) ∧ (t5 = false → ∀ (w68 : World), RowKit.Below w.heap.size w w68 → Kept [m77, m66, m65, m54, m53, m52, m51, m50, m49, m36, m35, m24, m23, m17, m16] w56
    w68 → R (Ending.returned (Value.bool false)) w68)) ∧ (t4 = false → ∀ (w69 : World), RowKit.Below w.heap.size w w69 → Kept [m77, m66, m65, m54, m53, m52, m51, m50, m49, m36,
    m35, m24, m23, m17, m16] w52 w69 → R (Ending.returned (Value.bool false)) w69)) ∧ (t3 = false → ∀ (w70 : World), RowKit.Below w.heap.size w w70 → Kept [m77, m66, m65, m54, m53,
    m52, m51, m50, m49, m36, m35, m24, m23, m17, m16] w48 w70 → R (Ending.returned (Value.bool false)) w70))) : Calls Try.prog 14 #[] w R := calls_of_vcj (pure := true) (wrapAt :=
    []) (muts := []) (esc := []) (joins := [(2000008, [(129, 4)])]) (args := []) (vs := []) Try.func14 rfl rfl rfl (Eq.mp (by kernel_rfl) h) 
end Go.Proofs
end
section
/- The example of the laws. -/
namespace Go.Proofs.R12
open Go.Vc Go.RowKit Go.Proofs

def oneW : Wk := ⟨[[(1000, 1010)], [(990, 998)]], [⟨0, 0, 1, 0, (2, 15)⟩]⟩
theorem oneW_ok : OkW oneW := by decide +kernel
theorem oneW_small : Small oneW := ⟨by decide, by decide, by decide⟩

set_option maxRecDepth 100000 in
theorem one_l {w : World} : Calls Try.prog 45 #[] w fun e w' => ∃ pa pc fa fc, e = .returned (oneW.v pa pc fa fc) ∧ Below w.heap.size w w' ∧ LiesS w.heap.size w'.heap.size w' pa oneW.pats ∧ Lies [] w.heap.size w'.heap.size w' fa (fitsV oneW.fits) := by
  refine vc45 w _ fun m1 g1 w1 hb1 hk1 => Pure.calls (span_any _ _) fun w2 hd2 => ⟨_, _, rfl, .all hd2, fun m3 g3 w3 hb3 hk3 => Pure.calls (span_any _ _) fun w4 hd4 => ⟨_, _, rfl, .all hd4, fun m5 g5 m6 g6 w5 hb5 hk5 => Pure.calls (span_any _ _) fun w6 hd6 => ⟨_, _, rfl, .all hd6, fun m8 g8 w7 hb7 hk7 h6 h8 h3 h5 => ?_⟩⟩⟩
  have z2 := hb1.size
  have z3 := hb3.size
  have z4 := hb5.size
  have y2 := hd2.size
  have y4 := hd4.size
  have y6 := hd6.size
  have l3 := lt_of_some h3
  have l5 := lt_of_some h5
  have l6 := lt_of_some h6
  have l8 := lt_of_some h8
  have lies : ∀ {b : Nat} {vs : List Value}, w.heap.size ≤ b → b < w7.heap.size → Cells w7 (some ⟨b, 0, none⟩) vs → Lies [] w.heap.size w7.heap.size w7 (some ⟨b, 0, none⟩) vs := fun {b vs} h1 h2 hc i v hi => by
    obtain ⟨b', o', e, hcell⟩ := hc i v hi
    simp only [Option.some.injEq, Addr.mk.injEq, and_true] at e
    obtain ⟨rfl, rfl⟩ := e
    exact ⟨_, _, rfl, ⟨by simp, h1, h2⟩, hcell⟩
  refine ⟨some ⟨m6, 0, none⟩, 2, some ⟨m8, 0, none⟩, 1, rfl, hb7, fun i p hi => ?_, ?_⟩
  · match i, hi with
    | 0, hi =>
      obtain rfl := Option.some.inj hi
      exact ⟨m6, 0, some ⟨m3, 0, none⟩, 1, rfl, ⟨by omega, l6⟩, cell_obj (vs := [.slice (some ⟨m3, 0, none⟩) 1 1, .slice (some ⟨m5, 0, none⟩) 1 1]) h6 rfl, lies (by omega) l3 (Cells.obj (vs := spansV [(1000, 1010)]) h3)⟩
    | 1, hi =>
      obtain rfl := Option.some.inj hi
      exact ⟨m6, 0, some ⟨m5, 0, none⟩, 1, rfl, ⟨by omega, l6⟩, cell_obj (vs := [.slice (some ⟨m3, 0, none⟩) 1 1, .slice (some ⟨m5, 0, none⟩) 1 1]) h6 rfl, lies (by omega) l5 (Cells.obj (vs := spansV [(990, 998)]) h5)⟩
    | j + 2, hi => simp [oneW] at hi
  · exact lies (by omega) l8 (Cells.obj (vs := fitsV oneW.fits) h8)
end Go.Proofs.R12
end
section
/- What the example's calls return. -/
namespace Go.Proofs.R12
open Go.Vc Go.RowKit Go.Proofs

def kH : List Int := [1000, 1012, 1001]
def kS : List Int := [999, 995, 1003]
def lH : List Int := [1000, 1030, 1001]
def lS : List Int := [995, 996, 997]
theorem ex_gauge : gaugeM oneW 0 0 (-2, 1) = ((1001, 1008), (998, 1011), 0) := by decide +kernel
theorem ex_loose : LooseM oneW = [⟨0, 1006, 990⟩] := by decide +kernel
theorem ex_spares : SparesM (5, 9) [⟨10, 0, 20⟩] [3, 12] = ([20, 10], 0) := by decide +kernel
theorem ex_good : GoodM oneW ⟨1, [998]⟩ = (true, 0) := by decide +kernel
theorem ex_box : boxE oneW 0 kH kS = 0 := by decide +kernel
theorem ex_box2 : boxE oneW 0 lH lS = 0 := by decide +kernel
theorem ex_pair : pairM oneW 0 kH kS = [(0, 2), (1, 0), (2, 1)] := by decide +kernel
theorem ex_choose : chooseM oneW 1 [⟨0, [1010]⟩] [⟨1, [990]⟩, ⟨1, [996]⟩, ⟨1, [999]⟩] = ([1], 0) := by decide +kernel
theorem ex_pairK : pairK (fitOf oneW 0) lH lS = [(0, 0), (1, 2)] := by decide +kernel
theorem ex_lack : lackM oneW 0 lH lS = ([0, 1, 2], [0, 2]) := by
  have hp := ex_pairK
  have s2 : Short (fitOf oneW 0) lH lS [(0, 0), (1, 2)] 2 := .free (by decide) (by decide) (by decide)
  have s0 : Short (fitOf oneW 0) lH lS [(0, 0), (1, 2)] 0 := .next (h := 0) s2 (by decide) (by decide) (by decide +kernel) (by decide)
  have s1 : Short (fitOf oneW 0) lH lS [(0, 0), (1, 2)] 1 := .next (h := 2) s2 (by decide) (by decide) (by decide +kernel) (by decide)
  have f0 : FitS (fitOf oneW 0) lH lS [(0, 0), (1, 2)] 0 := ⟨by decide, 2, s2, by decide +kernel⟩
  have f2 : FitS (fitOf oneW 0) lH lS [(0, 0), (1, 2)] 2 := ⟨by decide, 2, s2, by decide +kernel⟩
  have ok : PsOk [(0, 0), (1, 2)] lS.length lH.length := by rw [← hp]; exact pairK_ok _ _ _
  have f1 : ¬ FitS (fitOf oneW 0) lH lS [(0, 0), (1, 2)] 1 := fun ⟨_, s, h1, h2⟩ => by
    obtain ⟨a, b⟩ := h1.in ok
    have : s = 0 ∨ s = 1 ∨ s = 2 := by simp only [lS, List.length_cons, List.length_nil] at b; omega
    rcases this with rfl | rfl | rfl <;> revert h2 <;> decide +kernel
  unfold lackM
  rw [if_pos ex_box2]
  unfold shortL fitL
  rw [hp]
  have i3 : idxs lS.length = [0, 1, 2] := rfl
  have i3' : idxs lH.length = [0, 1, 2] := rfl
  rw [i3, i3']
  simp [List.filter, s0, s1, s2, f0, f1, f2]
end Go.Proofs.R12
end
section
/- The example of the laws, checked. -/
namespace Go.Proofs.R12
open Go.Vc Go.RowKit Go.Proofs
theorem liesS_chg {lo hi : Nat} {w w' : World} {a : Option Addr} {ps : List (List Sp)} {S : List Nat} (h : LiesS lo hi w a ps) (hc : Chg S w w') (hs : ∀ x ∈ S, x < lo ∨ hi ≤ x) : CellsS w' a ps := fun i p hi => by
  obtain ⟨b, o, a', c, e, hb, h1, h2⟩ := h i p hi
  exact ⟨b, o, a', c, e, hc.cell (fun hm => by have := hs b hm; omega) h1, (h2.out hc hs).cells⟩
set_option maxRecDepth 100000 in
set_option maxHeartbeats 2000000 in
theorem known_any {w : World} : Calls Try.prog 14 #[] w (Pure w (.bool true)) := by
  refine vc14 w _ ?_
  intro w1 hb1 hk1
  have z1 := hk1.size
  have x1 := hb1.size
  have o1 := hk1.own
  simp only [List.not_mem_nil, false_implies, implies_true] at o1
  refine one_l.mono fun e1 w2 he => ?_
  obtain ⟨pa2, pc2, fa2, fc2, rfl, hd2, P2, F2⟩ := he
  have y2 := hd2.size
  refine ⟨_, _, _, _, _, _, rfl, .all hd2, ?_⟩
  intro w3 hb3 hk3
  have z3 := hk3.size
  have x3 := hb3.size
  have o3 := hk3.own
  simp only [List.not_mem_nil, false_implies, implies_true] at o3
  have PC3 : CellsS w3 pa2 oneW.pats := liesS_chg P2 (Chg.kept hk3) (by simp)
  have FC3 : Cells w3 fa2 (fitsV oneW.fits) := (F2.out (Chg.kept hk3) (by simp)).cells
  refine (Loose_l PC3 FC3 oneW_small).mono fun e2 w4 he => ?_
  rw [ex_loose, show checkE oneW = 0 from checkE_ok.2 oneW_ok] at he
  obtain ⟨aL, cL, rfl, hd4, D4⟩ := he
  have y4 := hd4.size
  refine ⟨_, _, _, _, rfl, .all hd4, ?_⟩
  intro w5 hb5 hk5
  have z5 := hk5.size
  have x5 := hb5.size
  have o5 := hk5.own
  simp only [List.not_mem_nil, false_implies, implies_true] at o5
  refine one_l.mono fun e3 w6 he => ?_
  obtain ⟨pa6, pc6, fa6, fc6, rfl, hd6, P6, F6⟩ := he
  have y6 := hd6.size
  refine ⟨_, _, _, _, _, _, rfl, .all hd6, ?_⟩
  intro w7 hb7 hk7
  have z7 := hk7.size
  have x7 := hb7.size
  have o7 := hk7.own
  simp only [List.not_mem_nil, false_implies, implies_true] at o7
  refine Pure.calls (span_any _ _) fun w8 hd8 => ⟨_, _, rfl, .all hd8, ?_⟩
  have y8 := hd8.size
  intro w9 hb9 hk9
  have z9 := hk9.size
  have x9 := hb9.size
  have o9 := hk9.own
  simp only [List.not_mem_nil, false_implies, implies_true] at o9
  have PC9 : CellsS w9 pa6 oneW.pats := liesS_chg P6 (((Chg.kept hk7).trans (Chg.of_below hd8)).trans (Chg.kept hk9)) (by simp)
  have FC9 : Cells w9 fa6 (fitsV oneW.fits) := (F6.out (((Chg.kept hk7).trans (Chg.of_below hd8)).trans (Chg.kept hk9)) (by simp)).cells
  refine Pure.calls (gauge_any 0 0 (-2, 1) PC9 FC9 oneW_small) fun w10 hd10 => ?_
  have y10 := hd10.size
  rw [ex_gauge]
  refine ⟨_, _, _, _, _, rfl, .all hd10, ?_⟩
  intro m16 g_m16
  intro m17 g_m17
  intro w11 hb11 hk11
  have z11 := hk11.size
  have x11 := hb11.size
  have o11 := hk11.own
  simp only [List.mem_cons, List.not_mem_nil, or_false, forall_eq_or_imp, forall_eq] at o11
  refine one_l.mono fun e6 w12 he => ?_
  obtain ⟨pa12, pc12, fa12, fc12, rfl, hd12, P12, F12⟩ := he
  have y12 := hd12.size
  refine ⟨_, _, _, _, _, _, rfl, .all hd12, ?_⟩
  intro m23 g_m23
  intro m24 g_m24
  intro w13 hb13 hk13 hc_m23 hc_m24
  have z13 := hk13.size
  have x13 := hb13.size
  have o13 := hk13.own
  simp only [List.mem_cons, List.not_mem_nil, or_false, forall_eq_or_imp, forall_eq] at o13
  have PC13 : CellsS w13 pa12 oneW.pats := liesS_chg P12 (Chg.kept hk13) (by simp only [List.mem_cons, List.not_mem_nil, or_false, forall_eq_or_imp, forall_eq]; omega)
  have FC13 : Cells w13 fa12 (fitsV oneW.fits) := (F12.out (Chg.kept hk13) (by simp only [List.mem_cons, List.not_mem_nil, or_false, forall_eq_or_imp, forall_eq]; omega)).cells
  refine (Pair_l (n := 0) (H := kH) (S := kS) PC13 FC13 oneW_small (Cells.obj (vs := ints kH) hc_m23) (Cells.obj (vs := ints kS) hc_m24) (by decide) (by decide) (fun _ => by decide)).mono fun e7 w14 he => ?_
  rw [ex_pair, ex_box] at he
  obtain ⟨aP, cP, rfl, hd14, D14⟩ := he
  have y14 := hd14.size
  refine ⟨_, _, _, _, rfl, .all hd14, ?_⟩
  intro w15 hb15 hk15
  have z15 := hk15.size
  have x15 := hb15.size
  have o15 := hk15.own
  simp only [List.mem_cons, List.not_mem_nil, or_false, forall_eq_or_imp, forall_eq] at o15
  refine one_l.mono fun e8 w16 he => ?_
  obtain ⟨pa16, pc16, fa16, fc16, rfl, hd16, P16, F16⟩ := he
  have y16 := hd16.size
  refine ⟨_, _, _, _, _, _, rfl, .all hd16, ?_⟩
  intro m35 g_m35
  intro m36 g_m36
  intro w17 hb17 hk17 hc_m35 hc_m36
  have z17 := hk17.size
  have x17 := hb17.size
  have o17 := hk17.own
  simp only [List.mem_cons, List.not_mem_nil, or_false, forall_eq_or_imp, forall_eq] at o17
  have PC17 : CellsS w17 pa16 oneW.pats := liesS_chg P16 (Chg.kept hk17) (by simp only [List.mem_cons, List.not_mem_nil, or_false, forall_eq_or_imp, forall_eq]; omega)
  have FC17 : Cells w17 fa16 (fitsV oneW.fits) := (F16.out (Chg.kept hk17) (by simp only [List.mem_cons, List.not_mem_nil, or_false, forall_eq_or_imp, forall_eq]; omega)).cells
  refine (Lack_l (n := 0) (H := lH) (S := lS) PC17 FC17 oneW_small (Cells.obj (vs := ints lH) hc_m35) (Cells.obj (vs := ints lS) hc_m36) (by decide) (by decide) (fun _ => by decide)).mono fun e9 w18 he => ?_
  rw [ex_lack, ex_box2] at he
  obtain ⟨aF, cF, aA, cA, rfl, hd18, D18, E18⟩ := he
  have y18 := hd18.size
  refine ⟨_, _, _, _, _, _, _, rfl, .all hd18, ?_⟩
  intro w19 hb19 hk19
  have z19 := hk19.size
  have x19 := hb19.size
  have o19 := hk19.own
  simp only [List.mem_cons, List.not_mem_nil, or_false, forall_eq_or_imp, forall_eq] at o19
  refine one_l.mono fun e10 w20 he => ?_
  obtain ⟨pa20, pc20, fa20, fc20, rfl, hd20, P20, F20⟩ := he
  have y20 := hd20.size
  refine ⟨_, _, _, _, _, _, rfl, .all hd20, ?_⟩
  intro m49 g_m49
  intro m50 g_m50
  intro m51 g_m51
  intro m52 g_m52
  intro m53 g_m53
  intro m54 g_m54
  intro w21 hb21 hk21 hc_m50 hc_m54 hc_m49 hc_m51 hc_m52 hc_m53
  have z21 := hk21.size
  have x21 := hb21.size
  have o21 := hk21.own
  simp only [List.mem_cons, List.not_mem_nil, or_false, forall_eq_or_imp, forall_eq] at o21
  have PC21 : CellsS w21 pa20 oneW.pats := liesS_chg P20 (Chg.kept hk21) (by simp only [List.mem_cons, List.not_mem_nil, or_false, forall_eq_or_imp, forall_eq]; omega)
  have FC21 : Cells w21 fa20 (fitsV oneW.fits) := (F20.out (Chg.kept hk21) (by simp only [List.mem_cons, List.not_mem_nil, or_false, forall_eq_or_imp, forall_eq]; omega)).cells
  have KC : CellsP w21 (some ⟨m50, 0, none⟩) [⟨0, [1010]⟩] := fun i p hi => by
    match i, hi with
    | 0, hi =>
      obtain rfl := Option.some.inj hi
      exact ⟨m50, 0, some ⟨m49, 0, none⟩, 1, rfl, cell_obj (vs := [I 0, .slice (some ⟨m49, 0, none⟩) 1 1]) hc_m50 rfl, cell_obj (vs := [I 0, .slice (some ⟨m49, 0, none⟩) 1 1]) hc_m50 rfl, Cells.obj (vs := ints [1010]) hc_m49⟩
    | j + 1, hi => simp at hi
  have KT : CellsP w21 (some ⟨m54, 0, none⟩) [⟨1, [990]⟩, ⟨1, [996]⟩, ⟨1, [999]⟩] := fun i p hi => by
    match i, hi with
    | 0, hi =>
      obtain rfl := Option.some.inj hi
      exact ⟨m54, 0, some ⟨m51, 0, none⟩, 1, rfl, cell_obj (vs := [I 1, .slice (some ⟨m51, 0, none⟩) 1 1, I 1, .slice (some ⟨m52, 0, none⟩) 1 1, I 1, .slice (some ⟨m53, 0, none⟩) 1 1]) hc_m54 rfl, cell_obj (vs := [I 1, .slice (some ⟨m51, 0, none⟩) 1 1, I 1, .slice (some ⟨m52, 0, none⟩) 1 1, I 1, .slice (some ⟨m53, 0, none⟩) 1 1]) hc_m54 rfl, Cells.obj (vs := ints [990]) hc_m51⟩
    | 1, hi =>
      obtain rfl := Option.some.inj hi
      exact ⟨m54, 0, some ⟨m52, 0, none⟩, 1, rfl, cell_obj (vs := [I 1, .slice (some ⟨m51, 0, none⟩) 1 1, I 1, .slice (some ⟨m52, 0, none⟩) 1 1, I 1, .slice (some ⟨m53, 0, none⟩) 1 1]) hc_m54 rfl, cell_obj (vs := [I 1, .slice (some ⟨m51, 0, none⟩) 1 1, I 1, .slice (some ⟨m52, 0, none⟩) 1 1, I 1, .slice (some ⟨m53, 0, none⟩) 1 1]) hc_m54 rfl, Cells.obj (vs := ints [996]) hc_m52⟩
    | 2, hi =>
      obtain rfl := Option.some.inj hi
      exact ⟨m54, 0, some ⟨m53, 0, none⟩, 1, rfl, cell_obj (vs := [I 1, .slice (some ⟨m51, 0, none⟩) 1 1, I 1, .slice (some ⟨m52, 0, none⟩) 1 1, I 1, .slice (some ⟨m53, 0, none⟩) 1 1]) hc_m54 rfl, cell_obj (vs := [I 1, .slice (some ⟨m51, 0, none⟩) 1 1, I 1, .slice (some ⟨m52, 0, none⟩) 1 1, I 1, .slice (some ⟨m53, 0, none⟩) 1 1]) hc_m54 rfl, Cells.obj (vs := ints [999]) hc_m53⟩
    | j + 3, hi => simp at hi
  refine (Choose_l (p := 1) (C := [⟨0, [1010]⟩]) (St := [⟨1, [990]⟩, ⟨1, [996]⟩, ⟨1, [999]⟩]) PC21 FC21 oneW_small KC KT (by decide) (by decide) (by decide) (by decide)).mono fun e11 w22 he => ?_
  unfold PureL at he
  rw [ex_choose] at he
  obtain ⟨aC, cC, rfl, hd22, D22⟩ := he
  have y22 := hd22.size
  refine ⟨_, _, _, _, rfl, .all hd22, ?_⟩
  intro w23 hb23 hk23
  have z23 := hk23.size
  have x23 := hb23.size
  have o23 := hk23.own
  simp only [List.mem_cons, List.not_mem_nil, or_false, forall_eq_or_imp, forall_eq] at o23
  refine Pure.calls (span_any _ _) fun w24 hd24 => ⟨_, _, rfl, .all hd24, ?_⟩
  have y24 := hd24.size
  intro m65 g_m65
  intro m66 g_m66
  intro w25 hb25 hk25 hc_m65 hc_m66
  have z25 := hk25.size
  have x25 := hb25.size
  have o25 := hk25.own
  simp only [List.mem_cons, List.not_mem_nil, or_false, forall_eq_or_imp, forall_eq] at o25
  refine (spares_l (5, 9) (l := [⟨10, 0, 20⟩]) (orders := [3, 12]) (Cells.obj (vs := consV [⟨10, 0, 20⟩]) hc_m65) (Cells.obj (vs := ints [3, 12]) hc_m66) (by decide) (by decide) (by decide)).mono fun e13 w26 he => ?_
  rw [ex_spares] at he
  obtain ⟨aS, cS, rfl, hd26, D26⟩ := he
  have y26 := hd26.size
  refine ⟨_, _, _, _, rfl, .all hd26, ?_⟩
  intro w27 hb27 hk27
  have z27 := hk27.size
  have x27 := hb27.size
  have o27 := hk27.own
  simp only [List.mem_cons, List.not_mem_nil, or_false, forall_eq_or_imp, forall_eq] at o27
  refine one_l.mono fun e14 w28 he => ?_
  obtain ⟨pa28, pc28, fa28, fc28, rfl, hd28, P28, F28⟩ := he
  have y28 := hd28.size
  refine ⟨_, _, _, _, _, _, rfl, .all hd28, ?_⟩
  intro m77 g_m77
  intro w29 hb29 hk29 hc_m77
  have z29 := hk29.size
  have x29 := hb29.size
  have o29 := hk29.own
  simp only [List.mem_cons, List.not_mem_nil, or_false, forall_eq_or_imp, forall_eq] at o29
  have PC29 : CellsS w29 pa28 oneW.pats := liesS_chg P28 (Chg.kept hk29) (by simp only [List.mem_cons, List.not_mem_nil, or_false, forall_eq_or_imp, forall_eq]; omega)
  have FC29 : Cells w29 fa28 (fitsV oneW.fits) := (F28.out (Chg.kept hk29) (by simp only [List.mem_cons, List.not_mem_nil, or_false, forall_eq_or_imp, forall_eq]; omega)).cells
  refine Pure.calls (Good_any ⟨1, [998]⟩ (Cells.obj (vs := ints [998]) hc_m77) (by decide) PC29 FC29 oneW_small) fun w30 hd30 => ?_
  have y30 := hd30.size
  rw [ex_good]
  refine ⟨_, _, rfl, .all hd30, ?_⟩
  have hs : ∀ {own : List Nat} {u v : World}, Kept own u v → (∀ x ∈ own, x ∈ [m77, m66, m65, m54, m53, m52, m51, m50, m49, m36, m35, m24, m23, m17, m16]) → Chg [m77, m66, m65, m54, m53, m52, m51, m50, m49, m36, m35, m24, m23, m17, m16] u v := fun hk h => (Chg.kept hk).mono fun x hx => .inl (h x hx)
  have hbl : ∀ {u v : World}, Below u.heap.size u v → Chg [m77, m66, m65, m54, m53, m52, m51, m50, m49, m36, m35, m24, m23, m17, m16] u v := fun h => Chg.of_below h
  have C4_14 : Chg [m77, m66, m65, m54, m53, m52, m51, m50, m49, m36, m35, m24, m23, m17, m16] w4 w14 := ((hs hk5 (by simp)).trans ((hbl hd6).trans ((hs hk7 (by simp)).trans ((hbl hd8).trans ((hs hk9 (by simp)).trans ((hbl hd10).trans ((hs hk11 (by simp)).trans ((hbl hd12).trans ((hs hk13 (by simp)).trans (hbl hd14))))))))))
  have C14_18 : Chg [m77, m66, m65, m54, m53, m52, m51, m50, m49, m36, m35, m24, m23, m17, m16] w14 w18 := ((hs hk15 (by simp)).trans ((hbl hd16).trans ((hs hk17 (by simp)).trans (hbl hd18))))
  have C18_22 : Chg [m77, m66, m65, m54, m53, m52, m51, m50, m49, m36, m35, m24, m23, m17, m16] w18 w22 := ((hs hk19 (by simp)).trans ((hbl hd20).trans ((hs hk21 (by simp)).trans (hbl hd22))))
  have C22_26 : Chg [m77, m66, m65, m54, m53, m52, m51, m50, m49, m36, m35, m24, m23, m17, m16] w22 w26 := ((hs hk23 (by simp)).trans ((hbl hd24).trans ((hs hk25 (by simp)).trans (hbl hd26))))
  have C26_30 : Chg [m77, m66, m65, m54, m53, m52, m51, m50, m49, m36, m35, m24, m23, m17, m16] w26 w30 := ((hs hk27 (by simp)).trans ((hbl hd28).trans ((hs hk29 (by simp)).trans (hbl hd30))))
  have D30 := D26.out C26_30 (by simp only [List.mem_cons, List.not_mem_nil, or_false, forall_eq_or_imp, forall_eq]; omega)
  have DC30 := (D22.out C22_26 (by simp only [List.mem_cons, List.not_mem_nil, or_false, forall_eq_or_imp, forall_eq]; omega)).out C26_30 (by simp only [List.mem_cons, List.not_mem_nil, or_false, forall_eq_or_imp, forall_eq]; omega)
  have DA30 := ((E18.out C18_22 (by simp only [List.mem_cons, List.not_mem_nil, or_false, forall_eq_or_imp, forall_eq]; omega)).out C22_26 (by simp only [List.mem_cons, List.not_mem_nil, or_false, forall_eq_or_imp, forall_eq]; omega)).out C26_30 (by simp only [List.mem_cons, List.not_mem_nil, or_false, forall_eq_or_imp, forall_eq]; omega)
  have DP30 := (((D14.out C14_18 (by simp only [List.mem_cons, List.not_mem_nil, or_false, forall_eq_or_imp, forall_eq]; omega)).out C18_22 (by simp only [List.mem_cons, List.not_mem_nil, or_false, forall_eq_or_imp, forall_eq]; omega)).out C22_26 (by simp only [List.mem_cons, List.not_mem_nil, or_false, forall_eq_or_imp, forall_eq]; omega)).out C26_30 (by simp only [List.mem_cons, List.not_mem_nil, or_false, forall_eq_or_imp, forall_eq]; omega)
  have DL30 := ((((D4.out C4_14 (by simp only [List.mem_cons, List.not_mem_nil, or_false, forall_eq_or_imp, forall_eq]; omega)).out C14_18 (by simp only [List.mem_cons, List.not_mem_nil, or_false, forall_eq_or_imp, forall_eq]; omega)).out C18_22 (by simp only [List.mem_cons, List.not_mem_nil, or_false, forall_eq_or_imp, forall_eq]; omega)).out C22_26 (by simp only [List.mem_cons, List.not_mem_nil, or_false, forall_eq_or_imp, forall_eq]; omega)).out C26_30 (by simp only [List.mem_cons, List.not_mem_nil, or_false, forall_eq_or_imp, forall_eq]; omega)
  refine ⟨fun ls w' => match ls with | [.bool t] => t = false ∧ Chg [m77, m66, m65, m54, m53, m52, m51, m50, m49, m36, m35, m24, m23, m17, m16] w30 w' | _ => False, ⟨fun h => absurd rfl h, fun _ => ⟨fun h => absurd rfl h, fun _ => ⟨fun h => absurd rfl h, fun _ => ⟨fun h => absurd rfl h, fun _ => ⟨fun h => absurd rfl h, fun _ => ⟨fun h => absurd rfl h, fun _ => ⟨fun h => absurd rfl h, fun _ => ⟨fun h => absurd rfl h, fun _ => ⟨fun h => absurd rfl h, fun _ => ⟨fun h => absurd rfl h, fun _ => ⟨fun h => absurd rfl h, fun _ => ⟨fun h => absurd rfl h, fun _ => fun w44 hb44 hk44 => ⟨rfl, hs hk44 (fun _ h => h)⟩⟩⟩⟩⟩⟩⟩⟩⟩⟩⟩⟩⟩, ?_⟩
  rintro t2 w45 hb45 ⟨rfl, c45⟩
  refine ⟨fun h => (by cases h), fun _ => ?_⟩
  have z45 := c45.size
  have D45 := D30.out c45 (by simp only [List.mem_cons, List.not_mem_nil, or_false, forall_eq_or_imp, forall_eq]; omega)
  have DC45 := DC30.out c45 (by simp only [List.mem_cons, List.not_mem_nil, or_false, forall_eq_or_imp, forall_eq]; omega)
  have DA45 := DA30.out c45 (by simp only [List.mem_cons, List.not_mem_nil, or_false, forall_eq_or_imp, forall_eq]; omega)
  have DP45 := DP30.out c45 (by simp only [List.mem_cons, List.not_mem_nil, or_false, forall_eq_or_imp, forall_eq]; omega)
  have DL45 := DL30.out c45 (by simp only [List.mem_cons, List.not_mem_nil, or_false, forall_eq_or_imp, forall_eq]; omega)
  obtain ⟨b1, p1, rfl, ⟨_, l1, h1⟩, q1⟩ := DL45 0 _ rfl
  refine ⟨b1, p1, rfl, ⟨by omega, by decide⟩, 0, 1006, 990, cell_at' q1 (by simp), cell_at' (DL45.at (i := 1) rfl).2 (by simp), cell_at' (DL45.at (i := 2) rfl).2 (by simp), .inr ⟨by omega, by omega, by omega, by omega, by omega, by omega, by omega, by omega, by omega, by omega, by omega, by omega, by omega, by omega, by omega⟩, fun w47 hb47 hk47 => eqlr_gap ⟨true, rfl, .all (.refl _ _), fun _ => ?_, fun h => (by cases h)⟩⟩
  intro w49 hb49 hk49
  refine Pure.calls (span_any _ _) fun w50 hd50 => ⟨_, _, rfl, .all hd50, fun w51 hb51 hk51 => eqlr_span ⟨true, rfl, .all (.refl _ _), fun _ => ?_, fun h => (by cases h)⟩⟩
  intro w53 hb53 hk53
  refine Pure.calls (span_any _ _) fun w54 hd54 => ⟨_, _, rfl, .all hd54, fun w55 hb55 hk55 => eqlr_span ⟨true, rfl, .all (.refl _ _), fun _ => ?_, fun h => (by cases h)⟩⟩
  have c55 : Chg [m77, m66, m65, m54, m53, m52, m51, m50, m49, m36, m35, m24, m23, m17, m16] w45 w55 := hk47.chg.trans (hk49.chg.trans ((hbl hd50).trans (hk51.chg.trans (hk53.chg.trans ((hbl hd54).trans hk55.chg)))))
  have D55 := D45.out c55 (by simp only [List.mem_cons, List.not_mem_nil, or_false, forall_eq_or_imp, forall_eq]; omega)
  have DC55 := DC45.out c55 (by simp only [List.mem_cons, List.not_mem_nil, or_false, forall_eq_or_imp, forall_eq]; omega)
  have DA55 := DA45.out c55 (by simp only [List.mem_cons, List.not_mem_nil, or_false, forall_eq_or_imp, forall_eq]; omega)
  have DP55 := DP45.out c55 (by simp only [List.mem_cons, List.not_mem_nil, or_false, forall_eq_or_imp, forall_eq]; omega)
  obtain ⟨b2, p2, rfl, ⟨_, l2, h2⟩, q2⟩ := DP55 0 _ rfl
  refine ⟨b2, p2, rfl, ⟨by omega, by decide⟩, 0, 2, cell_at' q2 (by simp), cell_at' (DP55.at (i := 1) rfl).2 (by simp), .inr ⟨by omega, by omega, by omega, by omega, by omega, by omega, by omega, by omega, by omega, by omega, by omega, by omega, by omega, by omega, by omega⟩, fun w57 hb57 hk57 => ⟨.bool true, w57, by kernel_rfl, true, rfl, .all (.refl _ _), fun _ => ?_, fun h => (by cases h)⟩⟩
  have DP57 := DP55.out hk57.chg (by simp only [List.mem_cons, List.not_mem_nil, or_false, forall_eq_or_imp, forall_eq]; omega)
  refine ⟨b2, p2, rfl, ⟨by omega, by decide⟩, 2, 1, cell_at' (DP57.at (i := 4) rfl).2 (by simp), cell_at' (DP57.at (i := 5) rfl).2 (by simp), .inr ⟨by omega, by omega, by omega, by omega, by omega, by omega, by omega, by omega, by omega, by omega, by omega, by omega, by omega, by omega, by omega⟩, fun w59 hb59 hk59 => ⟨.bool true, w59, by kernel_rfl, true, rfl, .all (.refl _ _), fun _ => ?_, fun h => (by cases h)⟩⟩
  have D59 := (D55.out hk57.chg (by simp only [List.mem_cons, List.not_mem_nil, or_false, forall_eq_or_imp, forall_eq]; omega)).out hk59.chg (by simp only [List.mem_cons, List.not_mem_nil, or_false, forall_eq_or_imp, forall_eq]; omega)
  have DC59 := (DC55.out hk57.chg (by simp only [List.mem_cons, List.not_mem_nil, or_false, forall_eq_or_imp, forall_eq]; omega)).out hk59.chg (by simp only [List.mem_cons, List.not_mem_nil, or_false, forall_eq_or_imp, forall_eq]; omega)
  have DA59 := (DA55.out hk57.chg (by simp only [List.mem_cons, List.not_mem_nil, or_false, forall_eq_or_imp, forall_eq]; omega)).out hk59.chg (by simp only [List.mem_cons, List.not_mem_nil, or_false, forall_eq_or_imp, forall_eq]; omega)
  obtain ⟨b3, p3, rfl, ⟨_, l3, h3⟩, q3⟩ := DA59 0 _ rfl
  obtain ⟨b4, p4, rfl, ⟨_, l4, h4⟩, q4⟩ := DC59 0 _ rfl
  obtain ⟨b5, p5, rfl, ⟨_, l5, h5⟩, q5⟩ := D59 0 _ rfl
  refine ⟨b3, p3, rfl, ⟨by omega, by decide⟩, 2, cell_at' (DA59.at (i := 1) rfl).2 (by simp), .inr ⟨by omega, by omega, by omega, by omega, by omega, by omega, by omega, by omega, by omega, by omega, by omega, by omega, by omega, by omega, by omega⟩, fun _ => ?_, fun h => absurd rfl h⟩
  refine ⟨b4, p4, rfl, ⟨by omega, by decide⟩, 1, cell_at' q4 (by simp), .inr ⟨by omega, by omega, by omega, by omega, by omega, by omega, by omega, by omega, by omega, by omega, by omega, by omega, by omega, by omega, by omega⟩, fun _ => ?_, fun h => absurd rfl h⟩
  refine ⟨b5, p5, rfl, ⟨by omega, by decide⟩, 20, cell_at' q5 (by simp), .inr ⟨by omega, by omega, by omega, by omega, by omega, by omega, by omega, by omega, by omega, by omega, by omega, by omega, by omega, by omega, by omega⟩, fun _ => ?_, fun h => absurd rfl h⟩
  refine ⟨b5, p5, rfl, ⟨by omega, by decide⟩, 10, cell_at' (D59.at (i := 1) rfl).2 (by simp), .inr ⟨by omega, by omega, by omega, by omega, by omega, by omega, by omega, by omega, by omega, by omega, by omega, by omega, by omega, by omega, by omega⟩, fun _ w61 hb61 _ => ⟨rfl, hb61⟩, fun h => absurd rfl h⟩
end Go.Proofs.R12
end
section
/- The conditions of the functions, printed by program; each is what the generator reckons (kernel_rfl). -/
namespace Go.Proofs
open Go.Vc
end Go.Proofs
end
section
/- The law PartSpares, walked. -/
namespace Go.Proofs.R12
open Go.Vc Go.RowKit Go.Proofs
end Go.Proofs.R12
end
section
/- The laws' arguments, opened. -/
namespace Go.Proofs.R12
open Go.Vc Go.RowKit Go.Proofs

theorem Try.own : ownKnob Try.prog.godebug = none := by kernel_rfl
theorem Try.laidOut : laidOutB Try.prog = true := by kernel_rfl
abbrev Li : Leaf := .int .i64
def In64 (x : Int) : Prop := rng .i64 x
section
variable {w : World}
end
section
variable {w : World} {H : Type} {enc : TypeId × Value → H} {base b0 : Nat} {held : Bool} {spare : Nat → Bool} {reach : Reach}
end
end Go.Proofs.R12
end
section
/- The laws PartLooses and PartGauges, walked. -/
namespace Go.Proofs.R12
open Go.Vc Go.RowKit Go.Proofs
theorem LiesS.out {lo hi : Nat} {w w' : World} {a : Option Addr} {ps : List (List Sp)} {S : List Nat} (h : LiesS lo hi w a ps) (hc : Chg S w w') (hs : ∀ x ∈ S, x < lo ∨ hi ≤ x) : LiesS lo hi w' a ps := fun i p hi => by
  obtain ⟨b, o, a', c, e, hb, h1, h2⟩ := h i p hi
  exact ⟨b, o, a', c, e, hb, hc.cell (fun hm => by have := hs b hm; omega) h1, h2.out hc hs⟩
theorem LiesS.ko {lo hi : Nat} {w w' : World} {a : Option Addr} {ps : List (List Sp)} {bs : List Nat} (h : LiesS lo hi w a ps) (hk : Kept bs w w') (hs : ∀ x ∈ bs, x < lo ∨ hi ≤ x) : LiesS lo hi w' a ps := h.out (Chg.kept hk) hs
theorem LiesS.below {lo hi : Nat} {w w' : World} {a : Option Addr} {ps : List (List Sp)} (h : LiesS lo hi w a ps) (hb : Below w.heap.size w w') : LiesS lo hi w' a ps := h.out (S := []) (Chg.of_below hb) (by simp)
theorem kio_cell {lo hi b o : Nat} {w w' : World} {rs : List (Nat × Nat)} {bs : List Nat} {v : Value} (hk : KeptIn rs bs w w') (hs : ∀ x ∈ bs, x < lo ∨ hi ≤ x) (hin : ∃ r ∈ rs, r.1 ≤ lo ∧ hi ≤ r.2) (hb : lo ≤ b ∧ b < hi) (hc : w.cell? ⟨b, o, none⟩ = some v) : w'.cell? ⟨b, o, none⟩ = some v := by
  obtain ⟨r, hr1, hr2, hr3⟩ := hin
  have := hk.block b (cell_lt hc) (fun hm => by have := hs b hm; omega) ⟨r, hr1, by omega, by omega⟩
  unfold World.cell? at hc ⊢
  simp only [this]; exact hc
theorem LiesS.kio {lo hi : Nat} {w w' : World} {a : Option Addr} {ps : List (List Sp)} {rs : List (Nat × Nat)} {bs : List Nat} (h : LiesS lo hi w a ps) (hk : KeptIn rs bs w w') (hs : ∀ x ∈ bs, x < lo ∨ hi ≤ x) (hin : ∃ r ∈ rs, r.1 ≤ lo ∧ hi ≤ r.2) : LiesS lo hi w' a ps := fun i p hi => by
  obtain ⟨b, o, a', c, e, hb, h1, h2⟩ := h i p hi
  exact ⟨b, o, a', c, e, hb, kio_cell hk hs hin hb h1, h2.kio hk hs hin⟩
theorem looseL_len (W : Wk) (k : Nat) : (looseL W k).length ≤ k := Nat.le_trans (List.length_filterMap_le ..) (by simp)
theorem loose_len (W : Wk) (hS : Small W) : (LooseM W).length ≤ 1000 := by
  have := looseL_len W W.fits.length
  have := hS.m
  unfold LooseM; split
  · omega
  · simp
theorem gaps_get {l : List Gap} {i : Nat} {x : Gap} (h : l[i]? = some x) (j : Nat) (hj : j < 3) : (gapsV l)[i * 3 + j]? = [I x.fit, I x.hole, I x.shaft][j]? := flat_get (k := 3) (f := fun g : Gap => [I g.fit, I g.hole, I g.shaft]) (fun _ => rfl) h hj
end Go.Proofs.R12
end
section
/- Enough spares: the plain law. -/
namespace Go.Proofs.R12
open Go.Vc Go.RowKit Go.Proofs

/-- Replacements of one clock before a year. -/
def qT (lo frm Y : Int) : Int := max 0 ((Y - 1 - frm).tdiv lo)
/-- What was used before a year. -/
def cum (U : List Int) (Y : Int) : Int := (U.take Y.toNat).sum
/-- Contracts as the law makes them. -/
structure ConOk (lo : Int) (x : Con) : Prop where
  c : 0 ≤ x.clocks ∧ x.clocks ≤ 5
  f : lo ≤ x.frm ∧ x.frm ≤ x.to
  t : x.to ≤ 200
section
variable {lo : Int} {l : List Con} (hl : 1 ≤ lo) (hc : ∀ x ∈ l, ConOk lo x)
include hl hc
end
/-- Orders as the law makes them. -/
structure OrdOk (lo : Int) (o : List Int) : Prop where
  n : 0 < o.length ∧ o.length ≤ 6
  inc : ∀ j : Nat, j < o.length → 0 < j → o.getD (j - 1) 0 < o.getD j 0
  bd : ∀ y ∈ o, 0 ≤ y ∧ y ≤ 200
  fst : o.getD 0 0 < 2 * lo
def nextO (o : List Int) (j : Nat) : Int := (nexts o).getD j 0
section
variable {lo hi : Int} {l : List Con} {o : List Int}
/-- What one truth uses: no more than is said, and just as much if all lives are short. -/
structure Uses (tr : Int) (U : List Int) (B : Int → Int) : Prop where
  n : U.length = 201
  p : ∀ x ∈ U, 0 ≤ x
  le : ∀ Y, 0 ≤ Y → Y ≤ 201 → cum U Y ≤ B Y
  eq : tr = 1 → ∀ Y, 0 ≤ Y → Y ≤ 201 → cum U Y = B Y
/-- A clock's k replacements: the last one in year y. -/
structure Clock (tr lo frm to k y : Int) : Prop where
  kn : 0 ≤ k
  yl : frm + k * lo ≤ y
  ye : tr = 1 → y = frm + k * lo
  yt : k = 0 ∨ y < to
def kq (lo frm k Y : Int) : Int := min k (qT lo frm Y)
/-- The office's stock at the beginning of a year. -/
structure Stock (lo : Int) (l : List Con) (o : List Int) (tr : Int) (U Lm : List Int) (st ord y : Int) : Prop where
  ob : 0 ≤ ord ∧ ord ≤ o.length
  past : ∀ j : Nat, (j : Int) < ord → o.getD j 0 < y
  next : ord < o.length → y ≤ o.getD ord.toNat 0
  se : st = bought lo l o ord.toNat - cum U y
  ln : Lm.length = o.length
  lm : ∀ j : Nat, j < o.length → nextO o j ≤ y → Lm.getD j 0 = bought lo l o (j + 1) - cum U (nextO o j)
/-- .. and after its orders. -/
structure Stock2 (lo : Int) (l : List Con) (o : List Int) (U Lm : List Int) (st ord y : Int) : Prop where
  ob : 0 ≤ ord ∧ ord ≤ o.length
  past : ∀ j : Nat, (j : Int) < ord → o.getD j 0 ≤ y
  next : ord < o.length → y < o.getD ord.toNat 0
  se : st = bought lo l o ord.toNat - cum U y
  ln : Lm.length = o.length
  lm : ∀ j : Nat, j < o.length → nextO o j ≤ y → Lm.getD j 0 = bought lo l o (j + 1) - cum U (nextO o j)
end
end Go.Proofs.R12
end
section
/- The conditions of the functions, printed by program; each is what the generator reckons (kernel_rfl). -/
namespace Go.Proofs
open Go.Vc
end Go.Proofs
end
section
/- The law PartEnough, walked. -/
namespace Go.Proofs.R12
open Go.Vc Go.RowKit Go.Proofs
def u8s (l : List Int) : List Value := l.map (Value.int .u8)
def byteM (l : List Int) (i : Int) : Int := if l.length = 0 then 0 else l.getD (i.tmod l.length).toNat 0
theorem tmod_bd {a b : Int} (h : 0 ≤ a) (hb : 0 < b) : 0 ≤ a.tmod b ∧ a.tmod b < b := ⟨Int.tmod_nonneg _ h, Int.tmod_lt_of_pos _ hb⟩
theorem byteM_bd {l : List Int} (hl : ∀ x ∈ l, 0 ≤ x ∧ x ≤ 255) (i : Int) : 0 ≤ byteM l i ∧ byteM l i ≤ 255 := by
  unfold byteM
  split
  · omega
  · rcases getD_mem (l := l) (i := (i.tmod l.length).toNat) (d := 0) with e | e
    · rw [e]; omega
    · exact hl _ e
theorem byteOf_any {w : World} {l : List Int} {a : Option Addr} {c : Nat} (i : Int) (hi : 0 ≤ i) (hc : Cells w a (u8s l)) (hl : ∀ x ∈ l, 0 ≤ x ∧ x ≤ 255) : Calls Try.prog 44 #[.slice a l.length c, I i] w (Pure w (I (byteM l i))) := by
  refine vc44 _ _ _ _ w _ ⟨fun h0 w1 hb1 _ => ⟨by rw [byteM, if_pos (by omega)], hb1⟩, fun h0 => ?_⟩
  have q := tmod_bd (a := i) (b := l.length) hi (by omega)
  have hj : (i.tmod l.length).toNat < l.length := by omega
  have hg : l.getD (i.tmod l.length).toNat 0 = l[(i.tmod l.length).toNat] := by rw [List.getD_eq_getElem?_getD, getElem_of_lt hj]; rfl
  have hv : (u8s l)[(i.tmod l.length).toNat]? = some (Value.int .u8 (l.getD (i.tmod l.length).toNat 0)) := by
    unfold u8s; rw [List.getElem?_map, getElem_of_lt hj, hg]; rfl
  obtain ⟨b, o, rfl, hcell⟩ := hc _ _ hv
  have hbd := hl _ (List.getElem_mem hj)
  rw [← hg] at hbd
  exact ⟨h0, b, o, rfl, q, _, cell_at' hcell (by omega), ⟨by omega, by omega⟩, fun w2 hb2 _ => ⟨by rw [byteM, if_neg (by omega)], hb2⟩⟩
def tripsV (l : List (Int × Int × Int)) : List Value := l.flatMap fun t => [.int .u8 t.1, .int .u8 t.2.1, .int .u8 t.2.2]
/-- Since a world: nothing but some blocks of what was there has turned. -/
structure SinceL (T : List Nat) (u w : World) : Prop where
  h : Chg T u w
section
variable {T : List Nat} {u w w' : World}
theorem SinceL.step {S : List Nat} (h : SinceL T u w) (hc : Chg S w w') (hs : ∀ x ∈ S, x ∈ T ∨ u.heap.size ≤ x) : SinceL T u w' := by
  have h2 : Chg (T ++ S) u w' := (h.h.mono (T := T ++ S) fun x hx => .inl (List.mem_append_left _ hx)).trans (hc.mono fun x hx => .inl (List.mem_append_right _ hx))
  exact ⟨h2.mono fun x hx => by
    rcases List.mem_append.1 hx with hx | hx
    · exact .inl hx
    · exact hs x hx⟩
theorem SinceL.ko {bs : List Nat} (h : SinceL T u w) (hk : Kept bs w w') (hs : ∀ x ∈ bs, x ∈ T ∨ u.heap.size ≤ x) : SinceL T u w' := h.step (Chg.kept hk) hs
theorem SinceL.below (h : SinceL T u w) (hb : Below w.heap.size w w') : SinceL T u w' := h.step (S := []) (Chg.of_below hb) (by simp)
theorem SinceL.refl : SinceL T u u := ⟨⟨rfl, rfl, rfl, Nat.le_refl _, fun _ _ _ => rfl⟩⟩
end
/-- Integers in a block of their own. -/
structure IntsAt (b n : Nat) (l : List Int) (w : World) : Prop where
  h : w.heap[b]? = some (.cells (ints l).toArray 3 (0, 0))
  len : l.length = n
section
variable {b n : Nat} {l : List Int} {w w' : World}
end
/-- The orders that are made so far. -/
structure OrdI (lo : Int) (o : List Int) (ii yr : Int) : Prop where
  n : (o.length : Int) ≤ ii
  e : ii = 0 → o.length = 0
  inc : ∀ j : Nat, j < o.length → 0 < j → o.getD (j - 1) 0 < o.getD j 0
  bd : ∀ y ∈ o, 0 ≤ y ∧ y ≤ yr
  yr : 0 ≤ yr ∧ yr ≤ 30 + 20 * ii
  fst : 0 < ii → 0 < o.length ∧ o.getD 0 0 < 2 * lo
theorem span_any2 {w : World} (a b : Int) : Calls Try.prog 42 #[I a, I b] w (Pure w (.agg #[I a, I b])) := span_any a b
abbrev Held11 (B b9 B2 b20 b44 b45 : Nat) (a1 a3 a8 : Option Addr) (l : List Con) (o n : List Int) (w : World) : Prop := (Lies [] B b9 w a1 (consV l) ∧ Lies [] B2 b20 w a3 (ints o) ∧ Lies [] b44 b45 w a8 (ints n)) ∧ b45 ≤ w.heap.size
end Go.Proofs.R12
end
section
/- The law PartEnough, walked. -/
namespace Go.Proofs.R12
open Go.Vc Go.RowKit Go.Proofs
end Go.Proofs.R12
end
section
/- The argument of PartEnough, opened. -/
namespace Go.Proofs.R12
open Go.Vc Go.RowKit Go.Proofs
abbrev Lu : Leaf := .int .u8
section
variable {w : World}
theorem take_u8 {ls : List Leaf} {cs : List Value} (h : LeavesAre w (Lu :: ls) cs) : ∃ x r, cs = Value.int .u8 x :: r ∧ (0 ≤ x ∧ x ≤ 255) ∧ LeavesAre w ls r := by
  obtain ⟨v, r, rfl, h1, h2⟩ := h.cons'
  obtain ⟨x, rfl, hx⟩ := h1.int'
  exact ⟨x, r, rfl, by simpa [rng, IntKind.min, IntKind.max] using hx, h2⟩
theorem take_u8s {v : Value} (h : LeafIs w (.sl [Lu]) v) : ∃ a c, ∃ l : List Int, v = .slice a l.length c ∧ (∀ x ∈ l, 0 ≤ x ∧ x ≤ 255) ∧ Cells w a (u8s l) := by
  obtain ⟨a, c, l, rfl, h1, h2, h3, h4⟩ := h.sl' (fun b : Int => [Value.int .u8 b]) (fun x => 0 ≤ x ∧ x ≤ 255) fun x hx => by
    obtain ⟨x0, r, rfl, g0, hx⟩ := take_u8 hx
    rw [hx.nil']
    exact ⟨x0, rfl, g0⟩
  refine ⟨a, c, l, rfl, h4, ?_⟩
  have e : (l.flatMap fun b : Int => [Value.int .u8 b]) = u8s l := by
    clear h h1 h2 h3 h4
    induction l with
    | nil => rfl
    | cons b l ih => rw [List.flatMap_cons, ih]; rfl
  rw [← e]; exact h3
end
section
variable {w : World} {H : Type} {enc : TypeId × Value → H} {base b0 : Nat} {held : Bool} {spare : Nat → Bool} {reach : Reach}
end
end Go.Proofs.R12
end
section
/- Works out of bytes: what is made, and the lemmas of its walk. -/
namespace Go.Proofs.R12
open Go.Vc Go.RowKit Go.Proofs
section
variable {α : Type} {N : Nest α} {B n c : Nat} {own : List Nat} {a : Option Addr} {ps : List α} {qs : List (Option Addr × α)} {u w w' : World}
/-- A new row that lies behind what was there; some own variables have turned. -/
theorem nsub2 {S : List Nat} {lo hi : Nat} (h : NRow N B own a n c ps qs u) (hc : Chg S u w) (hs : ∀ x ∈ S, x ∈ own) {a' : Option Addr} {x : α} (hx : Lies [] lo hi w a' (N.sub x)) (hB : B ≤ u.heap.size) (hlo : u.heap.size ≤ lo) (hhi : hi ≤ w.heap.size) (ho : ∀ y ∈ own, y < lo ∨ hi ≤ y) : NRow N B own a n c ps ((a', x) :: qs) w := by
  obtain ⟨xs, bs, h1, h2, h3, h4, h5, h6⟩ := h
  have hz := hc.size
  have hd : ∀ x ∈ bs, x ∉ S := fun x hx hm => (h3 x hx).2.2 (hs x hm)
  have hS : ∀ x ∈ S, x ∈ own ++ bs := fun x hx => List.mem_append_left _ (hs x hx)
  by_cases hne : N.sub x = []
  · refine ⟨xs, bs, h1, h2, fun b hb => ⟨(h3 b hb).1, Nat.lt_of_lt_of_le (h3 b hb).2.1 hz, (h3 b hb).2.2⟩, h4.chg hc hS, fun y hy => (h5 y hy).chg hc hd, fun q hq => ?_⟩
    rcases List.mem_cons.1 hq with rfl | hq
    · intro i v hi
      simp [hne] at hi
    · exact (h6 q hq).chg hc hd
  · obtain ⟨v0, hv0⟩ : ∃ v, (N.sub x)[0]? = some v := by cases hh : N.sub x with | nil => exact absurd hh hne | cons y r => exact ⟨y, rfl⟩
    obtain ⟨b0, o0, e0, ⟨_, g1, g2⟩, _⟩ := hx 0 v0 hv0
    have hrow := (h4.grow (ms := [b0]) (fun m hm => by rw [List.mem_singleton.1 hm]; omega)).chg hc (fun x hx => List.mem_append_right _ (hS x hx))
    refine ⟨xs, b0 :: bs, h1, h2, fun b hb' => ?_, hrow.less fun y hy => ?_, fun y hy => ((h5 y hy).chg hc hd).mono fun z hz => List.mem_cons_of_mem _ hz, fun q hq => ?_⟩
    · rcases List.mem_cons.1 hb' with rfl | hb'
      · exact ⟨by omega, by omega, fun hm => by have := ho _ hm; omega⟩
      · exact ⟨(h3 b hb').1, Nat.lt_of_lt_of_le (h3 b hb').2.1 hz, (h3 b hb').2.2⟩
    · simp only [List.mem_append, List.mem_cons] at hy ⊢
      rcases hy with hy | rfl | hy
      · exact .inr (.inl hy)
      · exact .inl (.inl rfl)
      · exact .inr (.inr hy)
    · rcases List.mem_cons.1 hq with rfl | hq
      · intro i v hi
        obtain ⟨b, o, e, ⟨_, _, _⟩, hcell⟩ := hx i v hi
        refine ⟨b, o, e, ?_, hcell⟩
        rw [e0] at e
        simp only [Option.some.injEq, Addr.mk.injEq, and_true] at e
        rw [← e.1]; exact List.mem_cons_self
      · exact ((h6 q hq).chg hc hd).mono fun z hz => List.mem_cons_of_mem _ hz
end
def quadsV (l : List (Int × Int × Int × Int)) : List Value := l.flatMap fun t => [.int .u8 t.1, .int .u8 t.2.1, .int .u8 t.2.2.1, .int .u8 t.2.2.2]
theorem quads_get {l : List (Int × Int × Int × Int)} {i : Nat} {s : Int × Int × Int × Int} (h : l[i]? = some s) (j : Nat) (hj : j < 4) : (quadsV l)[i * 4 + j]? = [Value.int .u8 s.1, .int .u8 s.2.1, .int .u8 s.2.2.1, .int .u8 s.2.2.2][j]? := flat_get (k := 4) (f := fun t : Int × Int × Int × Int => [Value.int .u8 t.1, .int .u8 t.2.1, .int .u8 t.2.2.1, .int .u8 t.2.2.2]) (fun _ => rfl) h hj
abbrev Q0 : Int × Int × Int × Int := (0, 0, 0, 0)
theorem load_quad {w wj : World} {a : Option Addr} {l : List (Int × Int × Int × Int)} {i : Int} {X : Nat → Nat → Int → Int → Int → Int → Prop} (h : Cells w a (quadsV l)) (hb : Below w.heap.size w wj) (hi0 : 0 ≤ i ∧ i < (l.length : Int)) (k : ∀ m o, m < w.heap.size → X m o (l.getD i.toNat Q0).1 (l.getD i.toNat Q0).2.1 (l.getD i.toNat Q0).2.2.1 (l.getD i.toNat Q0).2.2.2) : ∃ m o, a = some ⟨m, o, none⟩ ∧ (0 ≤ i ∧ i < (l.length : Int)) ∧ ∃ x0 x1 x2 x3 : Int, wj.cell? ⟨m, o + i.toNat * 4, none⟩ = some (.int .u8 x0) ∧ wj.cell? ⟨m, o + i.toNat * 4 + 1, none⟩ = some (.int .u8 x1) ∧ wj.cell? ⟨m, o + i.toNat * 4 + 1 + 1, none⟩ = some (.int .u8 x2) ∧ wj.cell? ⟨m, o + i.toNat * 4 + 1 + 1 + 1, none⟩ = some (.int .u8 x3) ∧ X m o x0 x1 x2 x3 := by
  have hi : i.toNat < l.length := by omega
  have hg : l.getD i.toNat Q0 = l[i.toNat] := by simp [List.getD_eq_getElem?_getD, getElem_of_lt hi]
  obtain ⟨b0, o0, e0, d0⟩ := h (i.toNat * 4 + 0) _ (quads_get (getElem_of_lt hi) 0 (by omega))
  obtain ⟨b1, o1, e1, d1⟩ := h (i.toNat * 4 + 1) _ (quads_get (getElem_of_lt hi) 1 (by omega))
  obtain ⟨rfl, rfl⟩ : b0 = b1 ∧ o0 = o1 := by rw [e0] at e1; simpa using e1
  obtain ⟨b2, o2, e2, d2⟩ := h (i.toNat * 4 + 2) _ (quads_get (getElem_of_lt hi) 2 (by omega))
  obtain ⟨rfl, rfl⟩ : b0 = b2 ∧ o0 = o2 := by rw [e0] at e2; simpa using e2
  obtain ⟨b3, o3, e3, d3⟩ := h (i.toNat * 4 + 3) _ (quads_get (getElem_of_lt hi) 3 (by omega))
  obtain ⟨rfl, rfl⟩ : b0 = b3 ∧ o0 = o3 := by rw [e0] at e3; simpa using e3
  exact ⟨b0, o0, e0, hi0, _, _, _, _, cell_at' (cell_keep hb d0) (by omega), cell_at' (cell_keep hb d1) (by omega), cell_at' (cell_keep hb d2) (by omega), cell_at' (cell_keep hb d3) (by omega), by have := k b0 o0 (cell_lt d0); rw [hg] at this; exact this⟩
def ByteQ (t : Int × Int × Int × Int) : Prop := (0 ≤ t.1 ∧ t.1 ≤ 255) ∧ (0 ≤ t.2.1 ∧ t.2.1 ≤ 255) ∧ (0 ≤ t.2.2.1 ∧ t.2.2.1 ≤ 255) ∧ 0 ≤ t.2.2.2 ∧ t.2.2.2 ≤ 255
theorem quad_bd {T : List (Int × Int × Int × Int)} (hT : ∀ t ∈ T, ByteQ t) (i : Nat) : ByteQ (T.getD i Q0) := by
  rcases getD_mem (l := T) (i := i) (d := Q0) with e | e
  · rw [e]; unfold ByteQ; simp
  · exact hT _ e
theorem lies_lit {w : World} {b : Nat} {x y : Int} {t : TypeId} (h : w.heap[b]? = some (.cells #[I x, I y] t)) : Lies [] b (b + 1) w (some ⟨b, 0, none⟩) (spansV [(x, y)]) := fun i v hi => by
  obtain ⟨b', o, e, hc⟩ := Cells.obj (vs := [I x, I y]) h i v hi
  simp only [Option.some.injEq, Addr.mk.injEq, and_true] at e
  obtain ⟨rfl, rfl⟩ := e
  exact ⟨_, _, rfl, ⟨by simp, Nat.le_refl _, Nat.lt_succ_self _⟩, hc⟩
theorem nappend2 {α : Type} {N : Nest α} {B n c : Nat} {own : List Nat} {a : Option Addr} {ps : List α} {qs : List (Option Addr × α)} {w : World} {P : Program} {t ty : TypeId} {bytes : Nat} {a' : Option Addr} {x : α} (hE : elemB P t N.e N.size bytes = true) (h : NRow N B own a n c ps ((a', x) :: qs) w) {b o cc k : Nat} (hc : Cells w (some ⟨b, o, none⟩) (N.cells a' k x)) (h1 : ∀ u ∈ N.cells a' k x, u.oneCell' = true) (hne : N.sub x ≠ [])
    (hn1 : n + 1 ≤ 140737488355328) (hn : (n + 1) * bytes ≤ 140737488355328) (hB : B ≤ w.heap.size) (ho : ∀ y ∈ own, y < w.heap.size) {R : Value → World → Prop}
    (hR : ∀ a2 c2 w', NRow N B own a2 (n + 1) c2 (ps ++ [x]) qs w' → ∀ S, Chg S w w' → (∀ s ∈ S, B ≤ s ∧ s ∉ own) → (∀ s ∈ S, ∀ o, a' ≠ some ⟨s, o, none⟩) → R (.slice a2 (n + 1) c2) w') :
    RunsTo P (Builtin.append_ #[t, t] ty #[.slice a n c, .slice (some ⟨b, o, none⟩) 1 cc]) w R := by
  obtain ⟨xs, bs, g1, g2, g3, g4, g5, g6⟩ := h
  refine append_rowE hE N.pos g4 (m := 1) hc (by rw [N.len]; omega) h1 hn1 hn hB (fun y hy => by
    rcases List.mem_append.1 hy with hy | hy
    · exact ho y hy
    · exact (g3 y hy).2.1) (by omega) fun a2 c2 w' hrow S cS hS => ?_
  refine hR a2 c2 w' ⟨xs ++ [((a', k), x)], bs, by simp [g1], by simp [g2], fun b hb => ⟨(g3 b hb).1, Nat.lt_of_lt_of_le (g3 b hb).2.1 cS.size, (g3 b hb).2.2⟩, ?_, fun y hy => ?_, fun q hq => (g6 q (List.mem_cons_of_mem _ hq)).chg cS ?_⟩ S cS (fun s hs => ⟨(hS s hs).1, fun hm => (hS s hs).2 (List.mem_append_left _ hm)⟩) fun s hs o' e => ?_
  · right; simpa [rowOf] using hrow
  · have hd : ∀ z ∈ bs, z ∉ S := fun z hz hm => (hS z hm).2 (List.mem_append_right _ hz)
    rcases List.mem_append.1 hy with hy | hy
    · exact (g5 y hy).chg cS hd
    · rw [List.mem_singleton.1 hy]
      exact (g6 (a', x) List.mem_cons_self).chg cS hd
  · exact fun z hz hm => (hS z hm).2 (List.mem_append_right _ hz)
  · obtain ⟨v0, hv0⟩ : ∃ v, (N.sub x)[0]? = some v := by cases hh : N.sub x with | nil => exact absurd hh hne | cons y r => exact ⟨y, rfl⟩
    obtain ⟨b0, o0, e0, hb0, _⟩ := g6 (a', x) List.mem_cons_self 0 v0 hv0
    rw [e] at e0
    simp only [Option.some.injEq, Addr.mk.injEq, and_true] at e0
    exact (hS s hs).2 (List.mem_append_right _ (by rw [e0.1]; exact hb0))
theorem chg_less {S T : List Nat} {w w' : World} (h : Chg S w w') (hs : ∀ x ∈ S, x ∈ T ∨ w'.heap[x]? = w.heap[x]?) : Chg T w w' := ⟨h.os, h.tape, h.output, h.size, fun k hk hn => by
  by_cases hm : k ∈ S
  · exact (hs k hm).resolve_left hn
  · exact h.keep k hk hm⟩
/-- Two literals, one behind the other. -/
theorem append_two {w : World} {b1 b2 : Nat} {x y u v : Int} {t1 t2 : TypeId} {R : Value → World → Prop} (h1 : w.heap[b1]? = some (.cells #[I x, I y] t1)) (h2 : w.heap[b2]? = some (.cells #[I u, I v] t2)) (hR : ∀ a c w', Below w.heap.size w w' → Lies [] w.heap.size w'.heap.size w' a (spansV [(x, y), (u, v)]) → R (.slice a 2 c) w') : RunsTo Try.prog (Builtin.append_ #[89, 89] 89 #[.slice (some ⟨b1, 0, none⟩) 1 1, .slice (some ⟨b2, 0, none⟩) 1 1]) w R := by
  obtain ⟨ht, i, z, hi, hz, hs, hby, hzs⟩ := elemB_spec (P := Try.prog) (t := 89) (e := 42) (size := 2) (bytes := 16) (by kernel_rfl)
  have hadd : ∀ b o j : Nat, (⟨b, o, none⟩ : Addr).add j = ⟨b, o + j, none⟩ := fun b o j => by unfold Addr.add; split <;> simp_all
  have c1 : Cells w (some ⟨b1, 0, none⟩) [I x, I y] := Cells.obj h1
  have c2 : Cells w (some ⟨b2, 0, none⟩) [I u, I v] := Cells.obj h2
  have hr := run_append_grow (P := Try.prog) w 89 89 42 i z ht hi hz ⟨b1, 0, none⟩ 1 1 [I x, I y] (by rw [hs]; rfl) (fun j q hq => by rw [hadd]; exact c1.at hq) ⟨b2, 0, none⟩ 1 1 [I u, I v] (by rw [hs]; rfl) (fun j q hq => by rw [hadd]; exact c2.at hq) (by omega) (by omega) (growslice_fits (by omega) (by rw [hby]; decide))
  refine ⟨_, _, hr, hR _ _ _ alloc_below (Lies.new (n := w.heap.size) (bs := []) (fun j q hj => ⟨w.heap.size, 0, rfl, ?_⟩) (.inr fun b o e => by simp only [Option.some.injEq, Addr.mk.injEq, and_true] at e; omega) (by simp))⟩
  have hlt := (List.getElem?_eq_some_iff.1 hj).1
  have hh : (w.drew.alloc (.cells ([I x, I y].toArray ++ [I u, I v].toArray ++ Builtin.zeroCells z.cells (grownCap w 2 1 42 - 2)) 42)).heap[w.heap.size]? = some (.cells ([I x, I y].toArray ++ [I u, I v].toArray ++ Builtin.zeroCells z.cells (grownCap w 2 1 42 - 2)) 42 (0, 0)) := heap_alloc_new w.drew _
  unfold World.cell?
  simp only [hh, Nat.zero_add]
  rw [Array.getElem?_append_left (by simpa [spansV] using hlt)]
  simpa [spansV] using hj
def OkP (p : List Sp) : Prop := (1 ≤ p.length ∧ p.length ≤ 2) ∧ ∀ s ∈ p, (500 ≤ s.1 ∧ s.1 ≤ 755) ∧ s.1 ≤ s.2 ∧ s.2 ≤ s.1 + 11
structure OkF (ps : List (List Sp)) (f : Fit) : Prop where
  ne : f.hole ≠ f.shaft
  h : (0 ≤ f.hole ∧ f.hole < ps.length) ∧ 0 ≤ f.hs ∧ f.hs < (ps.getD f.hole.toNat []).length
  s : (0 ≤ f.shaft ∧ f.shaft < ps.length) ∧ 0 ≤ f.ss ∧ f.ss < (ps.getD f.shaft.toNat []).length
  g : -300 ≤ f.gap.1 ∧ f.gap.1 ≤ f.gap.2 ∧ f.gap.2 ≤ 300
theorem okP_get {ps : List (List Sp)} (h : ∀ p ∈ ps, OkP p) {i : Int} (hi : 0 ≤ i ∧ i < ps.length) : OkP (ps.getD i.toNat []) := (all_getD (d := [])).1 h i.toNat (by omega)
theorem okP_span {p : List Sp} (h : OkP p) {i : Int} (hi : 0 ≤ i ∧ i < p.length) : (500 ≤ (p.getD i.toNat (0, 0)).1 ∧ (p.getD i.toNat (0, 0)).1 ≤ 755) ∧ (p.getD i.toNat (0, 0)).1 ≤ (p.getD i.toNat (0, 0)).2 ∧ (p.getD i.toNat (0, 0)).2 ≤ (p.getD i.toNat (0, 0)).1 + 11 := (all_getD (d := (0, 0))).1 h.2 i.toNat (by omega)
theorem shift_ne {x y n : Int} (hx : 0 ≤ x) (hy : 0 ≤ y) (hn : 2 ≤ n) : x.tmod n ≠ (x.tmod n + 1 + y.tmod (n - 1)).tmod n := by
  have h1 := tmod_bd hx (show 0 < n by omega)
  have h2 := tmod_bd hy (show 0 < n - 1 by omega)
  generalize x.tmod n = p at *
  generalize y.tmod (n - 1) = q at *
  rw [Int.tmod_eq_emod_of_nonneg (by omega)]
  by_cases h : p + 1 + q < n
  · rw [Int.emod_eq_of_lt (by omega) h]; omega
  · have e : (p + 1 + q) % n = p + 1 + q - n := by
      rw [← Int.sub_emod_right, Int.emod_eq_of_lt (by omega) (by omega)]
    rw [e]; omega
structure ShopW (W : Wk) : Prop where
  n : 2 ≤ W.pats.length ∧ W.pats.length ≤ 4
  p : ∀ p ∈ W.pats, OkP p
  m : 1 ≤ W.fits.length ∧ W.fits.length ≤ 4
  f : ∀ f ∈ W.fits, OkF W.pats f
theorem ShopW.small {W : Wk} (h : ShopW W) : Small W := ⟨by have := h.n; omega, by have := h.m; omega, fun p hp => by have := (h.p p hp).1; omega⟩
theorem ShopW.ok {W : Wk} (h : ShopW W) : OkW W := ⟨by have := h.n; omega, fun p hp => ⟨by have := (h.p p hp).1; omega, fun s hs => by have := (h.p p hp).2 s hs; unfold okS; omega⟩, by have := h.m; omega, fun f hf => by
  have := h.f f hf
  refine ⟨this.ne, ⟨this.h.1, this.h.2⟩, ⟨this.s.1, this.s.2⟩, ?_⟩
  have := this.g; unfold okS; omega⟩
theorem fitsV_append (l : List Fit) (f : Fit) : fitsV (l ++ [f]) = fitsV l ++ [I f.hole, I f.hs, I f.shaft, I f.ss, I f.gap.1, I f.gap.2] := by simp [fitsV, Fit.cells]
theorem LiesS.wide {lo hi lo' hi' : Nat} {w : World} {a : Option Addr} {ps : List (List Sp)} (h : LiesS lo hi w a ps) (h1 : lo' ≤ lo) (h2 : hi ≤ hi') : LiesS lo' hi' w a ps := fun i p hi => by
  obtain ⟨b, o, a', c, e, hb, hc, hl⟩ := h i p hi
  exact ⟨b, o, a', c, e, ⟨by omega, by omega⟩, hc, hl.to h1 h2⟩
end Go.Proofs.R12
end
section
/- A shop, and small rows of bytes, opened. -/
namespace Go.Proofs.R12
open Go.Vc Go.RowKit Go.Proofs
theorem leaves_shop : leaves Try.prog 7 84 = some [.sl [Lu, Lu, Lu, Lu], .sl [Lu, Lu, Lu, Lu]] := by kernel_rfl
theorem agg_shop : isAggB Try.prog 84 = true := by kernel_rfl
theorem leaves_u8s : leaves Try.prog 7 85 = some [.sl [Lu]] := by kernel_rfl
theorem agg_u8s : isAggB Try.prog 85 = false := by kernel_rfl
section
variable {w : World}
theorem take_quads {v : Value} (h : LeafIs w (.sl [Lu, Lu, Lu, Lu]) v) : ∃ a c, ∃ l : List (Int × Int × Int × Int), v = .slice a l.length c ∧ (∀ t ∈ l, ByteQ t) ∧ Cells w a (quadsV l) := by
  obtain ⟨a, c, l, rfl, h1, h2, h3, h4⟩ := h.sl' (fun t : Int × Int × Int × Int => [Value.int .u8 t.1, .int .u8 t.2.1, .int .u8 t.2.2.1, .int .u8 t.2.2.2]) ByteQ fun x hx => by
    obtain ⟨x0, r, rfl, g0, hx⟩ := take_u8 hx
    obtain ⟨x1, r, rfl, g1, hx⟩ := take_u8 hx
    obtain ⟨x2, r, rfl, g2, hx⟩ := take_u8 hx
    obtain ⟨x3, r, rfl, g3, hx⟩ := take_u8 hx
    rw [hx.nil']
    exact ⟨(x0, x1, x2, x3), rfl, g0, g1, g2, g3⟩
  exact ⟨a, c, l, rfl, h4, h3⟩
end
section
variable {w : World} {H : Type} {enc : TypeId × Value → H} {base b0 : Nat} {held : Bool} {spare : Nat → Bool} {reach : Reach}
set_option maxRecDepth 100000 in
theorem open_shop {v : Value} {d : DataW H} {ps : List MemPlace} (hv : Value.okWide Try.prog w reach b0 84 v) (hd : DataW.Trod enc Try.prog w base spare held 84 v d ps) : ∃ (T U : List (Int × Int × Int × Int)) (a0 a1 : Option Addr) (c0 c1 : Nat), v = .agg #[.slice a0 T.length c0, .slice a1 U.length c1] ∧ Cells w a0 (quadsV T) ∧ Cells w a1 (quadsV U) ∧ (∀ t ∈ T, ByteQ t) ∧ ∀ t ∈ U, ByteQ t := by
  obtain ⟨cs, rfl, h⟩ := open_agg agg_shop leaves_shop hv hd
  obtain ⟨v0, r, rfl, h0, h⟩ := h.cons'
  obtain ⟨v1, r, rfl, h1, h⟩ := h.cons'
  rw [h.nil']
  obtain ⟨a0, c0, T, rfl, q0, k0⟩ := take_quads h0
  obtain ⟨a1, c1, U, rfl, q1, k1⟩ := take_quads h1
  exact ⟨T, U, a0, a1, c0, c1, rfl, k0, k1, q0, q1⟩
set_option maxRecDepth 100000 in
theorem open_u8s {v : Value} {d : DataW H} {ps : List MemPlace} (hv : Value.okWide Try.prog w reach b0 85 v) (hd : DataW.Trod enc Try.prog w base spare held 85 v d ps) : ∃ a c, ∃ l : List Int, v = .slice a l.length c ∧ (∀ x ∈ l, 0 ≤ x ∧ x ≤ 255) ∧ Cells w a (u8s l) := take_u8s (open_one agg_u8s leaves_u8s hv hd)
end
end Go.Proofs.R12
end
section
/- A byte, opened. -/
namespace Go.Proofs.R12
open Go.Vc Go.RowKit Go.Proofs
theorem leaves_u8 : leaves Try.prog 7 5 = some [Lu] := by kernel_rfl
theorem agg_u8 : isAggB Try.prog 5 = false := by kernel_rfl
section
variable {w : World} {H : Type} {enc : TypeId × Value → H} {base b0 : Nat} {held : Bool} {spare : Nat → Bool} {reach : Reach}
set_option maxRecDepth 100000 in
theorem open_u8 {v : Value} {d : DataW H} {ps : List MemPlace} (hv : Value.okWide Try.prog w reach b0 5 v) (hd : DataW.Trod enc Try.prog w base spare held 5 v d ps) : ∃ x : Int, v = .int .u8 x ∧ (0 ≤ x ∧ x ≤ 255) := by
  obtain ⟨x, rfl, hx⟩ := (open_one agg_u8 leaves_u8 hv hd).int'
  exact ⟨x, rfl, by simpa [rng, IntKind.min, IntKind.max] using hx⟩
end
end Go.Proofs.R12
end
section
/- The conditions of the functions, printed by program; each is what the generator reckons (kernel_rfl). -/
namespace Go.Proofs
open Go.Vc
set_option maxRecDepth 100000 in
set_option maxHeartbeats 2000000 in
theorem vc40 (x0a : Option Addr) (x0n : Nat) (x0c : Nat) (x1a : Option Addr) (x1n : Nat) (x1c : Nat) (w : World) (R : Ending → World → Prop) (h : ∀ (m1 : Nat), w.heap.size ≤ m1 → ∀
    (m2 : Nat), w.heap.size ≤ m2 → ∀ (m3 : Nat), w.heap.size ≤ m3 → ∃ (F1 : List Lf → World → Prop), ∃ (F2 : List Lf → Nat), (∀ (w2 : World), RowKit.Below w.heap.size w w2 → Kept
    [m3, m2, m1] w w2 → F1 [Lf.int IntKind.i64 0, Lf.sl none 0 0, Lf.sl none 0 0] w2) ∧ ∀ (x1 : Int) (a1 : Option Addr) (m4 m5 : Nat) (a2 : Option Addr) (m6 m7 : Nat) (w3 : World),
    RowKit.Below w.heap.size w w3 → F1 [Lf.int IntKind.i64 x1, Lf.sl a1 m4 m5, Lf.sl a2 m6 m7] w3 → ∃ (F3 : List Lf → World → Prop), ((x1 < 2 → ∀ (w5 : World), RowKit.Below
    w.heap.size w w5 → Kept [m3, m2, m1] w3 w5 → F3 [Lf.bool true, Lf.sl a1 m4 m5, Lf.sl a2 m6 m7] w5) ∧ (2 ≤ x1 → (x1 < (↑x0n : Int) → ∀ (w6 : World), RowKit.Below w.heap.size w
    w6 → Kept [m3, m2, m1] w3 w6 → w6.heap[m1]? = some (Obj.cells #[Value.slice x0a x0n x0c, Value.slice x1a x1n x1c] 84) → F3 [Lf.bool (decide (x1 < 4)), Lf.sl a1 m4 m5, Lf.sl a2
    m6 m7] w6) ∧ ((↑x0n : Int) ≤ x1 → ∀ (w7 : World), RowKit.Below w.heap.size w w7 → Kept [m3, m2, m1] w3 w7 → w7.heap[m1]? = some (Obj.cells #[Value.slice x0a x0n x0c,
    Value.slice x1a x1n x1c] 84) → F3 [Lf.bool false, Lf.sl a1 m4 m5, Lf.sl a2 m6 m7] w7))) ∧ ∀ (t1 : Bool) (a3 : Option Addr) (m12 m13 : Nat) (a4 : Option Addr) (m14 m15 : Nat)
    (w8 : World), RowKit.Below w.heap.size w w8 → F3 [Lf.bool t1, Lf.sl a3 m12 m13, Lf.sl a4 m14 m15] w8 → (t1 = true → ∀ (m16 : Nat), w8.heap.size ≤ m16 → ∃ (F4 : List Lf → World
    → Prop), ((x1 < (↑x0n : Int) → ∃ (m17 : Nat), ∃ (m18 : Nat), x0a = some { block := m17, off := m18 } ∧ (0 ≤ x1 ∧ x1 < (↑x0n : Int)) ∧ ∃ (x3 : Int), ∃ (x4 : Int), ∃ (x5 : Int),
    ∃ (x6 : Int), w8.cell? { block := m17, off := m18 + x1.toNat * 4 } = some (Value.int IntKind.u8 x3) ∧ w8.cell? { block := m17, off := m18 + x1.toNat * 4 + 1 } = some (Value.int
    IntKind.u8 x4) ∧ w8.cell? { block := m17, off := m18 + x1.toNat * 4 + 1 + 1 } = some (Value.int IntKind.u8 x5) ∧ w8.cell?
    { block := m17, off := m18 + x1.toNat * 4 + 1 + 1 + 1 } = some (Value.int IntKind.u8 x6) ∧ (m17 < w.heap.size ∨ m17 ≠ m16 ∧ m17 ≠ m3 ∧ m17 ≠ m2 ∧ m17 ≠ m1) ∧ ∀ (w10 : World),
    RowKit.Below w.heap.size w w10 → Kept [m16, m3, m2, m1] w8 w10 → w10.heap[m1]? = some (Obj.cells #[Value.slice x0a x0n x0c, Value.slice x1a x1n x1c] 84) → F4 [Lf.sl a3 m12 m13,
    Lf.sl a4 m14 m15, Lf.int IntKind.u8 x3, Lf.int IntKind.u8 x4, Lf.int IntKind.u8 x5, Lf.int IntKind.u8 x6] w10) ∧ ((↑x0n : Int) ≤ x1 → ∀ (w11 : World), RowKit.Below w.heap.size
    w w11 → Kept [m16, m3, m2, m1] w8 w11 → F4 [Lf.sl a3 m12 m13, Lf.sl a4 m14 m15, Lf.int IntKind.u8 0, Lf.int IntKind.u8 0, Lf.int IntKind.u8 0, Lf.int IntKind.u8 0] w11)) ∧ ∀
    (a5 : Option Addr) (m20 m21 : Nat) (a6 : Option Addr) (m22 m23 : Nat) (x7 x8 x9 x10 : Int) (w12 : World), RowKit.Below w.heap.size w w12 → F4 [Lf.sl a5 m20 m21, Lf.sl a6 m22
    m23, Lf.int IntKind.u8 x7, Lf.int IntKind.u8 x8, Lf.int IntKind.u8 x9, Lf.int IntKind.u8 x10] w12 → (-9223372036854775808 ≤ x7 ∧ x7 ≤ 9223372036854775807) ∧
    ((-9223372036854775808 : Int) ≤ 500 + x7 ∧ 500 + x7 ≤ 9223372036854775807) ∧ (-9223372036854775808 ≤ x7 ∧ x7 ≤ 9223372036854775807) ∧ ((-9223372036854775808 : Int) ≤ 500 + x7 ∧
    500 + x7 ≤ 9223372036854775807) ∧ (-9223372036854775808 ≤ x8 ∧ x8 ≤ 9223372036854775807) ∧ (12 : Int) ≠ 0 ∧ ((-9223372036854775808 : Int) ≤ 500 + x7 + x8.tmod 12 ∧ 500 + x7 +
    x8.tmod (12 : Int) ≤ 9223372036854775807) ∧ ∀ (w13 : World), RowKit.Below w.heap.size w w13 → Kept [m16, m3, m2, m1] w12 w13 → Calls Try.prog 42 #[Value.int IntKind.i64 (500 +
    x7), Value.int IntKind.i64 (500 + x7 + x8.tmod 12)] w13 fun (e1 : Ending) (w14 : World) => ∃ (x11 : Int), ∃ (x12 : Int), e1 = Ending.returned (Value.agg #[Value.int IntKind.i64
    x11, Value.int IntKind.i64 x12]) ∧ KeepX true w.heap.size [m16, m3, m2, m1] (fun _ => False) w13 w14 ∧ ∀ (m25 : Nat), w14.heap.size ≤ m25 → (2 : Int) ≠ 0 ∧ (x9.tmod (2 : Int) =
    1 → (-9223372036854775808 ≤ x9 ∧ x9 ≤ 9223372036854775807) ∧ ((-9223372036854775808 : Int) ≤ 500 + x9 ∧ 500 + x9 ≤ 9223372036854775807) ∧ (-9223372036854775808 ≤ x9 ∧ x9 ≤
    9223372036854775807) ∧ ((-9223372036854775808 : Int) ≤ 500 + x9 ∧ 500 + x9 ≤ 9223372036854775807) ∧ (-9223372036854775808 ≤ x10 ∧ x10 ≤ 9223372036854775807) ∧ (12 : Int) ≠ 0 ∧
    ((-9223372036854775808 : Int) ≤ 500 + x9 + x10.tmod 12 ∧ 500 + x9 + x10.tmod (12 : Int) ≤ 9223372036854775807) ∧ ∀ (w15 : World), RowKit.Below w.heap.size w w15 → Kept [m25,
    m16, m3, m2, m1] w14 w15 → Calls Try.prog 42 #[Value.int IntKind.i64 (500 + x9), Value.int IntKind.i64 (500 + x9 + x10.tmod 12)] w15 fun (e2 : Ending) (w16 : World) => ∃ (x13 :
    Int), ∃ (x14 : Int), e2 = Ending.returned (Value.agg #[Value.int IntKind.i64 x13, Value.int IntKind.i64 x14]) ∧ KeepX true w.heap.size [m25, m16, m3, m2, m1] (fun _ => False)
    w15 w16 ∧ ∀ (m27 : Nat), w16.heap.size ≤ m27 → ∀ (w17 : World), RowKit.Below w.heap.size w w17 → Kept [m27, m25, m16, m3, m2, m1] w16 w17 → w17.heap[m25]? = some (Obj.cells
    #[Value.int IntKind.i64 x11, Value.int IntKind.i64 x12] 42) → w17.heap[m27]? = some (Obj.cells #[Value.int IntKind.i64 x13, Value.int IntKind.i64 x14] 42) → RunsTo Try.prog
    (Builtin.append_ #[89, 89] 89 #[Value.slice (some { block := m25, off := 0 }) 1 1, Value.slice (some { block := m27, off := 0 }) 1 1]) w17 fun (v1 : Value) (w18 : World) => ∃
    (a7 : Option Addr), ∃ (m30 : Nat), ∃ (m31 : Nat), v1 = Value.slice a7 m30 m31 ∧ KeepX true w.heap.size [m27, m25, m16, m3, m2, m1] (fun _ => False) w17 w18 ∧ ∀ (m33 : Nat),
    w18.heap.size ≤ m33 → ∀ (w19 : World), RowKit.Below w.heap.size w w19 → Kept [m33, m27, m25, m16, m3, m2, m1] w18 w19 → w19.heap[m33]? = some (Obj.cells #[Value.slice a7 m30
    m31] 89) → RunsTo Try.prog (Builtin.append_ #[22, 22] 22 #[Value.slice a5 m20 m21, Value.slice (some { block := m33, off := 0 }) 1 1]) w19 fun (v2 : Value) (w20 : World) => ∃
    (a8 : Option Addr), ∃ (m35 : Nat), ∃ (m36 : Nat), v2 = Value.slice a8 m35 m36 ∧ KeepX true w.heap.size [m33, m27, m25, m16, m3, m2, m1] (fun _ => False) w19 w20 ∧
    (-9223372036854775808 ≤ x1 + 1 ∧ x1 + (1 : Int) ≤ 9223372036854775807) ∧ ∀ (w21 : World), RowKit.Below w.heap.size w w21 → Kept [m33, m27, m25, m16, m3, m2, m1] w20 w21 →
    w21.heap[m16]? = some (Obj.cells #[Value.int IntKind.u8 x7, Value.int IntKind.u8 x8, Value.int IntKind.u8 x9, Value.int IntKind.u8 x10] 149) → w21.heap[m1]? = some (Obj.cells
    #[Value.slice x0a x0n x0c, Value.slice x1a x1n x1c] 84) → w21.heap[m16]? = some (Obj.cells #[Value.int IntKind.u8 x7, Value.int IntKind.u8 x8, Value.int IntKind.u8 x9,
    Value.int IntKind.u8 x10] 149) → w21.heap[m16]? = some (Obj.cells #[Value.int IntKind.u8 x7, Value.int IntKind.u8 x8, Value.int IntKind.u8 x9, Value.int IntKind.u8 x10] 149) →
    w21.heap[m16]? = some (Obj.cells #[Value.int IntKind.u8 x7, Value.int IntKind.u8 x8, Value.int IntKind.u8 x9, Value.int IntKind.u8 x10] 149) → w21.heap[m25]? = some (Obj.cells
    #[Value.int IntKind.i64 x11, Value.int IntKind.i64 x12] 42) → w21.heap[m16]? = some (Obj.cells #[Value.int IntKind.u8 x7, Value.int IntKind.u8 x8, Value.int IntKind.u8 x9,
    Value.int IntKind.u8 x10] 149) → w21.heap[m25]? = some (Obj.cells #[Value.int IntKind.i64 x11, Value.int IntKind.i64 x12] 42) → w21.heap[m16]? = some (Obj.cells #[Value.int
    IntKind.u8 x7, Value.int IntKind.u8 x8, Value.int IntKind.u8 x9, Value.int IntKind.u8 x10] 149) → w21.heap[m16]? = some (Obj.cells #[Value.int IntKind.u8 x7, Value.int
    IntKind.u8 x8, Value.int IntKind.u8 x9, Value.int IntKind.u8 x10] 149) → w21.heap[m16]? = some (Obj.cells #[Value.int IntKind.u8 x7, Value.int IntKind.u8 x8, Value.int
    IntKind.u8 x9, Value.int IntKind.u8 x10] 149) → w21.heap[m27]? = some (Obj.cells #[Value.int IntKind.i64 x13, Value.int IntKind.i64 x14] 42) → w21.heap[m3]? = some (Obj.cells
    #[Value.slice a8 m35 m36, Value.slice a6 m22 m23] 25) → w21.heap[m33]? = some (Obj.cells #[Value.slice a7 m30 m31] 89) → w21.heap[m3]? = some (Obj.cells #[Value.slice a8 m35
    m36, Value.slice a6 m22 m23] 25) → F1 [Lf.int IntKind.i64 (x1 + 1), Lf.sl a8 m35 m36, Lf.sl a6 m22 m23] w21 ∧ F2 [Lf.int IntKind.i64 (x1 + 1), Lf.sl a8 m35 m36, Lf.sl a6 m22
    m23] < F2 [Lf.int IntKind.i64 x1, Lf.sl a1 m4 m5, Lf.sl a2 m6 m7]) ∧ (x9.tmod (2 : Int) ≠ 1 → ∀ (m53 : Nat), w14.heap.size ≤ m53 → ∀ (w22 : World), RowKit.Below w.heap.size w
    w22 → Kept [m53, m25, m16, m3, m2, m1] w14 w22 → w22.heap[m53]? = some (Obj.cells #[Value.slice (some { block := m25, off := 0 }) 1 1] 89) → w22.heap[m25]? = some (Obj.cells
    #[Value.int IntKind.i64 x11, Value.int IntKind.i64 x12] 42) → RunsTo Try.prog (Builtin.append_ #[22, 22] 22 #[Value.slice a5 m20 m21, Value.slice (some
    { block := m53, off := 0 }) 1 1]) w22 fun (v3 : Value) (w23 : World) => ∃ (a9 : Option Addr), ∃ (m56 : Nat), ∃ (m57 : Nat), v3 = Value.slice a9 m56 m57 ∧ KeepX true w.heap.size
    [m53, m25, m16, m3, m2, m1] (fun _ => False) w22 w23 ∧ (-9223372036854775808 ≤ x1 + 1 ∧ x1 + (1 : Int) ≤ 9223372036854775807) ∧ ∀ (w24 : World), RowKit.Below w.heap.size w w24
    → Kept [m53, m25, m16, m3, m2, m1] w23 w24 → w24.heap[m16]? = some (Obj.cells #[Value.int IntKind.u8 x7, Value.int IntKind.u8 x8, Value.int IntKind.u8 x9, Value.int IntKind.u8
    x10] 149) → w24.heap[m25]? = some (Obj.cells #[Value.int IntKind.i64 x11, Value.int IntKind.i64 x12] 42) → w24.heap[m1]? = some (Obj.cells #[Value.slice x0a x0n x0c,
    Value.slice x1a x1n x1c] 84) → w24.heap[m16]? = some (Obj.cells #[Value.int IntKind.u8 x7, Value.int IntKind.u8 x8, Value.int IntKind.u8 x9, Value.int IntKind.u8 x10] 149) →
    w24.heap[m16]? = some (Obj.cells #[Value.int IntKind.u8 x7, Value.int IntKind.u8 x8, Value.int IntKind.u8 x9, Value.int IntKind.u8 x10] 149) → w24.heap[m16]? = some (Obj.cells
    #[Value.int IntKind.u8 x7, Value.int IntKind.u8 x8, Value.int IntKind.u8 x9, Value.int IntKind.u8 x10] 149) → w24.heap[m25]? = some (Obj.cells #[Value.int IntKind.i64 x11,
    Value.int IntKind.i64 x12] 42) → w24.heap[m16]? = some (Obj.cells #[Value.int IntKind.u8 x7, Value.int IntKind.u8 x8, Value.int IntKind.u8 x9, Value.int IntKind.u8 x10] 149) →
    w24.heap[m3]? = some (Obj.cells #[Value.slice a9 m56 m57, Value.slice a6 m22 m23] 25) → w24.heap[m25]? = some (Obj.cells #[Value.int IntKind.i64 x11, Value.int IntKind.i64 x12]
    42) → w24.heap[m53]? = some (Obj.cells #[Value.slice (some { block := m25, off := 0 }) 1 1] 89) → w24.heap[m3]? = some (Obj.cells #[Value.slice a9 m56 m57, Value.slice a6 m22
    m23] 25) → w24.heap[m25]? = some (Obj.cells #[Value.int IntKind.i64 x11, Value.int IntKind.i64 x12] 42) → F1 [Lf.int IntKind.i64 (x1 + 1), Lf.sl a9 m56 m57, Lf.sl a6 m22 m23]
    w24 ∧ F2 [Lf.int IntKind.i64 (x1 + 1), Lf.sl a9 m56 m57, Lf.sl a6 m22 m23] < F2 [Lf.int IntKind.i64 x1, Lf.sl a1 m4 m5, Lf.sl a2 m6 m7])) ∧ (t1 = false → ∃ (F5 : List Lf →
    World → Prop), ∃ (F6 : List Lf → Nat), (∀ (w26 : World), RowKit.Below w.heap.size w w26 → Kept [m3, m2, m1] w8 w26 → F5 [Lf.int IntKind.i64 0, Lf.sl a3 m12 m13, Lf.sl a4 m14
    m15] w26) ∧ ∀ (x15 : Int) (a10 : Option Addr) (m72 m73 : Nat) (a11 : Option Addr) (m74 m75 : Nat) (w27 : World), RowKit.Below w.heap.size w w27 → F5 [Lf.int IntKind.i64 x15,
    Lf.sl a10 m72 m73, Lf.sl a11 m74 m75] w27 → ∃ (F7 : List Lf → World → Prop), ((x15 = 0 → ∀ (w29 : World), RowKit.Below w.heap.size w w29 → Kept [m3, m2, m1] w27 w29 → F7
    [Lf.bool true, Lf.sl a10 m72 m73, Lf.sl a11 m74 m75] w29) ∧ (x15 ≠ 0 → (x15 < (↑x1n : Int) → ∀ (w30 : World), RowKit.Below w.heap.size w w30 → Kept [m3, m2, m1] w27 w30 →
    w30.heap[m1]? = some (Obj.cells #[Value.slice x0a x0n x0c, Value.slice x1a x1n x1c] 84) → F7 [Lf.bool (decide (x15 < 4)), Lf.sl a10 m72 m73, Lf.sl a11 m74 m75] w30) ∧ ((↑x1n :
    Int) ≤ x15 → ∀ (w31 : World), RowKit.Below w.heap.size w w31 → Kept [m3, m2, m1] w27 w31 → w31.heap[m1]? = some (Obj.cells #[Value.slice x0a x0n x0c, Value.slice x1a x1n x1c]
    84) → F7 [Lf.bool false, Lf.sl a10 m72 m73, Lf.sl a11 m74 m75] w31))) ∧ ∀ (t2 : Bool) (a12 : Option Addr) (m80 m81 : Nat) (a13 : Option Addr) (m82 m83 : Nat) (w32 : World),
    RowKit.Below w.heap.size w w32 → F7 [Lf.bool t2, Lf.sl a12 m80 m81, Lf.sl a13 m82 m83] w32 → (t2 = true → ∀ (m84 : Nat), w32.heap.size ≤ m84 → ∃ (F8 : List Lf → World → Prop),
    ((x15 < (↑x1n : Int) → ∃ (m85 : Nat), ∃ (m86 : Nat), x1a = some { block := m85, off := m86 } ∧ (0 ≤ x15 ∧ x15 < (↑x1n : Int)) ∧ ∃ (x17 : Int), ∃ (x18 : Int), ∃ (x19 : Int), ∃
    (x20 : Int), w32.cell? { block := m85, off := m86 + x15.toNat * 4 } = some (Value.int IntKind.u8 x17) ∧ w32.cell? { block := m85, off := m86 + x15.toNat * 4 + 1 } = some
    (Value.int IntKind.u8 x18) ∧ w32.cell? { block := m85, off := m86 + x15.toNat * 4 + 1 + 1 } = some (Value.int IntKind.u8 x19) ∧ w32.cell?
    { block := m85, off := m86 + x15.toNat * 4 + 1 + 1 + 1 } = some (Value.int IntKind.u8 x20) ∧ (m85 < w.heap.size ∨ m85 ≠ m84 ∧ m85 ≠ m3 ∧ m85 ≠ m2 ∧ m85 ≠ m1) ∧ ∀ (w34 : World),
    RowKit.Below w.heap.size w w34 → Kept [m84, m3, m2, m1] w32 w34 → w34.heap[m1]? = some (Obj.cells #[Value.slice x0a x0n x0c, Value.slice x1a x1n x1c] 84) → F8 [Lf.sl a12 m80
    m81, Lf.sl a13 m82 m83, Lf.int IntKind.u8 x17, Lf.int IntKind.u8 x18, Lf.int IntKind.u8 x19, Lf.int IntKind.u8 x20] w34) ∧ ((↑x1n : Int) ≤ x15 → ∀ (w35 : World), RowKit.Below
    w.heap.size w w35 → Kept [m84, m3, m2, m1] w32 w35 → F8 [Lf.sl a12 m80 m81, Lf.sl a13 m82 m83, Lf.int IntKind.u8 0, Lf.int IntKind.u8 0, Lf.int IntKind.u8 0, Lf.int IntKind.u8
    0] w35)) ∧ ∀ (a14 : Option Addr) (m88 m89 : Nat) (a15 : Option Addr) (m90 m91 : Nat) (x21 x22 x23 x24 : Int) (w36 : World), RowKit.Below w.heap.size w w36 → F8 [Lf.sl a14 m88
    m89, Lf.sl a15 m90 m91, Lf.int IntKind.u8 x21, Lf.int IntKind.u8 x22, Lf.int IntKind.u8 x23, Lf.int IntKind.u8 x24] w36 → (-9223372036854775808 ≤ x21 ∧ x21 ≤
    9223372036854775807) ∧ (↑m88 : Int) ≠ 0 ∧ ∀ (m92 : Nat), w36.heap.size ≤ m92 → (-9223372036854775808 ≤ x21.tmod (↑m88 : Int) + 1 ∧ x21.tmod (↑m88 : Int) + (1 : Int) ≤
    9223372036854775807) ∧ (-9223372036854775808 ≤ x22 ∧ x22 ≤ 9223372036854775807) ∧ (-9223372036854775808 ≤ (↑m88 : Int) - 1 ∧ (↑m88 : Int) - (1 : Int) ≤ 9223372036854775807) ∧
    (↑m88 : Int) - (1 : Int) ≠ 0 ∧ (-9223372036854775808 ≤ x21.tmod (↑m88 : Int) + 1 + x22.tmod ((↑m88 : Int) - 1) ∧ x21.tmod (↑m88 : Int) + 1 + x22.tmod ((↑m88 : Int) - 1) ≤
    9223372036854775807) ∧ (↑m88 : Int) ≠ 0 ∧ (-9223372036854775808 ≤ x21 ∧ x21 ≤ 9223372036854775807) ∧ ((16 : Int) ≠ 0 ∧ -9223372036854775808 ≤ x21.tdiv 16 ∧ x21.tdiv (16 : Int)
    ≤ 9223372036854775807) ∧ ∃ (m93 : Nat), ∃ (m94 : Nat), a14 = some { block := m93, off := m94 } ∧ (0 ≤ x21.tmod (↑m88 : Int) ∧ x21.tmod (↑m88 : Int) < (↑m88 : Int)) ∧ ∃ (a16 :
    Option Addr), ∃ (m95 : Nat), ∃ (m96 : Nat), w36.cell? { block := m93, off := m94 + (x21.tmod (↑m88 : Int)).toNat * 1 } = some (Value.slice a16 m95 m96) ∧ (m93 < w.heap.size ∨
    m93 ≠ m92 ∧ m93 ≠ m84 ∧ m93 ≠ m3 ∧ m93 ≠ m2 ∧ m93 ≠ m1) ∧ (↑m95 : Int) ≠ 0 ∧ (-9223372036854775808 ≤ x22 ∧ x22 ≤ 9223372036854775807) ∧ ((16 : Int) ≠ 0 ∧ -9223372036854775808 ≤
    x22.tdiv 16 ∧ x22.tdiv (16 : Int) ≤ 9223372036854775807) ∧ ∃ (m97 : Nat), ∃ (m98 : Nat), a14 = some { block := m97, off := m98 } ∧ (0 ≤ (x21.tmod (↑m88 : Int) + 1 + x22.tmod
    ((↑m88 : Int) - 1)).tmod (↑m88 : Int) ∧ (x21.tmod (↑m88 : Int) + 1 + x22.tmod ((↑m88 : Int) - 1)).tmod (↑m88 : Int) < (↑m88 : Int)) ∧ ∃ (a17 : Option Addr), ∃ (m99 : Nat), ∃
    (m100 : Nat), w36.cell? { block := m97, off := m98 + ((x21.tmod (↑m88 : Int) + 1 + x22.tmod ((↑m88 : Int) - 1)).tmod (↑m88 : Int)).toNat * 1 } = some (Value.slice a17 m99 m100)
    ∧ (m97 < w.heap.size ∨ m97 ≠ m92 ∧ m97 ≠ m84 ∧ m97 ≠ m3 ∧ m97 ≠ m2 ∧ m97 ≠ m1) ∧ (↑m99 : Int) ≠ 0 ∧ ∃ (m101 : Nat), ∃ (m102 : Nat), a14 = some { block := m101, off := m102 } ∧
    (0 ≤ x21.tmod (↑m88 : Int) ∧ x21.tmod (↑m88 : Int) < (↑m88 : Int)) ∧ ∃ (a18 : Option Addr), ∃ (m103 : Nat), ∃ (m104 : Nat), w36.cell?
    { block := m101, off := m102 + (x21.tmod (↑m88 : Int)).toNat * 1 } = some (Value.slice a18 m103 m104) ∧ (m101 < w.heap.size ∨ m101 ≠ m92 ∧ m101 ≠ m84 ∧ m101 ≠ m3 ∧ m101 ≠ m2 ∧
    m101 ≠ m1) ∧ ∃ (m105 : Nat), ∃ (m106 : Nat), a18 = some { block := m105, off := m106 } ∧ (0 ≤ (x21.tdiv 16).tmod (↑m95 : Int) ∧ (x21.tdiv 16).tmod (↑m95 : Int) < (↑m103 : Int))
    ∧ ∃ (x25 : Int), ∃ (x26 : Int), w36.cell? { block := m105, off := m106 + ((x21.tdiv 16).tmod (↑m95 : Int)).toNat * 2 } = some (Value.int IntKind.i64 x25) ∧ w36.cell?
    { block := m105, off := m106 + ((x21.tdiv 16).tmod (↑m95 : Int)).toNat * 2 + 1 } = some (Value.int IntKind.i64 x26) ∧ (m105 < w.heap.size ∨ m105 ≠ m92 ∧ m105 ≠ m84 ∧ m105 ≠ m3
    ∧ m105 ≠ m2 ∧ m105 ≠ m1) ∧ ∀ (m107 : Nat), w36.heap.size ≤ m107 → ∀ (m108 : Nat), w36.heap.size ≤ m108 → ∃ (m109 : Nat), ∃ (m110 : Nat), a14 = some
    { block := m109, off := m110 } ∧ (0 ≤ (x21.tmod (↑m88 : Int) + 1 + x22.tmod ((↑m88 : Int) - 1)).tmod (↑m88 : Int) ∧ (x21.tmod (↑m88 : Int) + 1 + x22.tmod ((↑m88 : Int) -
    1)).tmod (↑m88 : Int) < (↑m88 : Int)) ∧ ∃ (a19 : Option Addr), ∃ (m111 : Nat), ∃ (m112 : Nat), w36.cell?
    { block := m109, off := m110 + ((x21.tmod (↑m88 : Int) + 1 + x22.tmod ((↑m88 : Int) - 1)).tmod (↑m88 : Int)).toNat * 1 } = some (Value.slice a19 m111 m112) ∧ (m109 <
    w.heap.size ∨ m109 ≠ m108 ∧ m109 ≠ m107 ∧ m109 ≠ m92 ∧ m109 ≠ m84 ∧ m109 ≠ m3 ∧ m109 ≠ m2 ∧ m109 ≠ m1) ∧ ∃ (m113 : Nat), ∃ (m114 : Nat), a19 = some
    { block := m113, off := m114 } ∧ (0 ≤ (x22.tdiv 16).tmod (↑m99 : Int) ∧ (x22.tdiv 16).tmod (↑m99 : Int) < (↑m111 : Int)) ∧ ∃ (x27 : Int), ∃ (x28 : Int), w36.cell?
    { block := m113, off := m114 + ((x22.tdiv 16).tmod (↑m99 : Int)).toNat * 2 } = some (Value.int IntKind.i64 x27) ∧ w36.cell?
    { block := m113, off := m114 + ((x22.tdiv 16).tmod (↑m99 : Int)).toNat * 2 + 1 } = some (Value.int IntKind.i64 x28) ∧ (m113 < w.heap.size ∨ m113 ≠ m108 ∧ m113 ≠ m107 ∧ m113 ≠
    m92 ∧ m113 ≠ m84 ∧ m113 ≠ m3 ∧ m113 ≠ m2 ∧ m113 ≠ m1) ∧ (-9223372036854775808 ≤ x25 - x28 ∧ x25 - x28 ≤ 9223372036854775807) ∧ (-9223372036854775808 ≤ x23 ∧ x23 ≤
    9223372036854775807) ∧ (8 : Int) ≠ 0 ∧ (-9223372036854775808 ≤ x25 - x28 + x23.tmod 8 ∧ x25 - x28 + x23.tmod (8 : Int) ≤ 9223372036854775807) ∧ (-9223372036854775808 ≤ x25 -
    x28 + x23.tmod 8 - 4 ∧ x25 - x28 + x23.tmod 8 - (4 : Int) ≤ 9223372036854775807) ∧ (-9223372036854775808 ≤ x26 - x27 ∧ x26 - x27 ≤ 9223372036854775807) ∧ (-9223372036854775808
    ≤ x24 ∧ x24 ≤ 9223372036854775807) ∧ (8 : Int) ≠ 0 ∧ (-9223372036854775808 ≤ x26 - x27 + x24.tmod 8 ∧ x26 - x27 + x24.tmod (8 : Int) ≤ 9223372036854775807) ∧
    (-9223372036854775808 ≤ x26 - x27 + x24.tmod 8 - 4 ∧ x26 - x27 + x24.tmod 8 - (4 : Int) ≤ 9223372036854775807) ∧ ∀ (w37 : World), RowKit.Below w.heap.size w w37 → Kept [m108,
    m107, m92, m84, m3, m2, m1] w36 w37 → Calls Try.prog 42 #[Value.int IntKind.i64 (x25 - x28 + x23.tmod 8 - 4), Value.int IntKind.i64 (max (x25 - x28 + x23.tmod 8 - 4) (x26 - x27
    + x24.tmod 8 - 4))] w37 fun (e3 : Ending) (w38 : World) => ∃ (x29 : Int), ∃ (x30 : Int), e3 = Ending.returned (Value.agg #[Value.int IntKind.i64 x29, Value.int IntKind.i64
    x30]) ∧ KeepX true w.heap.size [m108, m107, m92, m84, m3, m2, m1] (fun _ => False) w37 w38 ∧ ∀ (m116 : Nat), w38.heap.size ≤ m116 → ∀ (w39 : World), RowKit.Below w.heap.size w
    w39 → Kept [m116, m108, m107, m92, m84, m3, m2, m1] w38 w39 → w39.heap[m116]? = some (Obj.cells #[Value.int IntKind.i64 (x21.tmod (↑m88 : Int)), Value.int IntKind.i64
    ((x21.tdiv 16).tmod (↑m95 : Int)), Value.int IntKind.i64 ((x21.tmod (↑m88 : Int) + 1 + x22.tmod ((↑m88 : Int) - 1)).tmod (↑m88 : Int)), Value.int IntKind.i64 ((x22.tdiv
    16).tmod (↑m99 : Int)), Value.int IntKind.i64 x29, Value.int IntKind.i64 x30] 67) → RunsTo Try.prog (Builtin.append_ #[23, 23] 23 #[Value.slice a15 m90 m91, Value.slice (some
    { block := m116, off := 0 }) 1 1]) w39 fun (v4 : Value) (w40 : World) => ∃ (a20 : Option Addr), ∃ (m118 : Nat), ∃ (m119 : Nat), v4 = Value.slice a20 m118 m119 ∧ KeepX true
    w.heap.size [m116, m108, m107, m92, m84, m3, m2, m1] (fun _ => False) w39 w40 ∧ (-9223372036854775808 ≤ x15 + 1 ∧ x15 + (1 : Int) ≤ 9223372036854775807) ∧ ∀ (w41 : World),
    RowKit.Below w.heap.size w w41 → Kept [m116, m108, m107, m92, m84, m3, m2, m1] w40 w41 → w41.heap[m84]? = some (Obj.cells #[Value.int IntKind.u8 x21, Value.int IntKind.u8 x22,
    Value.int IntKind.u8 x23, Value.int IntKind.u8 x24] 149) → w41.heap[m92]? = some (Obj.cells #[Value.int IntKind.i64 (x21.tmod (↑m88 : Int)), Value.int IntKind.i64 ((x21.tdiv
    16).tmod (↑m95 : Int)), Value.int IntKind.i64 ((x21.tmod (↑m88 : Int) + 1 + x22.tmod ((↑m88 : Int) - 1)).tmod (↑m88 : Int)), Value.int IntKind.i64 ((x22.tdiv 16).tmod (↑m99 :
    Int)), Value.int IntKind.i64 x29, Value.int IntKind.i64 x30] 67) → w41.heap[m107]? = some (Obj.cells #[Value.int IntKind.i64 x25, Value.int IntKind.i64 x26] 42) →
    w41.heap[m108]? = some (Obj.cells #[Value.int IntKind.i64 x27, Value.int IntKind.i64 x28] 42) → w41.heap[m1]? = some (Obj.cells #[Value.slice x0a x0n x0c, Value.slice x1a x1n
    x1c] 84) → w41.heap[m84]? = some (Obj.cells #[Value.int IntKind.u8 x21, Value.int IntKind.u8 x22, Value.int IntKind.u8 x23, Value.int IntKind.u8 x24] 149) → w41.heap[m3]? =
    some (Obj.cells #[Value.slice a14 m88 m89, Value.slice a20 m118 m119] 25) → w41.heap[m92]? = some (Obj.cells #[Value.int IntKind.i64 (x21.tmod (↑m88 : Int)), Value.int
    IntKind.i64 ((x21.tdiv 16).tmod (↑m95 : Int)), Value.int IntKind.i64 ((x21.tmod (↑m88 : Int) + 1 + x22.tmod ((↑m88 : Int) - 1)).tmod (↑m88 : Int)), Value.int IntKind.i64
    ((x22.tdiv 16).tmod (↑m99 : Int)), Value.int IntKind.i64 x29, Value.int IntKind.i64 x30] 67) → w41.heap[m84]? = some (Obj.cells #[Value.int IntKind.u8 x21, Value.int IntKind.u8
    x22, Value.int IntKind.u8 x23, Value.int IntKind.u8 x24] 149) → w41.heap[m3]? = some (Obj.cells #[Value.slice a14 m88 m89, Value.slice a20 m118 m119] 25) → w41.heap[m3]? = some
    (Obj.cells #[Value.slice a14 m88 m89, Value.slice a20 m118 m119] 25) → w41.heap[m92]? = some (Obj.cells #[Value.int IntKind.i64 (x21.tmod (↑m88 : Int)), Value.int IntKind.i64
    ((x21.tdiv 16).tmod (↑m95 : Int)), Value.int IntKind.i64 ((x21.tmod (↑m88 : Int) + 1 + x22.tmod ((↑m88 : Int) - 1)).tmod (↑m88 : Int)), Value.int IntKind.i64 ((x22.tdiv
    16).tmod (↑m99 : Int)), Value.int IntKind.i64 x29, Value.int IntKind.i64 x30] 67) → w41.heap[m84]? = some (Obj.cells #[Value.int IntKind.u8 x21, Value.int IntKind.u8 x22,
    Value.int IntKind.u8 x23, Value.int IntKind.u8 x24] 149) → w41.heap[m3]? = some (Obj.cells #[Value.slice a14 m88 m89, Value.slice a20 m118 m119] 25) → w41.heap[m92]? = some
    (Obj.cells #[Value.int IntKind.i64 (x21.tmod (↑m88 : Int)), Value.int IntKind.i64 ((x21.tdiv 16).tmod (↑m95 : Int)), Value.int IntKind.i64 ((x21.tmod (↑m88 : Int) + 1 +
    x22.tmod ((↑m88 : Int) - 1)).tmod (↑m88 : Int)), Value.int IntKind.i64 ((x22.tdiv 16).tmod (↑m99 : Int)), Value.int IntKind.i64 x29, Value.int IntKind.i64 x30] 67) →
    w41.heap[m84]? = some (Obj.cells #[Value.int IntKind.u8 x21, Value.int IntKind.u8 x22, Value.int IntKind.u8 x23, Value.int IntKind.u8 x24] 149) → w41.heap[m3]? = some
    (Obj.cells #[Value.slice a14 m88 m89, Value.slice a20 m118 m119] 25) → w41.heap[m92]? = some (Obj.cells #[Value.int IntKind.i64 (x21.tmod (↑m88 : Int)), Value.int IntKind.i64
    ((x21.tdiv 16).tmod (↑m95 : Int)), Value.int IntKind.i64 ((x21.tmod (↑m88 : Int) + 1 + x22.tmod ((↑m88 : Int) - 1)).tmod (↑m88 : Int)), Value.int IntKind.i64 ((x22.tdiv
    16).tmod (↑m99 : Int)), Value.int IntKind.i64 x29, Value.int IntKind.i64 x30] 67) → w41.heap[m92]? = some (Obj.cells #[Value.int IntKind.i64 (x21.tmod (↑m88 : Int)), Value.int
    IntKind.i64 ((x21.tdiv 16).tmod (↑m95 : Int)), Value.int IntKind.i64 ((x21.tmod (↑m88 : Int) + 1 + x22.tmod ((↑m88 : Int) - 1)).tmod (↑m88 : Int)), Value.int IntKind.i64
    ((x22.tdiv 16).tmod (↑m99 : Int)), Value.int IntKind.i64 x29, Value.int IntKind.i64 x30] 67) → w41.heap[m92]? = some (Obj.cells #[Value.int IntKind.i64 (x21.tmod (↑m88 : Int)),
    Value.int IntKind.i64 ((x21.tdiv 16).tmod (↑m95 : Int)), Value.int IntKind.i64 ((x21.tmod (↑m88 : Int) + 1 + x22.tmod ((↑m88 : Int) - 1)).tmod (↑m88 : Int)), Value.int
    IntKind.i64 ((x22.tdiv 16).tmod (↑m99 : Int)), Value.int IntKind.i64 x29, Value.int IntKind.i64 x30] 67) → w41.heap[m3]? = some (Obj.cells #[Value.slice a14 m88 m89,
    Value.slice a20 m118 m119] 25) → w41.heap[m92]? = some (Obj.cells #[Value.int IntKind.i64 (x21.tmod (↑m88 : Int)), Value.int IntKind.i64 ((x21.tdiv 16).tmod (↑m95 : Int)),
    Value.int IntKind.i64 ((x21.tmod (↑m88 : Int) + 1 + x22.tmod ((↑m88 : Int) - 1)).tmod (↑m88 : Int)), Value.int IntKind.i64 ((x22.tdiv 16).tmod (↑m99 : Int)), Value.int
    IntKind.i64 x29, Value.int IntKind.i64 x30] 67) → w41.heap[m92]? = some (Obj.cells #[Value.int IntKind.i64 (x21.tmod (↑m88 : Int)), Value.int IntKind.i64 ((x21.tdiv 16).tmod
    (↑m95 : Int)), Value.int IntKind.i64 ((x21.tmod (↑m88 : Int) + 1 + x22.tmod ((↑m88 : Int) - 1)).tmod (↑m88 : Int)), Value.int IntKind.i64 ((x22.tdiv 16).tmod (↑m99 : Int)),
    Value.int IntKind.i64 x29, Value.int IntKind.i64 x30] 67) → w41.heap[m3]? = some (Obj.cells #[Value.slice a14 m88 m89, Value.slice a20 m118 m119] 25) → w41.heap[m92]? = some
    (Obj.cells #[Value.int IntKind.i64 (x21.tmod (↑m88 : Int)), Value.int IntKind.i64 ((x21.tdiv 16).tmod (↑m95 : Int)), Value.int IntKind.i64 ((x21.tmod (↑m88 : Int) + 1 +
    x22.tmod ((↑m88 : Int) - 1)).tmod (↑m88 : Int)), Value.int IntKind.i64 ((x22.tdiv 16).tmod (↑m99 : Int)), Value.int IntKind.i64 x29, Value.int IntKind.i64 x30] 67) →
    w41.heap[m92]? = some (Obj.cells #[Value.int IntKind.i64 (x21.tmod (↑m88 : Int)), Value.int IntKind.i64 ((x21.tdiv 16).tmod (↑m95 : Int)), Value.int IntKind.i64 ((x21.tmod
    (↑m88 : Int) + 1 + x22.tmod ((↑m88 : Int) - 1)).tmod (↑m88 : Int)), Value.int IntKind.i64 ((x22.tdiv 16).tmod (↑m99 : Int)), Value.int IntKind.i64 x29, Value.int IntKind.i64
    x30] 67) → w41.heap[m107]? = some (Obj.cells #[Value.int IntKind.i64 x25, Value.int IntKind.i64 x26] 42) → w41.heap[m108]? = some (Obj.cells #[Value.int IntKind.i64 x27,
    Value.int IntKind.i64 x28] 42) → w41.heap[m84]? = some (Obj.cells #[Value.int IntKind.u8 x21, Value.int IntKind.u8 x22, Value.int IntKind.u8 x23, Value.int IntKind.u8 x24] 149)
    → w41.heap[m107]? = some (Obj.cells #[Value.int IntKind.i64 x25, Value.int IntKind.i64 x26] 42) → w41.heap[m108]? = some (Obj.cells #[Value.int IntKind.i64 x27, Value.int
    IntKind.i64 x28] 42) → w41.heap[m84]? = some (Obj.cells #[Value.int IntKind.u8 x21, Value.int IntKind.u8 x22, Value.int IntKind.u8 x23, Value.int IntKind.u8 x24] 149) →
    w41.heap[m92]? = some (Obj.cells #[Value.int IntKind.i64 (x21.tmod (↑m88 : Int)), Value.int IntKind.i64 ((x21.tdiv 16).tmod (↑m95 : Int)), Value.int IntKind.i64 ((x21.tmod
    (↑m88 : Int) + 1 + x22.tmod ((↑m88 : Int) - 1)).tmod (↑m88 : Int)), Value.int IntKind.i64 ((x22.tdiv 16).tmod (↑m99 : Int)), Value.int IntKind.i64 x29, Value.int IntKind.i64
    x30] 67) → w41.heap[m3]? = some (Obj.cells #[Value.slice a14 m88 m89, Value.slice a20 m118 m119] 25) → w41.heap[m116]? = some (Obj.cells #[Value.int IntKind.i64 (x21.tmod (↑m88
    : Int)), Value.int IntKind.i64 ((x21.tdiv 16).tmod (↑m95 : Int)), Value.int IntKind.i64 ((x21.tmod (↑m88 : Int) + 1 + x22.tmod ((↑m88 : Int) - 1)).tmod (↑m88 : Int)), Value.int
    IntKind.i64 ((x22.tdiv 16).tmod (↑m99 : Int)), Value.int IntKind.i64 x29, Value.int IntKind.i64 x30] 67) → w41.heap[m3]? = some (Obj.cells #[Value.slice a14 m88 m89,
    Value.slice a20 m118 m119] 25) → F5 [Lf.int IntKind.i64 (x15 + 1), Lf.sl a14 m88 m89, Lf.sl a20 m118 m119] w41 ∧ F6 [Lf.int IntKind.i64 (x15 + 1), Lf.sl a14 m88 m89, Lf.sl a20
    m118 m119] < F6 [Lf.int IntKind.i64 x15, Lf.sl a10 m72 m73, Lf.sl a11 m74 m75]) ∧ (t2 = false → ∀ (w42 : World), RowKit.Below w.heap.size w w42 → Kept [m3, m2, m1] w32 w42 → R
    (Ending.returned (Value.agg #[Value.slice a12 m80 m81, Value.slice a13 m82 m83])) w42))) : Calls Try.prog 40 #[Value.agg #[Value.slice x0a x0n x0c, Value.slice x1a x1n x1c]] w
    R := calls_of_vcj (pure := true) (wrapAt := []) (muts := [3, 5, 8]) (esc := []) (joins := [(2000003, [(26, 4)]), (34, []), (2000013, [(94, 4)]), (102, []), (10000000, [])])
    (args := [SV.pv (PV.agg [Lf.sl x0a x0n x0c, Lf.sl x1a x1n x1c])]) (vs := [Value.agg #[Value.slice x0a x0n x0c, Value.slice x1a x1n x1c]]) Try.func40 rfl rfl rfl (Eq.mp (by
    kernel_rfl) h) 
end Go.Proofs
end
section
/- Works out of bytes, walked. -/
namespace Go.Proofs.R12
open Go.Vc Go.RowKit Go.Proofs
theorem tdiv_bd {x : Int} (h : 0 ≤ x ∧ x ≤ 255) : 0 ≤ x.tdiv 16 ∧ x.tdiv 16 ≤ 255 := by
  rw [Int.tdiv_eq_ediv_of_nonneg h.1]; omega
set_option maxRecDepth 100000 in
set_option maxHeartbeats 8000000 in
theorem shop_l {w : World} {T U : List (Int × Int × Int × Int)} {x0a x1a : Option Addr} {x0c x1c : Nat} (hT0 : Cells w x0a (quadsV T)) (hU0 : Cells w x1a (quadsV U)) (hT : ∀ t ∈ T, ByteQ t) (hU : ∀ t ∈ U, ByteQ t) : Calls Try.prog 40 #[.agg #[.slice x0a T.length x0c, .slice x1a U.length x1c]] w fun e w' => ∃ (W : Wk) (pa fa : Option Addr) (pc fc : Nat), e = .returned (W.v pa pc fa fc) ∧ Below w.heap.size w w' ∧ ShopW W ∧ LiesS w.heap.size w'.heap.size w' pa W.pats ∧ Lies [] w.heap.size w'.heap.size w' fa (fitsV W.fits) := by
  refine vc40 _ _ _ _ _ _ w _ ?_
  intro m1 g_m1 m2 g_m2 m3 g_m3
  refine ⟨fun ls w' => match ls with | [.int _ ii, .sl a n c, .sl a2 n2 c2] => ∃ (B : Nat) (ps : List (List Sp)), (m1 < B ∧ m2 < B ∧ m3 < B ∧ B ≤ w'.heap.size) ∧ n = ps.length ∧ ((ps.length : Int) = ii ∧ ii ≤ 4) ∧ (∀ p ∈ ps, OkP p) ∧ NRow patN B [m3, m2, m1] a n c ps [] w' ∧ a2 = none ∧ n2 = 0 ∧ c2 = 0 | _ => False, fun ls => match ls with | [.int _ ii, _, _] => (5 - ii).toNat | _ => 0, ?_, ?_⟩
  · intro w2 hb2 hk2
    have y2 := hb2.size
    have z2 := hk2.size; have o2 := hk2.own
    simp only [List.mem_cons, List.not_mem_nil, or_false, forall_eq_or_imp, forall_eq] at o2
    exact ⟨w2.heap.size, [], ⟨by omega, by omega, by omega, Nat.le_refl _⟩, rfl, ⟨by rfl, by omega⟩, by simp, NRow.of (.inr Row.nil), rfl, rfl, rfl⟩
  rintro x1 a1 m4 m5 a2 m6 m7 w3 hb3 ⟨B, ps, hB, rfl, hii, hP, RR, rfl, rfl, rfl⟩
  have y3 := hb3.size
  refine ⟨fun ls w' => match ls with | [.bool t, .sl a n c, .sl a2 n2 c2] => t = (decide (x1 < 2) || (decide (x1 < (T.length : Int)) && decide (x1 < 4))) ∧ B ≤ w'.heap.size ∧ n = ps.length ∧ NRow patN B [m3, m2, m1] a n c ps [] w' ∧ a2 = none ∧ n2 = 0 ∧ c2 = 0 | _ => False, ?_, ?_⟩
  · refine ⟨?_, ?_⟩
    · intro h1 w5 hb5 hk5
      try simp only [Bool.not_eq_true', Bool.not_eq_false', decide_eq_true_eq, decide_eq_false_iff_not] at h1
      have y5 := hb5.size
      have z5 := hk5.size; have o5 := hk5.own
      simp only [List.mem_cons, List.not_mem_nil, or_false, forall_eq_or_imp, forall_eq] at o5
      have RR_5 := RR.chg (Chg.kept hk5) (fun _ h => h)
      exact ⟨by rw [decide_eq_true (show x1 < 2 by assumption), Bool.true_or], by omega, rfl, RR_5, rfl, rfl, rfl⟩
    · intro h2
      try simp only [Bool.not_eq_true', Bool.not_eq_false', decide_eq_true_eq, decide_eq_false_iff_not] at h2
      refine ⟨?_, ?_⟩
      · intro h3 w6 hb6 hk6 hc6_m1
        try simp only [Bool.not_eq_true', Bool.not_eq_false', decide_eq_true_eq, decide_eq_false_iff_not] at h3
        have y6 := hb6.size
        have z6 := hk6.size; have o6 := hk6.own
        simp only [List.mem_cons, List.not_mem_nil, or_false, forall_eq_or_imp, forall_eq] at o6
        have RR_6 := RR.chg (Chg.kept hk6) (fun _ h => h)
        exact ⟨by rw [decide_eq_false (show ¬ x1 < 2 by omega), Bool.false_or, decide_eq_true (show x1 < (T.length : Int) by assumption), Bool.true_and], by omega, rfl, RR_6, rfl, rfl, rfl⟩
      · intro h4 w7 hb7 hk7 hc7_m1
        try simp only [Bool.not_eq_true', Bool.not_eq_false', decide_eq_true_eq, decide_eq_false_iff_not] at h4
        have y7 := hb7.size
        have z7 := hk7.size; have o7 := hk7.own
        simp only [List.mem_cons, List.not_mem_nil, or_false, forall_eq_or_imp, forall_eq] at o7
        have RR_7 := RR.chg (Chg.kept hk7) (fun _ h => h)
        exact ⟨by rw [decide_eq_false (show ¬ x1 < 2 by omega), Bool.false_or, decide_eq_false (show ¬ x1 < (T.length : Int) by omega), Bool.false_and], by omega, rfl, RR_7, rfl, rfl, rfl⟩
  rintro t1 a3 m12 m13 a4 m14 m15 w8 hb8 ⟨ht1, zB, rfl, RR, rfl, rfl, rfl⟩
  have y8 := hb8.size
  refine ⟨?_, ?_⟩
  · intro h5 m16 g_m16
    try simp only [Bool.not_eq_true', Bool.not_eq_false', decide_eq_true_eq, decide_eq_false_iff_not] at h5
    have h1t := ht1.symm.trans (by assumption : t1 = true)
    simp only [Bool.or_eq_true, Bool.and_eq_true, decide_eq_true_eq] at h1t
    refine ⟨fun ls w' => match ls with | [.sl a n c, .sl a2 n2 c2, .int _ u0, .int _ u1, .int _ u2, .int _ u3] => ByteQ (u0, u1, u2, u3) ∧ B ≤ w'.heap.size ∧ n = ps.length ∧ NRow patN B [m16, m3, m2, m1] a n c ps [] w' ∧ a2 = none ∧ n2 = 0 ∧ c2 = 0 | _ => False, ?_, ?_⟩
    · refine ⟨?_, ?_⟩
      · intro h6
        try simp only [Bool.not_eq_true', Bool.not_eq_false', decide_eq_true_eq, decide_eq_false_iff_not] at h6
        refine load_quad hT0 hb8 (by omega) fun m17 m18 hm1 => ?_
        refine ⟨(by first | omega | (simp only; omega)), ?_⟩
        intro w10 hb10 hk10 hc10_m1
        have y10 := hb10.size
        have z10 := hk10.size; have o10 := hk10.own
        simp only [List.mem_cons, List.not_mem_nil, or_false, forall_eq_or_imp, forall_eq] at o10
        have RR_10 := (RR.grow (ms := [m16]) (allc g_m16 all0)).chg (Chg.kept hk10) (fun _ h => h)
        exact ⟨quad_bd hT _, by omega, rfl, RR_10, rfl, rfl, rfl⟩
      · intro h7 w11 hb11 hk11
        try simp only [Bool.not_eq_true', Bool.not_eq_false', decide_eq_true_eq, decide_eq_false_iff_not] at h7
        have y11 := hb11.size
        have z11 := hk11.size; have o11 := hk11.own
        simp only [List.mem_cons, List.not_mem_nil, or_false, forall_eq_or_imp, forall_eq] at o11
        have RR_11 := (RR.grow (ms := [m16]) (allc g_m16 all0)).chg (Chg.kept hk11) (fun _ h => h)
        exact ⟨by unfold ByteQ; simp, by omega, rfl, RR_11, rfl, rfl, rfl⟩
    rintro a5 m20 m21 a6 m22 m23 x7 x8 x9 x10 w12 hb12 ⟨hbq, zB, rfl, RR, rfl, rfl, rfl⟩
    have y12 := hb12.size
    have hq := hbq
    unfold ByteQ at hq
    simp only at hq
    have q12 := tmod_bd (b := 12) hq.2.1.1 (by omega)
    have q13 := tmod_bd (b := 12) hq.2.2.2.1 (by omega)
    have S : SinceL [m16, m3, m2, m1] w12 w12 := SinceL.refl
    have hN1 : OkP [(500 + x7, 500 + x7 + x8.tmod 12)] := ⟨by simp, by simp; omega⟩
    have hN2 : OkP [(500 + x7, 500 + x7 + x8.tmod 12), (500 + x9, 500 + x9 + x10.tmod 12)] := ⟨by simp, by simp; omega⟩
    refine ⟨(by first | omega | (simp only; omega)), (by first | omega | (simp only; omega)), (by first | omega | (simp only; omega)), (by first | omega | (simp only; omega)), (by first | omega | (simp only; omega)), (by first | omega | (simp only; omega)), (by first | omega | (simp only; omega)), ?_⟩
    intro w13 hb13 hk13
    have y13 := hb13.size
    have z13 := hk13.size; have o13 := hk13.own
    simp only [List.mem_cons, List.not_mem_nil, or_false, forall_eq_or_imp, forall_eq] at o13
    have S_13 := S.ko hk13 (allc (.inl (by simp)) (allc (.inl (by simp)) (allc (.inl (by simp)) (allc (.inl (by simp)) all0))))
    refine Pure.calls (span_any2 _ _) fun w14 hd14 => ?_
    have hb14 := hb13.trans (hd14.mono hb13.size)
    have z14 := hd14.size
    have S_14 := S_13.below hd14
    refine ⟨_, _, rfl, .all hd14, ?_⟩
    intro m25 g_m25
    refine ⟨(by first | omega | (simp only; omega)), ?_, ?_⟩
    · intro h8
      try simp only [Bool.not_eq_true', Bool.not_eq_false', decide_eq_true_eq, decide_eq_false_iff_not] at h8
      refine ⟨(by first | omega | (simp only; omega)), (by first | omega | (simp only; omega)), (by first | omega | (simp only; omega)), (by first | omega | (simp only; omega)), (by first | omega | (simp only; omega)), (by first | omega | (simp only; omega)), (by first | omega | (simp only; omega)), ?_⟩
      intro w15 hb15 hk15
      have y15 := hb15.size
      have z15 := hk15.size; have o15 := hk15.own
      simp only [List.mem_cons, List.not_mem_nil, or_false, forall_eq_or_imp, forall_eq] at o15
      have S_15 := S_14.ko hk15 (allc (.inr (by omega)) (allc (.inl (by simp)) (allc (.inl (by simp)) (allc (.inl (by simp)) (allc (.inl (by simp)) all0)))))
      refine Pure.calls (span_any2 _ _) fun w16 hd16 => ?_
      have hb16 := hb15.trans (hd16.mono hb15.size)
      have z16 := hd16.size
      have S_16 := S_15.below hd16
      refine ⟨_, _, rfl, .all hd16, ?_⟩
      intro m27 g_m27 w17 hb17 hk17 hc17_m25 hc17_m27
      have y17 := hb17.size
      have z17 := hk17.size; have o17 := hk17.own
      simp only [List.mem_cons, List.not_mem_nil, or_false, forall_eq_or_imp, forall_eq] at o17
      have S_17 := S_16.ko hk17 (allc (.inr (by omega)) (allc (.inr (by omega)) (allc (.inl (by simp)) (allc (.inl (by simp)) (allc (.inl (by simp)) (allc (.inl (by simp)) all0))))))
      refine append_two hc17_m25 hc17_m27 fun aL18 cL18 w18 hd18 LL_18 => ?_
      have hb18 := hb17.trans (hd18.mono hb17.size)
      have z18 := hd18.size
      have S_18 := S_17.below hd18
      refine ⟨_, _, _, rfl, .all hd18, ?_⟩
      intro m33 g_m33 w19 hb19 hk19 hc19_m33
      have y19 := hb19.size
      have z19 := hk19.size; have o19 := hk19.own
      simp only [List.mem_cons, List.not_mem_nil, or_false, forall_eq_or_imp, forall_eq] at o19
      have S_19 := S_18.ko hk19 (allc (.inr (by omega)) (allc (.inr (by omega)) (allc (.inr (by omega)) (allc (.inl (by simp)) (allc (.inl (by simp)) (allc (.inl (by simp)) (allc (.inl (by simp)) all0)))))))
      have LL_19 := LL_18.ko hk19 (allc (.inr (by omega)) (allc (.inl (by omega)) (allc (.inl (by omega)) (allc (.inl (by omega)) (allc (.inl (by omega)) (allc (.inl (by omega)) (allc (.inl (by omega)) all0)))))))
      have RN_19 := nsub2 (N := patN) (x := [(500 + x7, 500 + x7 + x8.tmod 12), (500 + x9, 500 + x9 + x10.tmod 12)]) (RR.grow (ms := [m33, m27, m25]) (allc (by omega) (allc (by omega) (allc (by omega) all0)))) S_19.h (fun x hx => by simp only [List.mem_append, List.mem_cons, List.not_mem_nil, or_false] at hx ⊢; omega) LL_19 zB (by omega) (by omega) (by simp only [List.cons_append, List.nil_append, List.mem_cons, List.not_mem_nil, or_false, forall_eq_or_imp, forall_eq]; omega)
      refine nappend2 (P := Try.prog) (bytes := 24) (by kernel_rfl) RN_19 (Cells.obj (vs := [.slice _ _ _]) hc19_m33) (List.forall_mem_cons.2 ⟨rfl, by simp⟩) (by simp [patN, spansV]) (by omega) (by omega) (by omega) (by simp only [List.cons_append, List.nil_append, List.mem_cons, List.not_mem_nil, or_false, forall_eq_or_imp, forall_eq]; omega) fun aR20 cR20 w20 RR_20 S20 cS20 hS20 hX20 => ?_
      have z20 := cS20.size
      simp only [List.cons_append, List.nil_append, List.mem_cons, List.not_mem_nil, or_false, not_or] at hS20
      have kx20 : KeepX true w.heap.size [m33, m27, m25, m16, m3, m2, m1] (fun _ => False) w19 w20 := cS20.own (fun x hx => ⟨hk19.own x hx, fun h => by
        have h1 := hS20 x h
        simp only [List.mem_cons, List.not_mem_nil, or_false] at hx; omega⟩) (by simp) (fun _ => ⟨hb19.size, fun x hx => by have := (hS20 x hx).1; omega⟩)
      refine ⟨_, _, _, rfl, kx20, (by first | omega | (simp only; omega)), ?_⟩
      intro w21 hb21 hk21 hc21_m16 hc21_m1 hc21_m16' hc21_m16' hc21_m16' hc21_m25 hc21_m16' hc21_m25' hc21_m16' hc21_m16' hc21_m16' hc21_m27 hc21_m3 hc21_m33 hc21_m3'
      have y21 := hb21.size
      have z21 := hk21.size; have o21 := hk21.own
      simp only [List.mem_cons, List.not_mem_nil, or_false, forall_eq_or_imp, forall_eq] at o21
      have RR_21 := RR_20.chg (Chg.kept hk21) (fun _ h => h)
      refine ⟨?_, (by first | omega | (simp only; omega))⟩
      exact ⟨B, ps ++ [_], ⟨by omega, by omega, by omega, by omega⟩, by rw [List.length_append]; rfl, ⟨by rw [List.length_append, List.length_singleton]; omega, by omega⟩, fun q hq => by
        rcases List.mem_append.1 hq with hq | hq
        · exact hP q hq
        · obtain rfl := List.mem_singleton.1 hq
          exact hN2, RR_21.less (by simp), rfl, rfl, rfl⟩
    · intro h9 m53 g_m53 w22 hb22 hk22 hc22_m53 hc22_m25
      try simp only [Bool.not_eq_true', Bool.not_eq_false', decide_eq_true_eq, decide_eq_false_iff_not] at h9
      have y22 := hb22.size
      have z22 := hk22.size; have o22 := hk22.own
      simp only [List.mem_cons, List.not_mem_nil, or_false, forall_eq_or_imp, forall_eq] at o22
      have S_22 := S_14.ko hk22 (allc (.inr (by omega)) (allc (.inr (by omega)) (allc (.inl (by simp)) (allc (.inl (by simp)) (allc (.inl (by simp)) (allc (.inl (by simp)) all0))))))
      have d25 : m53 ≠ m25 := fun e => by rw [e, hc22_m25] at hc22_m53; simp at hc22_m53
      have RN_22 := nsub2 (N := patN) (x := [(500 + x7, 500 + x7 + x8.tmod 12)]) (RR.grow (ms := [m53]) (allc (by omega) all0)) S_22.h (fun x hx => by simp only [List.mem_append, List.mem_cons, List.not_mem_nil, or_false] at hx ⊢; omega) (lies_lit hc22_m25) zB (by omega) (by omega) (by simp only [List.cons_append, List.nil_append, List.mem_cons, List.not_mem_nil, or_false, forall_eq_or_imp, forall_eq]; omega)
      refine nappend2 (P := Try.prog) (bytes := 24) (by kernel_rfl) RN_22 (Cells.obj (vs := [.slice _ _ _]) hc22_m53) (List.forall_mem_cons.2 ⟨rfl, by simp⟩) (by simp [patN, spansV]) (by omega) (by omega) (by omega) (by simp only [List.cons_append, List.nil_append, List.mem_cons, List.not_mem_nil, or_false, forall_eq_or_imp, forall_eq]; omega) fun aR23 cR23 w23 RR_23 S23 cS23 hS23 hX23 => ?_
      have z23 := cS23.size
      simp only [List.cons_append, List.nil_append, List.mem_cons, List.not_mem_nil, or_false, not_or] at hS23
      have kx23 : KeepX true w.heap.size [m53, m25, m16, m3, m2, m1] (fun _ => False) w22 w23 := cS23.own (fun x hx => ⟨hk22.own x hx, fun h => by
        have h1 := hS23 x h
        have h2 : x ≠ m25 := fun e => hX23 x h 0 (by rw [e])
        simp only [List.mem_cons, List.not_mem_nil, or_false] at hx; omega⟩) (by simp) (fun _ => ⟨hb22.size, fun x hx => by have := (hS23 x hx).1; omega⟩)
      have c25 := (cS23.keep m25 (lt_of_some hc22_m25) fun h => hX23 m25 h 0 rfl).trans hc22_m25
      refine ⟨_, _, _, rfl, kx23, (by first | omega | (simp only; omega)), ?_⟩
      intro w24 hb24 hk24 hc24_m16 hc24_m25 hc24_m1 hc24_m16' hc24_m16' hc24_m16' hc24_m25' hc24_m16' hc24_m3 hc24_m25' hc24_m53 hc24_m3' hc24_m25'
      have y24 := hb24.size
      have z24 := hk24.size; have o24 := hk24.own
      simp only [List.mem_cons, List.not_mem_nil, or_false, forall_eq_or_imp, forall_eq] at o24
      have RR_24 := RR_23.chg (chg_less (T := [m53, m16, m3, m2, m1]) (Chg.kept hk24) (fun x hx => by
        by_cases e : x = m25
        · exact .inr (by rw [e, hc24_m25, c25])
        · exact .inl (by simp only [List.mem_cons, List.not_mem_nil, or_false] at hx ⊢; omega))) (fun x hx => by simpa using hx)
      refine ⟨?_, (by first | omega | (simp only; omega))⟩
      exact ⟨B, ps ++ [_], ⟨by omega, by omega, by omega, by omega⟩, by rw [List.length_append]; rfl, ⟨by rw [List.length_append, List.length_singleton]; omega, by omega⟩, fun q hq => by
        rcases List.mem_append.1 hq with hq | hq
        · exact hP q hq
        · obtain rfl := List.mem_singleton.1 hq
          exact hN1, RR_24.less (by simp), rfl, rfl, rfl⟩
  · intro h10
    try simp only [Bool.not_eq_true', Bool.not_eq_false', decide_eq_true_eq, decide_eq_false_iff_not] at h10
    have h1f := ht1.symm.trans (by assumption : t1 = false)
    simp only [Bool.or_eq_false_iff, decide_eq_false_iff_not] at h1f
    have hn4 : 2 ≤ ps.length ∧ ps.length ≤ 4 := by omega
    have LP_8 := liesS_of RR (Nat.le_refl B)
    refine ⟨fun ls w' => match ls with | [.int _ ii, .sl a n c, .sl a2 n2 c2] => ∃ (B2 : Nat) (fs : List Fit), (m1 < B2 ∧ m2 < B2 ∧ m3 < B2 ∧ w8.heap.size ≤ B2 ∧ B2 ≤ w'.heap.size) ∧ n = ps.length ∧ n2 = fs.length ∧ ((fs.length : Int) = ii ∧ ii ≤ 4) ∧ (∀ f ∈ fs, OkF ps f) ∧ LiesS B w8.heap.size w' a ps ∧ RowE 67 6 B2 [m3, m2, m1] a2 n2 c2 (fitsV fs) w' | _ => False, fun ls => match ls with | [.int _ ii, _, _] => (5 - ii).toNat | _ => 0, ?_, ?_⟩
    · intro w26 hb26 hk26
      have y26 := hb26.size
      have z26 := hk26.size; have o26 := hk26.own
      simp only [List.mem_cons, List.not_mem_nil, or_false, forall_eq_or_imp, forall_eq] at o26
      have LP_26 := LP_8.ko hk26 (allc (.inl (by omega)) (allc (.inl (by omega)) (allc (.inl (by omega)) all0)))
      exact ⟨w26.heap.size, [], ⟨by omega, by omega, by omega, by omega, by omega⟩, rfl, rfl, ⟨by rfl, by omega⟩, by simp, LP_26, .inr Row.nil⟩
    rintro x15 a10 m72 m73 a11 m74 m75 w27 hb27 ⟨B2, fs, hB2, rfl, rfl, hii2, hF, LP, FF⟩
    have y27 := hb27.size
    refine ⟨fun ls w' => match ls with | [.bool t, .sl a n c, .sl a2 n2 c2] => t = (decide (x15 = 0) || (decide (x15 < (U.length : Int)) && decide (x15 < 4))) ∧ B2 ≤ w'.heap.size ∧ n = ps.length ∧ n2 = fs.length ∧ LiesS B w8.heap.size w' a ps ∧ RowE 67 6 B2 [m3, m2, m1] a2 n2 c2 (fitsV fs) w' | _ => False, ?_, ?_⟩
    · refine ⟨?_, ?_⟩
      · intro h11 w29 hb29 hk29
        try simp only [Bool.not_eq_true', Bool.not_eq_false', decide_eq_true_eq, decide_eq_false_iff_not] at h11
        have y29 := hb29.size
        have z29 := hk29.size; have o29 := hk29.own
        simp only [List.mem_cons, List.not_mem_nil, or_false, forall_eq_or_imp, forall_eq] at o29
        have LP_29 := LP.ko hk29 (allc (.inl (by omega)) (allc (.inl (by omega)) (allc (.inl (by omega)) all0)))
        have FF_29 := FF.chg (Chg.kept hk29) (fun _ h => h)
        exact ⟨by rw [decide_eq_true (show x15 = 0 by assumption), Bool.true_or], by omega, rfl, rfl, LP_29, FF_29⟩
      · intro h12
        try simp only [Bool.not_eq_true', Bool.not_eq_false', decide_eq_true_eq, decide_eq_false_iff_not] at h12
        refine ⟨?_, ?_⟩
        · intro h13 w30 hb30 hk30 hc30_m1
          try simp only [Bool.not_eq_true', Bool.not_eq_false', decide_eq_true_eq, decide_eq_false_iff_not] at h13
          have y30 := hb30.size
          have z30 := hk30.size; have o30 := hk30.own
          simp only [List.mem_cons, List.not_mem_nil, or_false, forall_eq_or_imp, forall_eq] at o30
          have LP_30 := LP.ko hk30 (allc (.inl (by omega)) (allc (.inl (by omega)) (allc (.inl (by omega)) all0)))
          have FF_30 := FF.chg (Chg.kept hk30) (fun _ h => h)
          exact ⟨by rw [decide_eq_false (show ¬ x15 = 0 by assumption), Bool.false_or, decide_eq_true (show x15 < (U.length : Int) by assumption), Bool.true_and], by omega, rfl, rfl, LP_30, FF_30⟩
        · intro h14 w31 hb31 hk31 hc31_m1
          try simp only [Bool.not_eq_true', Bool.not_eq_false', decide_eq_true_eq, decide_eq_false_iff_not] at h14
          have y31 := hb31.size
          have z31 := hk31.size; have o31 := hk31.own
          simp only [List.mem_cons, List.not_mem_nil, or_false, forall_eq_or_imp, forall_eq] at o31
          have LP_31 := LP.ko hk31 (allc (.inl (by omega)) (allc (.inl (by omega)) (allc (.inl (by omega)) all0)))
          have FF_31 := FF.chg (Chg.kept hk31) (fun _ h => h)
          exact ⟨by rw [decide_eq_false (show ¬ x15 = 0 by assumption), Bool.false_or, decide_eq_false (show ¬ x15 < (U.length : Int) by omega), Bool.false_and], by omega, rfl, rfl, LP_31, FF_31⟩
    rintro t2 a12 m80 m81 a13 m82 m83 w32 hb32 ⟨ht2, zB2, rfl, rfl, LP, FF⟩
    have y32 := hb32.size
    refine ⟨?_, ?_⟩
    · intro h15 m84 g_m84
      try simp only [Bool.not_eq_true', Bool.not_eq_false', decide_eq_true_eq, decide_eq_false_iff_not] at h15
      have h2t := ht2.symm.trans (by assumption : t2 = true)
      simp only [Bool.or_eq_true, Bool.and_eq_true, decide_eq_true_eq] at h2t
      refine ⟨fun ls w' => match ls with | [.sl a n c, .sl a2 n2 c2, .int _ u0, .int _ u1, .int _ u2, .int _ u3] => ByteQ (u0, u1, u2, u3) ∧ B2 ≤ w'.heap.size ∧ n = ps.length ∧ n2 = fs.length ∧ LiesS B w8.heap.size w' a ps ∧ RowE 67 6 B2 [m84, m3, m2, m1] a2 n2 c2 (fitsV fs) w' | _ => False, ?_, ?_⟩
      · refine ⟨?_, ?_⟩
        · intro h16
          try simp only [Bool.not_eq_true', Bool.not_eq_false', decide_eq_true_eq, decide_eq_false_iff_not] at h16
          refine load_quad hU0 hb32 (by omega) fun m85 m86 hm2 => ?_
          refine ⟨(by first | omega | (simp only; omega)), ?_⟩
          intro w34 hb34 hk34 hc34_m1
          have y34 := hb34.size
          have z34 := hk34.size; have o34 := hk34.own
          simp only [List.mem_cons, List.not_mem_nil, or_false, forall_eq_or_imp, forall_eq] at o34
          have LP_34 := LP.ko hk34 (allc (.inr (by omega)) (allc (.inl (by omega)) (allc (.inl (by omega)) (allc (.inl (by omega)) all0))))
          have FF_34 := (FF.grow (ms := [m84]) (allc g_m84 all0)).chg (Chg.kept hk34) (fun _ h => h)
          exact ⟨quad_bd hU _, by omega, rfl, rfl, LP_34, FF_34⟩
        · intro h17 w35 hb35 hk35
          try simp only [Bool.not_eq_true', Bool.not_eq_false', decide_eq_true_eq, decide_eq_false_iff_not] at h17
          have y35 := hb35.size
          have z35 := hk35.size; have o35 := hk35.own
          simp only [List.mem_cons, List.not_mem_nil, or_false, forall_eq_or_imp, forall_eq] at o35
          have LP_35 := LP.ko hk35 (allc (.inr (by omega)) (allc (.inl (by omega)) (allc (.inl (by omega)) (allc (.inl (by omega)) all0))))
          have FF_35 := (FF.grow (ms := [m84]) (allc g_m84 all0)).chg (Chg.kept hk35) (fun _ h => h)
          exact ⟨by unfold ByteQ; simp, by omega, rfl, rfl, LP_35, FF_35⟩
      rintro a14 m88 m89 a15 m90 m91 x21 x22 x23 x24 w36 hb36 ⟨hbq, zB2, rfl, rfl, LP, FF⟩
      have y36 := hb36.size
      have hq := hbq
      unfold ByteQ at hq
      simp only at hq
      have qa := tmod_bd (b := (ps.length : Int)) hq.1.1 (by omega)
      have qb := tmod_bd (b := (ps.length : Int) - 1) hq.2.1.1 (by omega)
      have qc := tmod_bd (a := x21.tmod (ps.length : Int) + 1 + x22.tmod ((ps.length : Int) - 1)) (b := (ps.length : Int)) (by omega) (by omega)
      have pa := okP_get hP qa
      have pc := okP_get hP qc
      have na := pa.1
      have nc := pc.1
      have d25 : 0 ≤ x21.tdiv 16 ∧ x21.tdiv 16 ≤ 255 := tdiv_bd hq.1
      have d26 : 0 ≤ x22.tdiv 16 ∧ x22.tdiv 16 ≤ 255 := tdiv_bd hq.2.1
      have qd := tmod_bd (b := ((ps.getD (x21.tmod (ps.length : Int)).toNat []).length : Int)) d25.1 (by omega)
      have qe := tmod_bd (b := ((ps.getD ((x21.tmod (ps.length : Int) + 1 + x22.tmod ((ps.length : Int) - 1)).tmod (ps.length : Int)).toNat []).length : Int)) d26.1 (by omega)
      have sa := okP_span pa qd
      have sc := okP_span pc qe
      have q27 := tmod_bd (b := 8) hq.2.2.1.1 (by omega)
      have q28 := tmod_bd (b := 8) hq.2.2.2.1 (by omega)
      have hne := shift_ne (n := (ps.length : Int)) hq.1.1 hq.2.1.1 (by omega)
      have hnf : OkF ps ⟨x21.tmod (ps.length : Int), (x21.tdiv 16).tmod ((ps.getD (x21.tmod (ps.length : Int)).toNat []).length : Int), (x21.tmod (ps.length : Int) + 1 + x22.tmod ((ps.length : Int) - 1)).tmod (ps.length : Int), (x22.tdiv 16).tmod ((ps.getD ((x21.tmod (ps.length : Int) + 1 + x22.tmod ((ps.length : Int) - 1)).tmod (ps.length : Int)).toNat []).length : Int), (((ps.getD (x21.tmod (ps.length : Int)).toNat []).getD ((x21.tdiv 16).tmod ((ps.getD (x21.tmod (ps.length : Int)).toNat []).length : Int)).toNat (0, 0)).1 - ((ps.getD ((x21.tmod (ps.length : Int) + 1 + x22.tmod ((ps.length : Int) - 1)).tmod (ps.length : Int)).toNat []).getD ((x22.tdiv 16).tmod ((ps.getD ((x21.tmod (ps.length : Int) + 1 + x22.tmod ((ps.length : Int) - 1)).tmod (ps.length : Int)).toNat []).length : Int)).toNat (0, 0)).2 + x23.tmod 8 - 4, max (((ps.getD (x21.tmod (ps.length : Int)).toNat []).getD ((x21.tdiv 16).tmod ((ps.getD (x21.tmod (ps.length : Int)).toNat []).length : Int)).toNat (0, 0)).1 - ((ps.getD ((x21.tmod (ps.length : Int) + 1 + x22.tmod ((ps.length : Int) - 1)).tmod (ps.length : Int)).toNat []).getD ((x22.tdiv 16).tmod ((ps.getD ((x21.tmod (ps.length : Int) + 1 + x22.tmod ((ps.length : Int) - 1)).tmod (ps.length : Int)).toNat []).length : Int)).toNat (0, 0)).2 + x23.tmod 8 - 4) (((ps.getD (x21.tmod (ps.length : Int)).toNat []).getD ((x21.tdiv 16).tmod ((ps.getD (x21.tmod (ps.length : Int)).toNat []).length : Int)).toNat (0, 0)).2 - ((ps.getD ((x21.tmod (ps.length : Int) + 1 + x22.tmod ((ps.length : Int) - 1)).tmod (ps.length : Int)).toNat []).getD ((x22.tdiv 16).tmod ((ps.getD ((x21.tmod (ps.length : Int) + 1 + x22.tmod ((ps.length : Int) - 1)).tmod (ps.length : Int)).toNat []).length : Int)).toNat (0, 0)).1 + x24.tmod 8 - 4))⟩ := ⟨hne, ⟨qa, qd⟩, ⟨qc, qe⟩, by simp only; omega⟩
      refine ⟨(by first | omega | (simp only; omega)), (by first | omega | (simp only; omega)), ?_⟩
      intro m92 g_m92
      refine ⟨(by first | omega | (simp only; omega)), (by first | omega | (simp only; omega)), (by first | omega | (simp only; omega)), (by first | omega | (simp only; omega)), (by first | omega | (simp only; omega)), (by first | omega | (simp only; omega)), (by first | omega | (simp only; omega)), (by first | omega | (simp only; omega)), ?_⟩
      refine load_patL LP (by omega) fun m93 m94 hm3 a16 m96 hs3 => ?_
      have hs3_36 := hs3
      refine ⟨(by first | omega | (simp only; omega)), (by first | omega | (simp only; omega)), (by first | omega | (simp only; omega)), (by first | omega | (simp only; omega)), ?_⟩
      refine load_patL LP (by omega) fun m97 m98 hm4 a17 m100 hs4 => ?_
      have hs4_36 := hs4
      refine ⟨(by first | omega | (simp only; omega)), (by first | omega | (simp only; omega)), ?_⟩
      refine load_patL LP (by omega) fun m101 m102 hm5 a18 m104 hs5 => ?_
      have hs5_36 := hs5
      refine ⟨(by first | omega | (simp only; omega)), ?_⟩
      refine load_spanL hs5_36 (by omega) fun m105 m106 hm6 => ?_
      refine ⟨(by first | omega | (simp only; omega)), ?_⟩
      intro m107 g_m107 m108 g_m108
      refine load_patL LP (by omega) fun m109 m110 hm7 a19 m112 hs7 => ?_
      have hs7_36 := hs7
      refine ⟨(by first | omega | (simp only; omega)), ?_⟩
      refine load_spanL hs7_36 (by omega) fun m113 m114 hm8 => ?_
      refine ⟨(by first | omega | (simp only; omega)), (by first | omega | (simp only; omega)), (by first | omega | (simp only; omega)), (by first | omega | (simp only; omega)), (by first | omega | (simp only; omega)), (by first | omega | (simp only; omega)), (by first | omega | (simp only; omega)), (by first | omega | (simp only; omega)), (by first | omega | (simp only; omega)), (by first | omega | (simp only; omega)), (by first | omega | (simp only; omega)), ?_⟩
      intro w37 hb37 hk37
      have y37 := hb37.size
      have z37 := hk37.size; have o37 := hk37.own
      simp only [List.mem_cons, List.not_mem_nil, or_false, forall_eq_or_imp, forall_eq] at o37
      have LP_37 := LP.ko hk37 (allc (.inr (by omega)) (allc (.inr (by omega)) (allc (.inr (by omega)) (allc (.inr (by omega)) (allc (.inl (by omega)) (allc (.inl (by omega)) (allc (.inl (by omega)) all0)))))))
      have hs3_37 := hs3_36.ko hk37 (allc (.inr (by omega)) (allc (.inr (by omega)) (allc (.inr (by omega)) (allc (.inr (by omega)) (allc (.inl (by omega)) (allc (.inl (by omega)) (allc (.inl (by omega)) all0)))))))
      have hs4_37 := hs4_36.ko hk37 (allc (.inr (by omega)) (allc (.inr (by omega)) (allc (.inr (by omega)) (allc (.inr (by omega)) (allc (.inl (by omega)) (allc (.inl (by omega)) (allc (.inl (by omega)) all0)))))))
      have hs5_37 := hs5_36.ko hk37 (allc (.inr (by omega)) (allc (.inr (by omega)) (allc (.inr (by omega)) (allc (.inr (by omega)) (allc (.inl (by omega)) (allc (.inl (by omega)) (allc (.inl (by omega)) all0)))))))
      have hs7_37 := hs7_36.ko hk37 (allc (.inr (by omega)) (allc (.inr (by omega)) (allc (.inr (by omega)) (allc (.inr (by omega)) (allc (.inl (by omega)) (allc (.inl (by omega)) (allc (.inl (by omega)) all0)))))))
      have FF_37 := (FF.grow (ms := [m108, m107, m92]) (allc g_m108 (allc g_m107 (allc g_m92 all0)))).chg (Chg.kept hk37) (fun _ h => h)
      refine Pure.calls (span_any2 _ _) fun w38 hd38 => ?_
      have hb38 := hb37.trans (hd38.mono hb37.size)
      have z38 := hd38.size
      have LP_38 := LP_37.below hd38
      have hs3_38 := hs3_37.below hd38
      have hs4_38 := hs4_37.below hd38
      have hs5_38 := hs5_37.below hd38
      have hs7_38 := hs7_37.below hd38
      have FF_38 := FF_37.below hd38
      refine ⟨_, _, rfl, .all hd38, ?_⟩
      intro m116 g_m116 w39 hb39 hk39 hc39_m116
      have y39 := hb39.size
      have z39 := hk39.size; have o39 := hk39.own
      simp only [List.mem_cons, List.not_mem_nil, or_false, forall_eq_or_imp, forall_eq] at o39
      have LP_39 := LP_38.ko hk39 (allc (.inr (by omega)) (allc (.inr (by omega)) (allc (.inr (by omega)) (allc (.inr (by omega)) (allc (.inr (by omega)) (allc (.inl (by omega)) (allc (.inl (by omega)) (allc (.inl (by omega)) all0))))))))
      have hs3_39 := hs3_38.ko hk39 (allc (.inr (by omega)) (allc (.inr (by omega)) (allc (.inr (by omega)) (allc (.inr (by omega)) (allc (.inr (by omega)) (allc (.inl (by omega)) (allc (.inl (by omega)) (allc (.inl (by omega)) all0))))))))
      have hs4_39 := hs4_38.ko hk39 (allc (.inr (by omega)) (allc (.inr (by omega)) (allc (.inr (by omega)) (allc (.inr (by omega)) (allc (.inr (by omega)) (allc (.inl (by omega)) (allc (.inl (by omega)) (allc (.inl (by omega)) all0))))))))
      have hs5_39 := hs5_38.ko hk39 (allc (.inr (by omega)) (allc (.inr (by omega)) (allc (.inr (by omega)) (allc (.inr (by omega)) (allc (.inr (by omega)) (allc (.inl (by omega)) (allc (.inl (by omega)) (allc (.inl (by omega)) all0))))))))
      have hs7_39 := hs7_38.ko hk39 (allc (.inr (by omega)) (allc (.inr (by omega)) (allc (.inr (by omega)) (allc (.inr (by omega)) (allc (.inr (by omega)) (allc (.inl (by omega)) (allc (.inl (by omega)) (allc (.inl (by omega)) all0))))))))
      have FF_39 := (FF_38.grow (ms := [m116]) (allc g_m116 all0)).chg (Chg.kept hk39) (fun _ h => h)
      refine append_rowE (P := Try.prog) (bytes := 48) (by kernel_rfl) (by omega) FF_39 (m := 1) (news := [I _, I _, I _, I _, I _, I _]) (Cells.obj (vs := [I _, I _, I _, I _, I _, I _]) hc39_m116) rfl (List.forall_mem_cons.2 ⟨rfl, List.forall_mem_cons.2 ⟨rfl, List.forall_mem_cons.2 ⟨rfl, List.forall_mem_cons.2 ⟨rfl, List.forall_mem_cons.2 ⟨rfl, List.forall_mem_cons.2 ⟨rfl, by simp⟩⟩⟩⟩⟩⟩) (by omega) (by omega) (by have := hb39.size; omega) hk39.own (by omega) fun aR40 cR40 w40 FF_40r S40 cS40 hS40 => ?_
      have FF_40 : RowE _ _ _ _ _ _ _ _ _ := .inr FF_40r
      have z40 := cS40.size
      have kx40 : KeepX true w.heap.size [m116, m108, m107, m92, m84, m3, m2, m1] (fun _ => False) w39 w40 := cS40.own (fun x hx => ⟨hk39.own x hx, fun h => (hS40 x h).2 hx⟩) (by simp) (fun _ => ⟨hb39.size, fun x hx => by have := (hS40 x hx).1; omega⟩)
      have LP_40 := LP_39.out cS40 (fun x hx => by have := (hS40 x hx).1; omega)
      have hs3_40 := hs3_39.out cS40 (fun x hx => by have := (hS40 x hx).1; omega)
      have hs4_40 := hs4_39.out cS40 (fun x hx => by have := (hS40 x hx).1; omega)
      have hs5_40 := hs5_39.out cS40 (fun x hx => by have := (hS40 x hx).1; omega)
      have hs7_40 := hs7_39.out cS40 (fun x hx => by have := (hS40 x hx).1; omega)
      refine ⟨_, _, _, rfl, kx40, (by first | omega | (simp only; omega)), ?_⟩
      intro w41 hb41 hk41 hc41_m84 hc41_m92 hc41_m107 hc41_m108 hc41_m1 hc41_m84' hc41_m3 hc41_m92' hc41_m84' hc41_m3' hc41_m3' hc41_m92' hc41_m84' hc41_m3' hc41_m92' hc41_m84' hc41_m3' hc41_m92' hc41_m92' hc41_m92' hc41_m3' hc41_m92' hc41_m92' hc41_m3' hc41_m92' hc41_m92' hc41_m107' hc41_m108' hc41_m84' hc41_m107' hc41_m108' hc41_m84' hc41_m92' hc41_m3' hc41_m116 hc41_m3'
      have y41 := hb41.size
      have z41 := hk41.size; have o41 := hk41.own
      simp only [List.mem_cons, List.not_mem_nil, or_false, forall_eq_or_imp, forall_eq] at o41
      have LP_41 := LP_40.ko hk41 (allc (.inr (by omega)) (allc (.inr (by omega)) (allc (.inr (by omega)) (allc (.inr (by omega)) (allc (.inr (by omega)) (allc (.inl (by omega)) (allc (.inl (by omega)) (allc (.inl (by omega)) all0))))))))
      have hs3_41 := hs3_40.ko hk41 (allc (.inr (by omega)) (allc (.inr (by omega)) (allc (.inr (by omega)) (allc (.inr (by omega)) (allc (.inr (by omega)) (allc (.inl (by omega)) (allc (.inl (by omega)) (allc (.inl (by omega)) all0))))))))
      have hs4_41 := hs4_40.ko hk41 (allc (.inr (by omega)) (allc (.inr (by omega)) (allc (.inr (by omega)) (allc (.inr (by omega)) (allc (.inr (by omega)) (allc (.inl (by omega)) (allc (.inl (by omega)) (allc (.inl (by omega)) all0))))))))
      have hs5_41 := hs5_40.ko hk41 (allc (.inr (by omega)) (allc (.inr (by omega)) (allc (.inr (by omega)) (allc (.inr (by omega)) (allc (.inr (by omega)) (allc (.inl (by omega)) (allc (.inl (by omega)) (allc (.inl (by omega)) all0))))))))
      have hs7_41 := hs7_40.ko hk41 (allc (.inr (by omega)) (allc (.inr (by omega)) (allc (.inr (by omega)) (allc (.inr (by omega)) (allc (.inr (by omega)) (allc (.inl (by omega)) (allc (.inl (by omega)) (allc (.inl (by omega)) all0))))))))
      have FF_41 := FF_40.chg (Chg.kept hk41) (fun _ h => h)
      refine ⟨?_, (by first | omega | (simp only; omega))⟩
      exact ⟨B2, fs ++ [⟨x21.tmod (ps.length : Int), (x21.tdiv 16).tmod ((ps.getD (x21.tmod (ps.length : Int)).toNat []).length : Int), (x21.tmod (ps.length : Int) + 1 + x22.tmod ((ps.length : Int) - 1)).tmod (ps.length : Int), (x22.tdiv 16).tmod ((ps.getD ((x21.tmod (ps.length : Int) + 1 + x22.tmod ((ps.length : Int) - 1)).tmod (ps.length : Int)).toNat []).length : Int), (((ps.getD (x21.tmod (ps.length : Int)).toNat []).getD ((x21.tdiv 16).tmod ((ps.getD (x21.tmod (ps.length : Int)).toNat []).length : Int)).toNat (0, 0)).1 - ((ps.getD ((x21.tmod (ps.length : Int) + 1 + x22.tmod ((ps.length : Int) - 1)).tmod (ps.length : Int)).toNat []).getD ((x22.tdiv 16).tmod ((ps.getD ((x21.tmod (ps.length : Int) + 1 + x22.tmod ((ps.length : Int) - 1)).tmod (ps.length : Int)).toNat []).length : Int)).toNat (0, 0)).2 + x23.tmod 8 - 4, max (((ps.getD (x21.tmod (ps.length : Int)).toNat []).getD ((x21.tdiv 16).tmod ((ps.getD (x21.tmod (ps.length : Int)).toNat []).length : Int)).toNat (0, 0)).1 - ((ps.getD ((x21.tmod (ps.length : Int) + 1 + x22.tmod ((ps.length : Int) - 1)).tmod (ps.length : Int)).toNat []).getD ((x22.tdiv 16).tmod ((ps.getD ((x21.tmod (ps.length : Int) + 1 + x22.tmod ((ps.length : Int) - 1)).tmod (ps.length : Int)).toNat []).length : Int)).toNat (0, 0)).2 + x23.tmod 8 - 4) (((ps.getD (x21.tmod (ps.length : Int)).toNat []).getD ((x21.tdiv 16).tmod ((ps.getD (x21.tmod (ps.length : Int)).toNat []).length : Int)).toNat (0, 0)).2 - ((ps.getD ((x21.tmod (ps.length : Int) + 1 + x22.tmod ((ps.length : Int) - 1)).tmod (ps.length : Int)).toNat []).getD ((x22.tdiv 16).tmod ((ps.getD ((x21.tmod (ps.length : Int) + 1 + x22.tmod ((ps.length : Int) - 1)).tmod (ps.length : Int)).toNat []).length : Int)).toNat (0, 0)).1 + x24.tmod 8 - 4))⟩], ⟨by omega, by omega, by omega, by omega, by omega⟩, rfl, by rw [List.length_append]; rfl, ⟨by rw [List.length_append, List.length_singleton]; omega, by omega⟩, fun q hq2 => by
        rcases List.mem_append.1 hq2 with hq2 | hq2
        · exact hF q hq2
        · obtain rfl := List.mem_singleton.1 hq2
          exact hnf, LP_41, by rw [fitsV_append]; exact FF_41.less (by simp)⟩
    · intro h18 w42 hb42 hk42
      try simp only [Bool.not_eq_true', Bool.not_eq_false', decide_eq_true_eq, decide_eq_false_iff_not] at h18
      have y42 := hb42.size
      have z42 := hk42.size; have o42 := hk42.own
      simp only [List.mem_cons, List.not_mem_nil, or_false, forall_eq_or_imp, forall_eq] at o42
      have LP_42 := LP.ko hk42 (allc (.inl (by omega)) (allc (.inl (by omega)) (allc (.inl (by omega)) all0)))
      have FF_42 := FF.chg (Chg.kept hk42) (fun _ h => h)
      exact ⟨⟨ps, fs⟩, _, _, _, _, by rfl, hb42, ⟨hn4, hP, ⟨by show 1 ≤ fs.length; have h2f := ht2.symm.trans (by assumption : t2 = false); simp only [Bool.or_eq_false_iff, decide_eq_false_iff_not] at h2f; omega, by show fs.length ≤ 4; omega⟩, hF⟩, LP_42.wide (by omega) (by omega), rowE_lies FF_42 (by omega)⟩
end Go.Proofs.R12
end
section
/- Patterns whose rows lie in blocks of their own, and can be written. -/
namespace Go.Proofs.R12
open Go.Vc Go.RowKit Go.Proofs
/-- A block that begins with these sizes. -/
def InD (d : Nat) (p : List Sp) (w : World) : Prop := ∃ cs : List Value, w.heap[d]? = some (.cells cs.toArray 42 (0, 0)) ∧ spansV p <+: cs
theorem InD.lt {d : Nat} {p : List Sp} {w : World} (h : InD d p w) : d < w.heap.size := by
  obtain ⟨cs, h, _⟩ := h; exact lt_of_some h
theorem InD.chg {d : Nat} {p : List Sp} {w w' : World} {S : List Nat} (h : InD d p w) (hc : Chg S w w') (hd : d ∉ S) : InD d p w' := by
  have hl := h.lt
  obtain ⟨cs, h, hp⟩ := h
  exact ⟨cs, by rw [hc.keep d hl hd]; exact h, hp⟩
theorem InD.cells {d : Nat} {p : List Sp} {w : World} (h : InD d p w) : Cells w (some ⟨d, 0, none⟩) (spansV p) := fun i v hi => by
  obtain ⟨cs, h, r, rfl⟩ := h
  refine ⟨d, 0, rfl, ?_⟩
  rw [Nat.zero_add]
  refine cell_obj (vs := spansV p ++ r) h ?_
  rw [List.getElem?_append_left (List.getElem?_eq_some_iff.1 hi).1]; exact hi
theorem InD.of {w : World} {a : Option Addr} {n c B : Nat} {p : List Sp} (hn : 0 < n) (h : n = 0 ∨ Row 42 2 B [] a n c (spansV p) w) : ∃ d, a = some ⟨d, 0, none⟩ ∧ (B ≤ d ∧ d < w.heap.size) ∧ InD d p w := by
  have h := h.resolve_left (by omega)
  rcases h.own.2 with ⟨he, h0⟩ | ⟨g, cap, cur, he, _, hg, _, _, _, ht⟩
  · omega
  · simp only [Value.slice.injEq] at he
    have hl := h.lt g 0 (by rw [he.1])
    refine ⟨g, he.1, hl, cur.toList, by simpa using hg, ?_⟩
    rw [← ht]; exact List.take_prefix _ _
abbrev DEl := Nat × Nat × List Sp
def dVals (xs : List DEl) : List Value := xs.map fun x => .slice (some ⟨x.1, 0, none⟩) x.2.2.length x.2.1
structure DRow (B : Nat) (own : List Nat) (a : Option Addr) (n c : Nat) (xs : List DEl) (qs : List (Nat × List Sp)) (w : World) : Prop where
  len : n = xs.length
  nd : (xs.map (·.1) ++ qs.map (·.1)).Nodup
  r : ∀ d ∈ xs.map (·.1) ++ qs.map (·.1), B ≤ d ∧ d < w.heap.size ∧ d ∉ own
  row : RowE 89 1 B (own ++ (xs.map (·.1) ++ qs.map (·.1))) a n c (dVals xs) w
  el : ∀ x ∈ xs, InD x.1 x.2.2 w
  q : ∀ x ∈ qs, InD x.1 x.2 w
section
variable {B n c : Nat} {own : List Nat} {a : Option Addr} {xs : List DEl} {qs : List (Nat × List Sp)} {w w' : World}
theorem DRow.of (h : RowE 89 1 B own a 0 c [] w) : DRow B own a 0 c [] [] w := ⟨rfl, by simp, by simp, by simpa [dVals] using h, by simp, by simp⟩
theorem DRow.chg {S : List Nat} (h : DRow B own a n c xs qs w) (hc : Chg S w w') (hs : ∀ x ∈ S, x ∈ own) : DRow B own a n c xs qs w' :=
  ⟨h.len, h.nd, fun d hd => ⟨(h.r d hd).1, Nat.lt_of_lt_of_le (h.r d hd).2.1 hc.size, (h.r d hd).2.2⟩, h.row.chg hc fun x hx => List.mem_append_left _ (hs x hx),
   fun x hx => (h.el x hx).chg hc fun hm => (h.r x.1 (List.mem_append_left _ (List.mem_map.2 ⟨x, hx, rfl⟩))).2.2 (hs _ hm), fun x hx => (h.q x hx).chg hc fun hm => (h.r x.1 (List.mem_append_right _ (List.mem_map.2 ⟨x, hx, rfl⟩))).2.2 (hs _ hm)⟩
theorem DRow.grow (h : DRow B own a n c xs qs w) {ms : List Nat} (hm : ∀ m ∈ ms, w.heap.size ≤ m) : DRow B (ms ++ own) a n c xs qs w :=
  ⟨h.len, h.nd, fun d hd => ⟨(h.r d hd).1, (h.r d hd).2.1, fun hx => by
    rcases List.mem_append.1 hx with hx | hx
    · have := hm d hx; have := (h.r d hd).2.1; omega
    · exact (h.r d hd).2.2 hx⟩, by rw [List.append_assoc]; exact h.row.grow hm, h.el, h.q⟩
theorem DRow.less {own' : List Nat} (h : DRow B own a n c xs qs w) (ho : ∀ x ∈ own', x ∈ own) : DRow B own' a n c xs qs w :=
  ⟨h.len, h.nd, fun d hd => ⟨(h.r d hd).1, (h.r d hd).2.1, fun hx => (h.r d hd).2.2 (ho d hx)⟩, h.row.less fun x hx => by
    rcases List.mem_append.1 hx with hx | hx
    · exact List.mem_append_left _ (ho x hx)
    · exact List.mem_append_right _ hx, h.el, h.q⟩
theorem DRow.sub (h : DRow B own a n c xs [] w) (hb : Below w.heap.size w w') {d : Nat} {p : List Sp} (hd : w.heap.size ≤ d ∧ d < w'.heap.size) (hp : InD d p w') (hB : B ≤ w.heap.size) (ho : ∀ y ∈ own, y < w.heap.size) : DRow B own a n c xs [(d, p)] w' := by
  have hc : Chg [] w w' := Chg.of_below hb
  have hr := h.r; have hnd := h.nd
  simp only [List.map_nil, List.append_nil] at hr hnd
  have hrow := ((h.row.grow (ms := [d]) (fun m hm => by rw [List.mem_singleton.1 hm]; exact hd.1)).below hb)
  refine ⟨h.len, ?_, fun x hx => ?_, hrow.less fun x hx => ?_, fun x hx => (h.el x hx).chg hc (by simp), fun x hx => ?_⟩
  · refine List.nodup_append.2 ⟨hnd, by simp, fun x hx y hy => ?_⟩
    simp only [List.map_cons, List.map_nil, List.mem_singleton] at hy
    have := (hr x hx).2.1; omega
  · rcases List.mem_append.1 hx with hx | hx
    · exact ⟨(hr x hx).1, Nat.lt_of_lt_of_le (hr x hx).2.1 hb.size, (hr x hx).2.2⟩
    · simp only [List.map_cons, List.map_nil, List.mem_singleton] at hx
      subst hx
      exact ⟨by omega, hd.2, fun hm => by have := ho _ hm; omega⟩
  · simp only [List.mem_append, List.map_cons, List.map_nil, List.mem_cons, List.not_mem_nil, or_false, List.append_nil] at hx ⊢
    rcases hx with hx | hx | hx
    · exact .inr (.inl hx)
    · exact .inr (.inr hx)
    · exact .inl hx
  · rw [List.mem_singleton.1 hx]; exact hp
theorem DRow.append {d : Nat} {p : List Sp} {b o cc k : Nat} (h : DRow B own a n c xs [(d, p)] w) (hc : Cells w (some ⟨b, o, none⟩) [.slice (some ⟨d, 0, none⟩) p.length k]) (hn1 : n + 1 ≤ 140737488355328) (hn : (n + 1) * 24 ≤ 140737488355328) (hB : B ≤ w.heap.size) (ho : ∀ y ∈ own, y < w.heap.size) {R : Value → World → Prop}
    (hR : ∀ a2 c2 w', DRow B own a2 (n + 1) c2 (xs ++ [(d, k, p)]) [] w' → ∀ S, Chg S w w' → (∀ s ∈ S, B ≤ s ∧ s ∉ own) → R (.slice a2 (n + 1) c2) w') :
    RunsTo Try.prog (Builtin.append_ #[22, 22] 22 #[.slice a n c, .slice (some ⟨b, o, none⟩) 1 cc]) w R := by
  refine append_rowE (P := Try.prog) (bytes := 24) (by kernel_rfl) (by omega) h.row (m := 1) (news := [.slice (some ⟨d, 0, none⟩) p.length k]) hc rfl (List.forall_mem_cons.2 ⟨rfl, by simp⟩) hn1 hn hB (fun y hy => by
    rcases List.mem_append.1 hy with hy | hy
    · exact ho y hy
    · exact (h.r y hy).2.1) (by omega) fun a2 c2 w' hrow S cS hS => ?_
  have hN : ∀ x, x ∈ (xs.map (·.1) ++ [(d, p)].map (·.1)) → x ∉ S := fun x hx hm => (hS x hm).2 (List.mem_append_right _ hx)
  have e : (xs ++ [(d, k, p)]).map (·.1) ++ ([] : List (Nat × List Sp)).map (·.1) = xs.map (·.1) ++ [(d, p)].map (·.1) := by simp
  refine hR a2 c2 w' ⟨by rw [List.length_append, ← h.len]; rfl, by rw [e]; exact h.nd, fun x hx => ?_, ?_, fun x hx => ?_, by simp⟩ S cS fun s hs => ⟨(hS s hs).1, fun hm => (hS s hs).2 (List.mem_append_left _ hm)⟩
  · rw [e] at hx
    exact ⟨(h.r x hx).1, Nat.lt_of_lt_of_le (h.r x hx).2.1 cS.size, (h.r x hx).2.2⟩
  · rw [e]
    right; simpa [dVals] using hrow
  · rcases List.mem_append.1 hx with hx | hx
    · exact (h.el x hx).chg cS (hN _ (List.mem_append_left _ (List.mem_map.2 ⟨x, hx, rfl⟩)))
    · rw [List.mem_singleton.1 hx]
      exact (h.q (d, p) (by simp)).chg cS (hN _ (by simp))
end
end Go.Proofs.R12
end
section
/- The copy of works, with rows that can be written. -/
namespace Go.Proofs.R12
open Go.Vc Go.RowKit Go.Proofs
structure PatsD (lo hi : Nat) (w : World) (a : Option Addr) (xs : List DEl) : Prop where
  blk : xs ≠ [] → ∀ b o, a = some ⟨b, o, none⟩ → (lo ≤ b ∧ b < hi) ∧ b ∉ xs.map (·.1)
  c : Cells w a (dVals xs)
  nd : (xs.map (·.1)).Nodup
  r : ∀ d ∈ xs.map (·.1), lo ≤ d ∧ d < hi
  el : ∀ x ∈ xs, InD x.1 x.2.2 w
theorem DRow.patsD {B n c lo : Nat} {own : List Nat} {a : Option Addr} {xs : List DEl} {w : World} (h : DRow B own a n c xs [] w) (hB : lo ≤ B) : PatsD lo w.heap.size w a xs := by
  have hr := h.r; have hnd := h.nd; have hrow := h.row
  simp only [List.map_nil, List.append_nil] at hr hnd hrow
  by_cases h0 : xs = []
  · subst h0
    exact ⟨fun h => absurd rfl h, Cells.nil, by simp, by simp, by simp⟩
  · have hrow := hrow.resolve_left fun hh => h0 (by have := hh.2.2.2; simpa [dVals] using this)
    exact ⟨fun _ b o e => ⟨by have := hrow.lt b o e; omega, fun hm => hrow.ns b o e (List.mem_append_right _ hm)⟩, hrow.cells, hnd, fun d hd => by have := hr d hd; omega, h.el⟩
def FitsD (lo hi : Nat) (w : World) (a : Option Addr) (fs : List Fit) : Prop := ∃ d, a = some ⟨d, 0, none⟩ ∧ (lo ≤ d ∧ d < hi) ∧ ∃ cs : List Value, w.heap[d]? = some (.cells cs.toArray 67 (0, 0)) ∧ fitsV fs <+: cs
section
variable {lo hi : Nat} {w w' : World} {a : Option Addr} {fs : List Fit}
theorem FitsD.out {S : List Nat} (h : FitsD lo hi w a fs) (hc : Chg S w w') (hs : ∀ x ∈ S, x < lo ∨ hi ≤ x) : FitsD lo hi w' a fs := by
  obtain ⟨d, e, hd, cs, h1, h2⟩ := h
  exact ⟨d, e, hd, cs, by rw [hc.keep d (lt_of_some h1) fun hm => by have := hs d hm; omega]; exact h1, h2⟩
theorem FitsD.ko {bs : List Nat} (h : FitsD lo hi w a fs) (hk : Kept bs w w') (hs : ∀ x ∈ bs, x < lo ∨ hi ≤ x) : FitsD lo hi w' a fs := h.out (Chg.kept hk) hs
theorem FitsD.below (h : FitsD lo hi w a fs) (hb : Below w.heap.size w w') : FitsD lo hi w' a fs := h.out (S := []) (Chg.of_below hb) (by simp)
theorem FitsD.to {lo' hi' : Nat} (h : FitsD lo hi w a fs) (h1 : lo' ≤ lo) (h2 : hi ≤ hi') : FitsD lo' hi' w a fs := by
  obtain ⟨d, e, hd, r⟩ := h
  exact ⟨d, e, ⟨by omega, by omega⟩, r⟩
theorem FitsD.of {n c B : Nat} (hn : 0 < n) (h : n = 0 ∨ Row 67 6 B [] a n c (fitsV fs) w) : FitsD B w.heap.size w a fs := by
  have h := h.resolve_left (by omega)
  rcases h.own.2 with ⟨he, h0⟩ | ⟨g, cap, cur, he, _, hg, _, _, _, ht⟩
  · omega
  · simp only [Value.slice.injEq] at he
    have hl := h.lt g 0 (by rw [he.1])
    exact ⟨g, he.1, hl, cur.toList, by simpa using hg, by rw [← ht]; exact List.take_prefix _ _⟩
end
theorem FitsD.kio {lo hi : Nat} {w w' : World} {a : Option Addr} {fs : List Fit} {rs : List (Nat × Nat)} {bs : List Nat} (h : FitsD lo hi w a fs) (hk : KeptIn rs bs w w') (hs : ∀ x ∈ bs, x < lo ∨ hi ≤ x) (hin : ∃ r ∈ rs, r.1 ≤ lo ∧ hi ≤ r.2) : FitsD lo hi w' a fs := by
  obtain ⟨d, e, hd, cs, h1, h2⟩ := h
  obtain ⟨r, hr, hr1, hr2⟩ := hin
  exact ⟨d, e, hd, cs, by rw [hk.block d (lt_of_some h1) (fun hm => by have := hs d hm; omega) ⟨r, hr, by omega, by omega⟩]; exact h1, h2⟩
set_option maxRecDepth 100000 in
theorem works_d {w : World} {W : Wk} {pa fa : Option Addr} {pc fc : Nat} (hp : CellsS w pa W.pats) (hf : Cells w fa (fitsV W.fits)) (hW : ShopW W) : Calls Try.prog 15 #[W.v pa pc fa fc] w (fun e w' => ∃ pa' pc' fa' fc' xs mid, e = .returned (W.v pa' pc' fa' fc') ∧ Below w.heap.size w w' ∧ (xs.map (·.2.2) = W.pats ∧ (w.heap.size ≤ mid ∧ mid ≤ w'.heap.size) ∧ PatsD mid w'.heap.size w' pa' xs) ∧ FitsD w.heap.size mid w' fa' W.fits) := by
  have hS := hW.small
  have hm := hS.m; have hn := hS.n
  refine vc15 _ _ _ _ _ _ w _ ?_
  intro m1 g_m1 m2 g_m2 m3 g_m3 w1 hb1 hk1 hc1_m3
  have y1 := hb1.size
  have z1 := hk1.size; have o1 := hk1.own
  simp only [List.mem_cons, List.not_mem_nil, or_false, forall_eq_or_imp, forall_eq] at o1
  refine append_copy (P := Try.prog) (e := 67) (bytes := 48) (size := 6) (by kernel_rfl) (by omega) (hf.keep hb1) (fitsV_len _) (by omega) (by omega) fun aC2 cC2 w2 hd2 hC2 nC2 xC2 rC2 => ?_
  have hb2 := hb1.trans (hd2.mono hb1.size)
  have z2 := hd2.size
  have hWm := hW.m
  have C2_2 : FitsD w1.heap.size w2.heap.size w2 aC2 W.fits := FitsD.of (by omega) rC2
  refine ⟨_, _, _, rfl, .all hd2, ?_⟩
  intro m8 g_m8
  refine ⟨fun ls w' => match ls with | [.int _ ii, .sl a n c, .sl a3 n3 c3] => (0 ≤ ii ∧ ii ≤ W.pats.length) ∧ n3 = W.fits.length ∧ w2.heap.size ≤ w'.heap.size ∧ (∃ xs, xs.map (·.2.2) = W.pats.take ii.toNat ∧ DRow w2.heap.size [m3, m8, m2, m1] a n c xs [] w') ∧ FitsD w1.heap.size w2.heap.size w' a3 W.fits | _ => False, fun ls => match ls with | [.int _ ii, _, _] => (W.pats.length - ii).toNat | _ => 0, ?_, ?_⟩
  · intro w4 hb4 hk4
    have y4 := hb4.size
    have z4 := hk4.size; have o4 := hk4.own
    simp only [List.mem_cons, List.not_mem_nil, or_false, forall_eq_or_imp, forall_eq] at o4
    have C2_4 := C2_2.ko hk4 (allc (.inl (by omega)) (allc (.inr (by omega)) (allc (.inl (by omega)) (allc (.inl (by omega)) all0))))
    exact ⟨⟨by omega, by omega⟩, rfl, by omega, ⟨[], rfl, DRow.of (.inr Row.nil)⟩, C2_4⟩
  rintro x1 a2 m9 m10 a3 m11 m12 w5 hb5 ⟨⟨x0, xl⟩, rfl, zz, ⟨xs, hxs, RR⟩, FF⟩
  have y5 := hb5.size
  have hRn := RR.len
  have hxl := congrArg List.length hxs
  rw [List.length_map, List.length_take] at hxl
  refine ⟨?_, ?_⟩
  · intro h1 m13 g_m13
    try simp only [Bool.not_eq_true', Bool.not_eq_false', decide_eq_true_eq, decide_eq_false_iff_not] at h1
    refine load_pat hp hb5 (by omega) fun m14 m15 hm1 a4 m17 hs1 => ?_
    have hpl : (W.pats.getD x1.toNat []).length ≤ 1000 := hS.pat x1
    refine ⟨(by first | omega | (simp only; omega)), ?_⟩
    intro w6 hb6 hk6 hc6_m13
    have y6 := hb6.size
    have z6 := hk6.size; have o6 := hk6.own
    simp only [List.mem_cons, List.not_mem_nil, or_false, forall_eq_or_imp, forall_eq] at o6
    have FF_6 := FF.kio hk6 (allc (.inr (by omega)) (allc (.inl (by omega)) (allc (.inr (by omega)) (allc (.inl (by omega)) (allc (.inl (by omega)) all0))))) ⟨(0, w5.heap.size), by simp, by simp only; omega, by simp only; omega⟩
    have RR_6 := (RR.grow (ms := [m13]) (allc g_m13 all0)).chg (KeptIn.chg hk6) (fun _ h => h)
    refine append_copy (P := Try.prog) (e := 42) (bytes := 16) (size := 2) (by kernel_rfl) (by omega) (hs1.keep hb6) (spansV_len _) (by omega) (by omega) fun aC7 cC7 w7 hd7 hC7 nC7 xC7 rC7 => ?_
    have hb7 := hb6.trans (hd7.mono hb6.size)
    have z7 := hd7.size
    have FF_7 := FF_6.below hd7
    have C7_7 : Lies [] w6.heap.size w7.heap.size w7 aC7 _ := Lies.new hC7 nC7 (by simp)
    have hpk := (okP_get hW.p (i := x1) (by omega)).1
    obtain ⟨d7, rfl, hd7r, hIn7⟩ := InD.of (by omega) rC7
    have RR_7 := RR_6.sub hd7 hd7r hIn7 (by omega) hk6.own
    refine ⟨_, _, _, rfl, .all hd7, ?_⟩
    intro m22 g_m22 w8 hb8 hk8 hc8_m22
    have y8 := hb8.size
    have z8 := hk8.size; have o8 := hk8.own
    simp only [List.mem_cons, List.not_mem_nil, or_false, forall_eq_or_imp, forall_eq] at o8
    have FF_8 := FF_7.kio hk8 (allc (.inr (by omega)) (allc (.inr (by omega)) (allc (.inl (by omega)) (allc (.inr (by omega)) (allc (.inl (by omega)) (allc (.inl (by omega)) all0)))))) ⟨(0, w7.heap.size), by simp, by simp only; omega, by simp only; omega⟩
    have C7_8 := C7_7.kio hk8 (allc (.inr (by omega)) (allc (.inl (by omega)) (allc (.inl (by omega)) (allc (.inl (by omega)) (allc (.inl (by omega)) (allc (.inl (by omega)) all0)))))) ⟨(0, w7.heap.size), by simp, by simp only; omega, by simp only; omega⟩
    have RR_8 := (RR_7.grow (ms := [m22]) (allc g_m22 all0)).chg (KeptIn.chg hk8) (fun _ h => h)
    refine DRow.append (k := cC7) RR_8 (Cells.obj (vs := [.slice _ _ _]) hc8_m22) (by omega) (by omega) (by omega) hk8.own fun aR9 cR9 w9 RR_9 S9 cS9 hS9 => ?_
    have z9 := cS9.size
    have kx9 : KeepX true w.heap.size [m22, m13, m3, m8, m2, m1] (fun _ => False) w8 w9 := cS9.own (fun x hx => ⟨hk8.own x hx, fun h => (hS9 x h).2 hx⟩) (by simp) (fun _ => ⟨hb8.size, fun x hx => by have := (hS9 x hx).1; omega⟩)
    have FF_9 := FF_8.out cS9 (fun x hx => by have := (hS9 x hx).1; omega)
    refine ⟨_, _, _, rfl, kx9, (by first | omega | (simp only; omega)), ?_⟩
    intro w10 hb10 hk10
    have y10 := hb10.size
    have z10 := hk10.size; have o10 := hk10.own
    simp only [List.mem_cons, List.not_mem_nil, or_false, forall_eq_or_imp, forall_eq] at o10
    have FF_10 := FF_9.ko hk10 (allc (.inr (by omega)) (allc (.inr (by omega)) (allc (.inl (by omega)) (allc (.inr (by omega)) (allc (.inl (by omega)) (allc (.inl (by omega)) all0))))))
    have RR_10 := RR_9.chg (Chg.kept hk10) (fun _ h => h)
    refine ⟨?_, (by first | omega | (simp only; omega))⟩
    exact ⟨⟨by omega, by omega⟩, rfl, by omega, ⟨_, by rw [show (x1 + 1).toNat = x1.toNat + 1 by omega, take_getD (d := []) (by omega), List.map_append, hxs]; rfl, RR_10.less (by simp)⟩, FF_10⟩
  · intro h2 w11 hb11 hk11
    try simp only [Bool.not_eq_true', Bool.not_eq_false', decide_eq_true_eq, decide_eq_false_iff_not] at h2
    have y11 := hb11.size
    have z11 := hk11.size; have o11 := hk11.own
    simp only [List.mem_cons, List.not_mem_nil, or_false, forall_eq_or_imp, forall_eq] at o11
    have FF_11 := FF.ko hk11 (allc (.inl (by omega)) (allc (.inr (by omega)) (allc (.inl (by omega)) (allc (.inl (by omega)) all0))))
    have RR_11 := RR.chg (Chg.kept hk11) (fun _ h => h)
    have hk : x1.toNat = W.pats.length := by omega
    rw [hk, List.take_length] at hxs
    exact ⟨a2, m10, a3, m12, xs, w2.heap.size, by rw [RR_11.len, show xs.length = W.pats.length by rw [← hxs, List.length_map]], hb11, ⟨hxs, ⟨by omega, by omega⟩, RR_11.patsD (Nat.le_refl _)⟩, FF_11.to (by omega) (Nat.le_refl _)⟩

end Go.Proofs.R12
end
section
/- The conditions of the functions, printed by program; each is what the generator reckons (kernel_rfl). -/
namespace Go.Proofs
open Go.Vc
set_option maxRecDepth 100000 in
set_option maxHeartbeats 2000000 in
theorem vc41 (p0w0a : Option Addr) (p0w0n : Nat) (p0w0c : Nat) (p0w1a : Option Addr) (p0w1n : Nat) (p0w1c : Nat) (pattern : Int) (p2bya : Option Addr) (p2byn : Nat) (p2byc : Nat)
    (p3from : Int) (w : World) (R : Ending → World → Prop) (h : ∀ (m1 : Nat), w.heap.size ≤ m1 → ∀ (m2 : Nat), w.heap.size ≤ m2 → ∀ (m3 : Nat), w.heap.size ≤ m3 → ∃ (F1 : List Lf →
    World → Prop), ∃ (F2 : List Lf → Nat), (∀ (w2 : World), RowKit.Below w.heap.size w w2 → Kept [m3, m2, m1] w w2 → F1 [Lf.int IntKind.i64 0, Lf.int IntKind.i64 pattern, Lf.sl
    none 0 0] w2) ∧ ∀ (x1 x2 : Int) (a1 : Option Addr) (m4 m5 : Nat) (w3 : World), RowKit.Below w.heap.size w w3 → F1 [Lf.int IntKind.i64 x1, Lf.int IntKind.i64 x2, Lf.sl a1 m4 m5]
    w3 → ∃ (m6 : Nat), ∃ (m7 : Nat), p0w0a = some { block := m6, off := m7 } ∧ (0 ≤ pattern ∧ pattern < (↑p0w0n : Int)) ∧ ∃ (a2 : Option Addr), ∃ (m8 : Nat), ∃ (m9 : Nat), w3.cell?
    { block := m6, off := m7 + pattern.toNat * 1 } = some (Value.slice a2 m8 m9) ∧ (m6 < w.heap.size ∨ m6 ≠ m3 ∧ m6 ≠ m2 ∧ m6 ≠ m1) ∧ (x1 < (↑m8 : Int) → ∃ (m10 : Nat), ∃ (m11 :
    Nat), p0w0a = some { block := m10, off := m11 } ∧ (0 ≤ pattern ∧ pattern < (↑p0w0n : Int)) ∧ ∃ (a3 : Option Addr), ∃ (m12 : Nat), ∃ (m13 : Nat), w3.cell?
    { block := m10, off := m11 + pattern.toNat * 1 } = some (Value.slice a3 m12 m13) ∧ (m10 < w.heap.size ∨ m10 ≠ m3 ∧ m10 ≠ m2 ∧ m10 ≠ m1) ∧ ∃ (m14 : Nat), ∃ (m15 : Nat), a3 =
    some { block := m14, off := m15 } ∧ (0 ≤ x1 ∧ x1 < (↑m12 : Int)) ∧ ∃ (x3 : Int), ∃ (x4 : Int), w3.cell? { block := m14, off := m15 + x1.toNat * 2 } = some (Value.int
    IntKind.i64 x3) ∧ w3.cell? { block := m14, off := m15 + x1.toNat * 2 + 1 } = some (Value.int IntKind.i64 x4) ∧ (m14 < w.heap.size ∨ m14 ≠ m3 ∧ m14 ≠ m2 ∧ m14 ≠ m1) ∧ ∀ (m16 :
    Nat), w3.heap.size ≤ m16 → (-9223372036854775808 ≤ p3from + x1 ∧ p3from + x1 ≤ 9223372036854775807) ∧ ∀ (w4 : World), RowKit.Below w.heap.size w w4 → KeptIn [(0, w3.heap.size)]
    [m16, m3, m2, m1] w3 w4 → Calls Try.prog 44 #[Value.slice p2bya p2byn p2byc, Value.int IntKind.i64 (p3from + x1)] w4 fun (e1 : Ending) (w5 : World) => ∃ (x5 : Int), e1 =
    Ending.returned (Value.int IntKind.i64 x5) ∧ KeepX true w.heap.size [m16, m3, m2, m1] (fun _ => False) w4 w5 ∧ (-9223372036854775808 ≤ x4 - x3 ∧ x4 - x3 ≤ 9223372036854775807)
    ∧ (-9223372036854775808 ≤ x4 - x3 + 1 ∧ x4 - x3 + (1 : Int) ≤ 9223372036854775807) ∧ x4 - x3 + (1 : Int) ≠ 0 ∧ (-9223372036854775808 ≤ x3 + x5.tmod (x4 - x3 + 1) ∧ x3 + x5.tmod
    (x4 - x3 + 1) ≤ 9223372036854775807) ∧ ∀ (m18 : Nat), w5.heap.size ≤ m18 → ∀ (w6 : World), RowKit.Below w.heap.size w w6 → KeptIn [(0, w5.heap.size)] [m18, m16, m3, m2, m1] w5
    w6 → w6.heap[m18]? = some (Obj.cells #[Value.int IntKind.i64 (x3 + x5.tmod (x4 - x3 + 1))] 3) → RunsTo Try.prog (Builtin.append_ #[38, 38] 38 #[Value.slice a1 m4 m5,
    Value.slice (some { block := m18, off := 0 }) 1 1]) w6 fun (v1 : Value) (w7 : World) => ∃ (a4 : Option Addr), ∃ (m20 : Nat), ∃ (m21 : Nat), v1 = Value.slice a4 m20 m21 ∧ KeepX
    true w.heap.size [m18, m16, m3, m2, m1] (fun _ => False) w6 w7 ∧ (-9223372036854775808 ≤ x1 + 1 ∧ x1 + (1 : Int) ≤ 9223372036854775807) ∧ ∀ (w8 : World), RowKit.Below
    w.heap.size w w8 → Kept [m18, m16, m3, m2, m1] w7 w8 → F1 [Lf.int IntKind.i64 (x1 + 1), Lf.int IntKind.i64 x2, Lf.sl a4 m20 m21] w8 ∧ F2 [Lf.int IntKind.i64 (x1 + 1), Lf.int
    IntKind.i64 x2, Lf.sl a4 m20 m21] < F2 [Lf.int IntKind.i64 x1, Lf.int IntKind.i64 x2, Lf.sl a1 m4 m5]) ∧ ((↑m8 : Int) ≤ x1 → ∀ (w9 : World), RowKit.Below w.heap.size w w9 →
    Kept [m3, m2, m1] w3 w9 → R (Ending.returned (Value.agg #[Value.int IntKind.i64 x2, Value.slice a1 m4 m5])) w9)) : Calls Try.prog 41 #[Value.agg #[Value.slice p0w0a p0w0n
    p0w0c, Value.slice p0w1a p0w1n p0w1c], Value.int IntKind.i64 pattern, Value.slice p2bya p2byn p2byc, Value.int IntKind.i64 p3from] w R := calls_of_vc (pure := true) (wrapAt :=
    []) (muts := [9]) (esc := []) (args := [SV.pv (PV.agg [Lf.sl p0w0a p0w0n p0w0c, Lf.sl p0w1a p0w1n p0w1c]), SV.pv (PV.one (Lf.int IntKind.i64 pattern)), SV.pv (PV.one (Lf.sl
    p2bya p2byn p2byc)), SV.pv (PV.one (Lf.int IntKind.i64 p3from))]) (vs := [Value.agg #[Value.slice p0w0a p0w0n p0w0c, Value.slice p0w1a p0w1n p0w1c], Value.int IntKind.i64
    pattern, Value.slice p2bya p2byn p2byc, Value.int IntKind.i64 p3from]) Try.func41 rfl rfl rfl (Eq.mp (by kernel_rfl) h) 
end Go.Proofs
end
section
/- A good piece out of bytes. -/
namespace Go.Proofs.R12
open Go.Vc Go.RowKit Go.Proofs
/-- The size that the bytes say. -/
def bySize (s : Sp) (b : Int) : Int := s.1 + b.tmod (s.2 - s.1 + 1)
def byPiece (p : List Sp) (l : List Int) (k : Int) (n : Nat) : List Int := (List.range n).map fun i => bySize (p.getD i (0, 0)) (byteM l (k + i))
theorem byPiece_len {p : List Sp} {l : List Int} {k : Int} {n : Nat} : (byPiece p l k n).length = n := by simp [byPiece]
theorem byPiece_succ {p : List Sp} {l : List Int} {k : Int} {n : Nat} : byPiece p l k (n + 1) = byPiece p l k n ++ [bySize (p.getD n (0, 0)) (byteM l (k + n))] := by simp [byPiece, List.range_succ]
theorem byPiece_get {p : List Sp} {l : List Int} {k : Int} {n i : Nat} (h : i < n) : (byPiece p l k n).getD i 0 = bySize (p.getD i (0, 0)) (byteM l (k + i)) := by
  rw [List.getD_eq_getElem?_getD, getElem_of_lt (by rw [byPiece_len]; exact h)]
  simp [byPiece]
theorem bySize_bd {s : Sp} {b : Int} (h : s.1 ≤ s.2) (hb : 0 ≤ b) : s.1 ≤ bySize s b ∧ bySize s b ≤ s.2 := by
  have := tmod_bd (b := s.2 - s.1 + 1) hb (by omega)
  unfold bySize; omega
set_option maxRecDepth 100000 in
set_option maxHeartbeats 8000000 in
theorem piece_by {w : World} {W : Wk} {pa fa : Option Addr} {pc fc : Nat} {pat k : Int} {l : List Int} {bya : Option Addr} {byc : Nat} (hp : CellsS w pa W.pats) (hW : ShopW W) (hpt : 0 ≤ pat ∧ pat < W.pats.length) (hc : Cells w bya (u8s l)) (hl : ∀ x ∈ l, 0 ≤ x ∧ x ≤ 255) (hk : 0 ≤ k ∧ k ≤ 10000) : Calls Try.prog 41 #[W.v pa pc fa fc, I pat, .slice bya l.length byc, I k] w fun e w' => ∃ a c, e = .returned (.agg #[I pat, .slice a (W.pats.getD pat.toNat []).length c]) ∧ Below w.heap.size w w' ∧ Lies [] w.heap.size w'.heap.size w' a (ints (byPiece (W.pats.getD pat.toNat []) l k (W.pats.getD pat.toNat []).length)) := by
  have hpk := okP_get hW.p hpt
  have hpn := hpk.1
  refine vc41 _ _ _ _ _ _ _ _ _ _ _ w _ ?_
  intro m1 g_m1 m2 g_m2 m3 g_m3
  refine ⟨fun ls w' => match ls with | [.int _ ii, .int _ x2, .sl a n c] => (0 ≤ ii ∧ ii ≤ (W.pats.getD pat.toNat []).length) ∧ x2 = pat ∧ n = ii.toNat ∧ ∃ B : Nat, (m1 < B ∧ m2 < B ∧ m3 < B ∧ w.heap.size ≤ B ∧ B ≤ w'.heap.size) ∧ RowE 3 1 B [m3, m2, m1] a n c (ints (byPiece (W.pats.getD pat.toNat []) l k ii.toNat)) w' | _ => False, fun ls => match ls with | [.int _ ii, _, _] => ((W.pats.getD pat.toNat []).length - ii).toNat | _ => 0, ?_, ?_⟩
  · intro w2 hb2 hk2
    have y2 := hb2.size
    have z2 := hk2.size; have o2 := hk2.own
    simp only [List.mem_cons, List.not_mem_nil, or_false, forall_eq_or_imp, forall_eq] at o2
    exact ⟨⟨by omega, by omega⟩, rfl, rfl, w2.heap.size, ⟨by omega, by omega, by omega, by omega, Nat.le_refl _⟩, .inr Row.nil⟩
  rintro x1 x2 a1 m4 m5 w3 hb3 ⟨hx1, hx2, rfl, B, hms, RR⟩
  have y3 := hb3.size
  refine load_pat hp hb3 (by omega) fun m6 m7 hm1 a2 m9 hs1 => ?_
  refine ⟨(by first | omega | (simp only; omega)), ?_, ?_⟩
  · intro h1
    try simp only [Bool.not_eq_true', Bool.not_eq_false', decide_eq_true_eq, decide_eq_false_iff_not] at h1
    refine load_pat hp hb3 (by omega) fun m10 m11 hm2 a3 m13 hs2 => ?_
    refine ⟨(by first | omega | (simp only; omega)), ?_⟩
    refine load_span hs2 hb3 (by omega) fun m14 m15 hm3 => ?_
    refine ⟨(by first | omega | (simp only; omega)), ?_⟩
    intro m16 g_m16
    refine ⟨(by first | omega | (simp only; omega)), ?_⟩
    intro w4 hb4 hk4
    have y4 := hb4.size
    have z4 := hk4.size; have o4 := hk4.own
    simp only [List.mem_cons, List.not_mem_nil, or_false, forall_eq_or_imp, forall_eq] at o4
    have RR_4 := (RR.grow (ms := [m16]) (allc g_m16 all0)).chg (KeptIn.chg hk4) (fun _ h => h)
    refine Pure.calls (byteOf_any _ (by omega) (hc.keep hb4) hl) fun w5 hd5 => ?_
    have hb5 := hb4.trans (hd5.mono hb4.size)
    have qb := byteM_bd hl (k + x1)
    have hsb := okP_span hpk (i := x1) (by omega)
    have q := tmod_bd (b := ((W.pats.getD pat.toNat []).getD x1.toNat (0, 0)).2 - ((W.pats.getD pat.toNat []).getD x1.toNat (0, 0)).1 + 1) qb.1 (by omega)
    have RR_5 := RR_4.below hd5
    refine ⟨_, rfl, .all hd5, (by first | omega | (simp only; omega)), (by first | omega | (simp only; omega)), (by first | omega | (simp only; omega)), (by first | omega | (simp only; omega)), ?_⟩
    intro m18 g_m18 w6 hb6 hk6 hc6_m18
    have y6 := hb6.size
    have z6 := hk6.size; have o6 := hk6.own
    simp only [List.mem_cons, List.not_mem_nil, or_false, forall_eq_or_imp, forall_eq] at o6
    have RR_6 := (RR_5.grow (ms := [m18]) (allc g_m18 all0)).chg (KeptIn.chg hk6) (fun _ h => h)
    refine append_rowE (P := Try.prog) (bytes := 8) (by kernel_rfl) (by omega) RR_6 (m := 1) (news := [I _]) (Cells.obj (vs := [I _]) hc6_m18) rfl (List.forall_mem_cons.2 ⟨rfl, by simp⟩) (by omega) (by omega) (by have := hb6.size; omega) hk6.own (by omega) fun aR7 cR7 w7 RR_7r S7 cS7 hS7 => ?_
    have RR_7 : RowE _ _ _ _ _ _ _ _ _ := .inr RR_7r
    have z7 := cS7.size
    have kx7 : KeepX true w.heap.size [m18, m16, m3, m2, m1] (fun _ => False) w6 w7 := cS7.own (fun x hx => ⟨hk6.own x hx, fun h => (hS7 x h).2 hx⟩) (by simp) (fun _ => ⟨hb6.size, fun x hx => by have := (hS7 x hx).1; omega⟩)
    refine ⟨_, _, _, rfl, kx7, (by first | omega | (simp only; omega)), ?_⟩
    intro w8 hb8 hk8
    have y8 := hb8.size
    have z8 := hk8.size; have o8 := hk8.own
    simp only [List.mem_cons, List.not_mem_nil, or_false, forall_eq_or_imp, forall_eq] at o8
    have RR_8 := RR_7.chg (Chg.kept hk8) (fun _ h => h)
    refine ⟨?_, (by first | omega | (simp only; omega))⟩
    exact ⟨⟨by omega, by omega⟩, hx2, by omega, B, ⟨by omega, by omega, by omega, by omega, by omega⟩, by rw [show (x1 + 1).toNat = x1.toNat + 1 by omega, byPiece_succ, ints_append, show (x1.toNat : Int) = x1 by omega]; exact RR_8.less (by simp)⟩
  · intro h2 w9 hb9 hk9
    try simp only [Bool.not_eq_true', Bool.not_eq_false', decide_eq_true_eq, decide_eq_false_iff_not] at h2
    have y9 := hb9.size
    have z9 := hk9.size; have o9 := hk9.own
    simp only [List.mem_cons, List.not_mem_nil, or_false, forall_eq_or_imp, forall_eq] at o9
    have RR_9 := RR.chg (Chg.kept hk9) (fun _ h => h)
    exact ⟨_, _, by rw [hx2, show x1.toNat = (W.pats.getD pat.toNat []).length by omega], hb9, by rw [show x1.toNat = (W.pats.getD pat.toNat []).length by omega] at RR_9; exact (rowE_lies RR_9 (Nat.le_refl _)).to (by omega) (Nat.le_refl _)⟩
end Go.Proofs.R12
end
section
/- The law PartAll, without the program. -/
namespace Go.Proofs.R12
open Go.Vc Go.RowKit Go.Proofs
structure GoodP (W : Wk) (x : Piece) : Prop where
  r : 0 ≤ x.pat ∧ x.pat < W.pats.length
  n : x.sizes.length = (W.pat x.pat).length
  g : ∀ j : Nat, j < x.sizes.length → ((W.pat x.pat).getD j (0, 0)).1 ≤ x.sizes.getD j 0 ∧ x.sizes.getD j 0 ≤ ((W.pat x.pat).getD j (0, 0)).2
def byP (W : Wk) (l : List Int) (i k : Int) : Piece := ⟨i, byPiece (W.pats.getD i.toNat []) l k (W.pats.getD i.toNat []).length⟩
section
variable {W : Wk}
theorem span_ok (hW : ShopW W) {i : Int} (hi : 0 ≤ i ∧ i < W.pats.length) {j : Nat} (hj : j < (W.pats.getD i.toNat []).length) : (500 ≤ ((W.pats.getD i.toNat []).getD j (0, 0)).1 ∧ ((W.pats.getD i.toNat []).getD j (0, 0)).1 ≤ 755) ∧ ((W.pats.getD i.toNat []).getD j (0, 0)).1 ≤ ((W.pats.getD i.toNat []).getD j (0, 0)).2 ∧ ((W.pats.getD i.toNat []).getD j (0, 0)).2 ≤ ((W.pats.getD i.toNat []).getD j (0, 0)).1 + 11 :=
  okP_span (okP_get hW.p hi) (i := (j : Int)) (by omega)
theorem byP_good (hW : ShopW W) {l : List Int} (hl : ∀ x ∈ l, 0 ≤ x ∧ x ≤ 255) {i k : Int} (hi : 0 ≤ i ∧ i < W.pats.length) : GoodP W (byP W l i k) := by
  refine ⟨hi, byPiece_len, fun j hj => ?_⟩
  simp only [byP, byPiece_len] at hj
  have hs := span_ok hW hi hj
  simp only [byP, Wk.pat]
  rw [byPiece_get hj]
  exact bySize_bd hs.2.1 (byteM_bd hl _).1
theorem GoodP.err {x : Piece} (h : GoodP W x) (hW : ShopW W) : pieceErr W x = 0 := by
  unfold pieceErr
  rw [if_neg (not_not.2 h.r), if_neg (not_not.2 h.n), if_pos]
  refine (all_getD (d := 0)).2 fun j hj => ?_
  have h1 := h.g j hj
  have h2 := span_ok hW h.r (j := j) (by have := h.n; unfold Wk.pat at this; omega)
  unfold Wk.pat at h1
  omega
theorem GoodP.len {x : Piece} (h : GoodP W x) (hW : ShopW W) : x.sizes.length ≤ 2 := by
  have := (okP_get hW.p h.r).1
  have := h.n
  unfold Wk.pat at this; omega
abbrev fitHS (W : Wk) (f : Fit) : Sp := (W.pats.getD f.hole.toNat []).getD f.hs.toNat (0, 0)
abbrev fitSS (W : Wk) (f : Fit) : Sp := (W.pats.getD f.shaft.toNat []).getD f.ss.toNat (0, 0)
/-- A fit that is not loose is sure. -/
theorem fit_sure {f : Fit} {hs ss : Sp} (hg : f.gap.1 ≤ f.gap.2) (hh : hs.1 ≤ hs.2) (h2 : ss.1 ≤ ss.2) (hb : (badM f hs ss).2.2 = false) {a b : Int} (ha : hs.1 ≤ a ∧ a ≤ hs.2) (hbb : ss.1 ≤ b ∧ b ≤ ss.2) : isF f a b := by
  unfold badM holeB isF at hb
  simp only [decide_eq_false_iff_not] at hb
  unfold isF
  split at hb <;> split at hb <;> omega
/-- A fit that is loose: a hole and a shaft that do not fit, and none with a smaller hole. -/
theorem fit_bad {f : Fit} {hs ss : Sp} (hg : f.gap.1 ≤ f.gap.2) (hh : hs.1 ≤ hs.2) (h2 : ss.1 ≤ ss.2) {h s : Int} (he : badM f hs ss = (h, s, true)) : (hs.1 ≤ h ∧ h ≤ hs.2) ∧ (ss.1 ≤ s ∧ s ≤ ss.2) ∧ ¬ (f.gap.1 ≤ h - s ∧ h - s ≤ f.gap.2) ∧ (hs.1 ≤ h - 1 → f.gap.1 ≤ h - 1 - ss.2 ∧ h - 1 - ss.1 ≤ f.gap.2) := by
  unfold badM holeB isF at he
  simp only [Prod.mk.injEq, decide_eq_true_eq] at he
  obtain ⟨e1, e2, e3⟩ := he
  split at e1 <;> split at e2 <;> omega
abbrev fit00 : Fit := ⟨0, 0, 0, 0, (0, 0)⟩
structure LInv (W : Wk) (k : Nat) (L : List Gap) : Prop where
  inc : L.Pairwise fun a b => a.fit < b.fit
  r : ∀ g ∈ L, (0 ≤ g.fit ∧ g.fit < k) ∧ badF W (W.fits.getD g.fit.toNat fit00) = (g.hole, g.shaft, true)
  all : ∀ i : Nat, i < k → (badF W (W.fits.getD i fit00)).2.2 = true → ∃ g ∈ L, g.fit = i
theorem loose_inv (k : Nat) : LInv W k (looseL W k) := by
  induction k with
  | zero => exact ⟨by simp [looseL], fun g hg => by simp [looseL] at hg, fun i hi => by omega⟩
  | succ k ih =>
    by_cases h : (badF W (W.fits.getD k fit00)).2.2 = true
    · rw [loose_hit h]
      refine ⟨List.pairwise_append.2 ⟨ih.inc, List.pairwise_singleton _ _, fun a ha b hb => ?_⟩, fun g hg => ?_, fun i hi hb => ?_⟩
      · rw [List.mem_singleton.1 hb]; exact (ih.r a ha).1.2
      · rcases List.mem_append.1 hg with hg | hg
        · have := ih.r g hg; exact ⟨by omega, this.2⟩
        · rw [List.mem_singleton.1 hg]
          refine ⟨by simp only; omega, ?_⟩
          show badF W (W.fits.getD (k : Int).toNat fit00) = _
          rw [show (k : Int).toNat = k by omega]
          rw [← h]
      · by_cases e : i = k
        · subst e; exact ⟨_, List.mem_append_right _ (List.mem_singleton.2 rfl), rfl⟩
        · obtain ⟨g, hg, e2⟩ := ih.all i (by omega) hb
          exact ⟨g, List.mem_append_left _ hg, e2⟩
    · have h' : (badF W (W.fits.getD k fit00)).2.2 = false := by simpa using h
      rw [loose_miss h']
      refine ⟨ih.inc, fun g hg => ?_, fun i hi hb => ?_⟩
      · have := ih.r g hg; exact ⟨by omega, this.2⟩
      · by_cases e : i = k
        · subst e; exact absurd hb h
        · exact ih.all i (by omega) hb
theorem fit_ok (hW : ShopW W) {i : Int} (hi : 0 ≤ i ∧ i < W.fits.length) : OkF W.pats (W.fits.getD i.toNat fit00) := (all_getD (d := fit00)).1 hW.f i.toNat (by omega)
theorem fit_hs (hW : ShopW W) {f : Fit} (h : OkF W.pats f) : (500 ≤ (fitHS W f).1 ∧ (fitHS W f).1 ≤ 755) ∧ (fitHS W f).1 ≤ (fitHS W f).2 ∧ (fitHS W f).2 ≤ (fitHS W f).1 + 11 := okP_span (okP_get hW.p h.h.1) h.h.2
theorem fit_ss (hW : ShopW W) {f : Fit} (h : OkF W.pats f) : (500 ≤ (fitSS W f).1 ∧ (fitSS W f).1 ≤ 755) ∧ (fitSS W f).1 ≤ (fitSS W f).2 ∧ (fitSS W f).2 ≤ (fitSS W f).1 + 11 := okP_span (okP_get hW.p h.s.1) h.s.2
abbrev gap0 : Gap := ⟨0, 0, 0⟩
def looseF (W : Wk) (k : Nat) : List Int := ((LooseM W).take k).map (·.fit)
theorem looseF_succ {k : Nat} (hk : k < (LooseM W).length) : looseF W (k + 1) = looseF W k ++ [((LooseM W).getD k gap0).fit] := by
  unfold looseF; rw [take_getD (d := gap0) hk, List.map_append]; rfl
end
end Go.Proofs.R12
end
section
/- The law PartWider, without the program. -/
namespace Go.Proofs.R12
open Go.Vc Go.RowKit Go.Proofs
/-- The first size, with a wider tolerance. -/
def widen : List Sp → List Sp
  | [] => []
  | s :: r => (s.1 - 1, s.2 + 2) :: r
theorem widen_len (p : List Sp) : (widen p).length = p.length := by cases p <;> rfl
theorem widen_get {p : List Sp} {j : Nat} (h : j < p.length) : ((widen p).getD j (0, 0)).1 ≤ (p.getD j (0, 0)).1 ∧ (p.getD j (0, 0)).2 ≤ ((widen p).getD j (0, 0)).2 ∧ (p.getD j (0, 0)).1 - 1 ≤ ((widen p).getD j (0, 0)).1 ∧ ((widen p).getD j (0, 0)).2 ≤ (p.getD j (0, 0)).2 + 2 := by
  cases p with
  | nil => simp at h
  | cons s r =>
    cases j with
    | zero => simp [widen]; omega
    | succ j => simp [widen]; omega
/-- Patterns, some of them with a wider first size: those from k on are as they were. -/
structure Wid (W : Wk) (ps : List (List Sp)) (k : Nat) : Prop where
  n : ps.length = W.pats.length
  w : ∀ j, j < ps.length → ps.getD j [] = W.pats.getD j [] ∨ ps.getD j [] = widen (W.pats.getD j [])
  e : ∀ j, k ≤ j → ps.getD j [] = W.pats.getD j []
section
variable {W : Wk} {ps : List (List Sp)} {k : Nat}
theorem Wid.refl (W : Wk) : Wid W W.pats 0 := ⟨rfl, fun _ _ => .inl rfl, fun _ _ => rfl⟩
theorem Wid.skip (h : Wid W ps k) : Wid W ps (k + 1) := ⟨h.n, h.w, fun j hj => h.e j (by omega)⟩
theorem set_getD {α : Type} {l : List α} {i j : Nat} {x d : α} (hi : i < l.length) : (l.set i x).getD j d = if i = j then x else l.getD j d := by
  rw [List.getD_eq_getElem?_getD, List.getD_eq_getElem?_getD, List.getElem?_set]
  split
  · rename_i h; subst h; simp
  · rfl
theorem Wid.put (h : Wid W ps k) (hk : k < ps.length) : Wid W (ps.set k (widen (W.pats.getD k []))) (k + 1) := by
  refine ⟨by rw [List.length_set]; exact h.n, fun j hj => ?_, fun j hj => ?_⟩
  · rw [List.length_set] at hj
    rw [set_getD hk]
    split
    · rename_i e; subst e; exact .inr rfl
    · exact h.w j hj
  · rw [set_getD hk, if_neg (by omega)]
    exact h.e j (by omega)
theorem Wid.len (h : Wid W ps k) {j : Nat} (hj : j < ps.length) : (ps.getD j []).length = (W.pats.getD j []).length := by
  rcases h.w j hj with e | e <;> rw [e]
  exact widen_len _
theorem Wid.get (h : Wid W ps k) {j i : Nat} (hj : j < ps.length) (hi : i < (W.pats.getD j []).length) : ((ps.getD j []).getD i (0, 0)).1 ≤ ((W.pats.getD j []).getD i (0, 0)).1 ∧ ((W.pats.getD j []).getD i (0, 0)).2 ≤ ((ps.getD j []).getD i (0, 0)).2 ∧ ((W.pats.getD j []).getD i (0, 0)).1 - 1 ≤ ((ps.getD j []).getD i (0, 0)).1 ∧ ((ps.getD j []).getD i (0, 0)).2 ≤ ((W.pats.getD j []).getD i (0, 0)).2 + 2 := by
  rcases h.w j hj with e | e <;> rw [e]
  · omega
  · exact widen_get hi
/-- The works with these patterns are valid. -/
theorem Wid.ok (hW : ShopW W) (h : Wid W ps k) : OkW ⟨ps, W.fits⟩ := by
  have hn := hW.n; have hm := hW.m; have e := h.n
  refine ⟨by show 1 ≤ ps.length ∧ ps.length ≤ 20; omega, (all_getD (d := [])).2 fun j hj => ?_, by show W.fits.length ≤ 40; omega, fun f hf => ?_⟩
  · have hp := okP_get hW.p (i := (j : Int)) (by simp only at hj; omega)
    rw [show (j : Int).toNat = j by omega] at hp
    have hl := h.len hj
    refine ⟨by show 1 ≤ (ps.getD j []).length ∧ (ps.getD j []).length ≤ 10; have := hp.1; omega, (all_getD (d := (0, 0))).2 fun i hi => ?_⟩
    have h1 := h.get hj (i := i) (by simp only at hi hl; omega)
    have h2 := okP_span hp (i := (i : Int)) (by simp only at hi hl; omega)
    rw [show (i : Int).toNat = i by omega] at h2
    unfold okS; simp only at *; omega
  · have ho := hW.f f hf
    have g := ho.g; have h1 := ho.h; have h2 := ho.s
    refine ⟨ho.ne, ⟨by simp only; omega, ?_⟩, ⟨by simp only; omega, ?_⟩, by unfold okS; omega⟩
    · show 0 ≤ f.hs ∧ f.hs < (ps.getD f.hole.toNat []).length
      rw [h.len (by omega)]; exact h1.2
    · show 0 ≤ f.ss ∧ f.ss < (ps.getD f.shaft.toNat []).length
      rw [h.len (by omega)]; exact h2.2
/-- A good piece stays good. -/
theorem Wid.good (hW : ShopW W) (h : Wid W ps k) {x : Piece} (hx : GoodP W x) : GoodM ⟨ps, W.fits⟩ x = (true, 0) := by
  have hr := hx.r; have e := h.n
  have hp : x.pat.toNat < ps.length := by omega
  have hl : x.sizes.length = (ps.getD x.pat.toNat []).length := by rw [h.len hp]; exact hx.n
  have hg := hx.g
  unfold GoodM
  rw [if_neg (by rw [checkE_ok.2 (h.ok hW)]; omega), if_neg, decide_eq_true]
  · intro j hj
    have h1 := h.get hp (i := j) (by have := hx.n; unfold Wk.pat at this; omega)
    have h2 := hg j hj
    unfold Wk.pat at h2 ⊢
    simp only at *
    omega
  · rw [not_not]
    unfold pieceErr
    rw [if_neg (by simp only [not_not]; omega), if_neg (by simp only [not_not]; exact hl), if_pos]
    have h0 := hx.err hW
    exact (pieceErr_ok h0).2.2
theorem bad_ex {f : Fit} {hs ss : Sp} (hg : f.gap.1 ≤ f.gap.2) (hh : hs.1 ≤ hs.2) (h2 : ss.1 ≤ ss.2) (hb : (badM f hs ss).2.2 = true) : ∃ h s : Int, (hs.1 ≤ h ∧ h ≤ hs.2) ∧ (ss.1 ≤ s ∧ s ≤ ss.2) ∧ ¬ isF f h s := by
  have := fit_bad hg hh h2 (h := (badM f hs ss).1) (s := (badM f hs ss).2.1) (by rw [← hb])
  exact ⟨_, _, this.1, this.2.1, this.2.2.1⟩
/-- With a wider tolerance no fit becomes sure. -/
theorem bad_wide {f : Fit} {hs ss hs' ss' : Sp} (hg : f.gap.1 ≤ f.gap.2) (hh : hs.1 ≤ hs.2) (h2 : ss.1 ≤ ss.2) (a : hs'.1 ≤ hs.1 ∧ hs.2 ≤ hs'.2) (b : ss'.1 ≤ ss.1 ∧ ss.2 ≤ ss'.2) (hb : (badM f hs ss).2.2 = true) : (badM f hs' ss').2.2 = true := by
  obtain ⟨h, s, q1, q2, q3⟩ := bad_ex hg hh h2 hb
  cases hc : (badM f hs' ss').2.2 with
  | true => rfl
  | false => exact absurd (fit_sure hg (by omega) (by omega) hc (a := h) (b := s) (by omega) (by omega)) q3
/-- With a wider gap none becomes loose. -/
theorem bad_gap {f f' : Fit} {hs ss : Sp} (hg : f.gap.1 ≤ f.gap.2) (hg' : f'.gap.1 ≤ f.gap.1 ∧ f.gap.2 ≤ f'.gap.2) (hh : hs.1 ≤ hs.2) (h2 : ss.1 ≤ ss.2) (hb : (badM f' hs ss).2.2 = true) : (badM f hs ss).2.2 = true := by
  obtain ⟨h, s, q1, q2, q3⟩ := bad_ex (f := f') (by omega) hh h2 hb
  cases hc : (badM f hs ss).2.2 with
  | true => rfl
  | false =>
    have := fit_sure hg hh h2 hc (a := h) (b := s) q1 q2
    unfold isF at this q3
    omega
theorem loose_mem {V : Wk} (hV : OkW V) {i : Int} : i ∈ (LooseM V).map (·.fit) ↔ (0 ≤ i ∧ i < V.fits.length) ∧ (badF V (V.fits.getD i.toNat fit00)).2.2 = true := by
  have hI : LInv V V.fits.length (LooseM V) := by unfold LooseM; rw [if_pos hV]; exact loose_inv _
  constructor
  · intro h
    obtain ⟨g, hg, rfl⟩ := List.mem_map.1 h
    have := hI.r g hg
    exact ⟨this.1, by rw [this.2]⟩
  · intro ⟨h1, h2⟩
    obtain ⟨g, hg, e⟩ := hI.all i.toNat (by omega) h2
    exact List.mem_map.2 ⟨g, hg, by omega⟩
/-- What is loose stays loose where the tolerances are wider. -/
theorem loose_wide (hW : ShopW W) (h : Wid W ps k) {i : Int} (hi : i ∈ (LooseM W).map (·.fit)) : i ∈ (LooseM ⟨ps, W.fits⟩).map (·.fit) := by
  have h1 := (loose_mem hW.ok).1 hi
  refine (loose_mem (h.ok hW)).2 ⟨h1.1, ?_⟩
  have ho := fit_ok hW h1.1
  have hh := fit_hs hW ho; have hs := fit_ss hW ho
  have e := h.n; have o1 := ho.h; have o2 := ho.s; have o3 := ho.g
  have g1 := h.get (j := (W.fits.getD i.toNat fit00).hole.toNat) (i := (W.fits.getD i.toNat fit00).hs.toNat) (by omega) (by omega)
  have g2 := h.get (j := (W.fits.getD i.toNat fit00).shaft.toNat) (i := (W.fits.getD i.toNat fit00).ss.toNat) (by omega) (by omega)
  exact bad_wide o3.2.1 hh.2.1 hs.2.1 ⟨g1.1, g1.2.1⟩ ⟨g2.1, g2.2.1⟩ h1.2
/-- Fits with wider gaps: those from k on are as they were. -/
structure WidF (W : Wk) (fs : List Fit) (a b : Int) (k : Nat) : Prop where
  n : fs.length = W.fits.length
  w : ∀ j, j < k → fs.getD j fit00 = ⟨(W.fits.getD j fit00).hole, (W.fits.getD j fit00).hs, (W.fits.getD j fit00).shaft, (W.fits.getD j fit00).ss, ((W.fits.getD j fit00).gap.1 - b, (W.fits.getD j fit00).gap.2 + a)⟩
  e : ∀ j, k ≤ j → fs.getD j fit00 = W.fits.getD j fit00
theorem WidF.refl (W : Wk) (a b : Int) : WidF W W.fits a b 0 := ⟨rfl, fun j hj => by omega, fun _ _ => rfl⟩
theorem WidF.put {fs : List Fit} {a b : Int} (h : WidF W fs a b k) (hk : k < fs.length) : WidF W (fs.set k ⟨(W.fits.getD k fit00).hole, (W.fits.getD k fit00).hs, (W.fits.getD k fit00).shaft, (W.fits.getD k fit00).ss, ((W.fits.getD k fit00).gap.1 - b, (W.fits.getD k fit00).gap.2 + a)⟩) a b (k + 1) := by
  refine ⟨by rw [List.length_set]; exact h.n, fun j hj => ?_, fun j hj => ?_⟩
  · rw [set_getD hk]
    split
    · rename_i e; subst e; rfl
    · exact h.w j (by omega)
  · rw [set_getD hk, if_neg (by omega)]
    exact h.e j (by omega)
theorem WidF.ok {fs : List Fit} {a b : Int} (hW : ShopW W) (h : WidF W fs a b W.fits.length) (ha : 0 ≤ a ∧ a ≤ 2) (hb : 0 ≤ b ∧ b ≤ 2) : OkW ⟨W.pats, fs⟩ := by
  have hO := hW.ok
  refine ⟨hO.1, hO.2.1, by show fs.length ≤ 40; rw [h.n]; exact hO.2.2.1, (all_getD (d := fit00)).2 fun j hj => ?_⟩
  have hj' : j < W.fits.length := by rw [← h.n]; exact hj
  have ho := fit_ok hW (i := (j : Int)) (by omega)
  rw [show (j : Int).toNat = j by omega] at ho
  show okFit ⟨W.pats, fs⟩ (fs.getD j fit00)
  rw [h.w j hj']
  have g := ho.g
  refine ⟨ho.ne, ⟨ho.h.1, ho.h.2⟩, ⟨ho.s.1, ho.s.2⟩, ?_⟩
  unfold okS; simp only; omega
theorem loose_gap {fs : List Fit} {a b : Int} (hW : ShopW W) (h : WidF W fs a b W.fits.length) (ha : 0 ≤ a ∧ a ≤ 2) (hb : 0 ≤ b ∧ b ≤ 2) {i : Int} (hi : i ∈ (LooseM ⟨W.pats, fs⟩).map (·.fit)) : i ∈ (LooseM W).map (·.fit) := by
  have h1 := (loose_mem (h.ok hW ha hb)).1 hi
  have hr : 0 ≤ i ∧ i < W.fits.length := by have := h1.1; have := h.n; simp only at *; omega
  refine (loose_mem hW.ok).2 ⟨hr, ?_⟩
  have ho := fit_ok hW hr
  have hh := fit_hs hW ho; have hs := fit_ss hW ho; have o3 := ho.g
  have h2 := h1.2
  simp only at h2
  rw [h.w i.toNat (by omega)] at h2
  exact bad_gap (f := W.fits.getD i.toNat fit00) (f' := ⟨(W.fits.getD i.toNat fit00).hole, (W.fits.getD i.toNat fit00).hs, (W.fits.getD i.toNat fit00).shaft, (W.fits.getD i.toNat fit00).ss, ((W.fits.getD i.toNat fit00).gap.1 - b, (W.fits.getD i.toNat fit00).gap.2 + a)⟩) o3.2.1 ⟨by simp only; omega, by simp only; omega⟩ hh.2.1 hs.2.1 h2
end
end Go.Proofs.R12
end
section
/- Loads from, and stores to, the rows of a copy of works. -/
namespace Go.Proofs.R12
open Go.Vc Go.RowKit Go.Proofs
section
variable {lo hi : Nat} {w w' : World} {a : Option Addr} {xs : List DEl}
theorem dVals_get {i : Nat} {v : Value} (h : (dVals xs)[i]? = some v) : xs ≠ [] := by
  intro e; subst e; simp [dVals] at h
theorem PatsD.out {S : List Nat} (h : PatsD lo hi w a xs) (hc : Chg S w w') (hs : ∀ x ∈ S, x < lo ∨ hi ≤ x) : PatsD lo hi w' a xs := by
  refine ⟨h.blk, fun i v hv => ?_, h.nd, h.r, fun x hx => (h.el x hx).chg hc fun hm => ?_⟩
  · obtain ⟨b, o, e, hcell⟩ := h.c i v hv
    have hb := (h.blk (dVals_get hv) b o e).1
    exact ⟨b, o, e, hc.cell (fun hm => by have := hs b hm; omega) hcell⟩
  · have := h.r x.1 (List.mem_map.2 ⟨x, hx, rfl⟩)
    have := hs _ hm; omega
theorem PatsD.ko {bs : List Nat} (h : PatsD lo hi w a xs) (hk : Kept bs w w') (hs : ∀ x ∈ bs, x < lo ∨ hi ≤ x) : PatsD lo hi w' a xs := h.out (Chg.kept hk) hs
theorem PatsD.below (h : PatsD lo hi w a xs) (hb : Below w.heap.size w w') : PatsD lo hi w' a xs := h.out (S := []) (Chg.of_below hb) (by simp)
theorem PatsD.kio {rs : List (Nat × Nat)} {bs : List Nat} (h : PatsD lo hi w a xs) (hk : KeptIn rs bs w w') (hs : ∀ x ∈ bs, x < lo ∨ hi ≤ x) (hin : ∃ r ∈ rs, r.1 ≤ lo ∧ hi ≤ r.2) : PatsD lo hi w' a xs := by
  refine ⟨h.blk, fun i v hv => ?_, h.nd, h.r, fun x hx => ?_⟩
  · obtain ⟨b, o, e, hcell⟩ := h.c i v hv
    exact ⟨b, o, e, kio_cell hk hs hin (h.blk (dVals_get hv) b o e).1 hcell⟩
  · have hr := h.r x.1 (List.mem_map.2 ⟨x, hx, rfl⟩)
    obtain ⟨cs, h1, h2⟩ := h.el x hx
    obtain ⟨r, hrm, hr1, hr2⟩ := hin
    exact ⟨cs, by rw [hk.block x.1 (lt_of_some h1) (fun hm => by have := hs _ hm; omega) ⟨r, hrm, by omega, by omega⟩]; exact h1, h2⟩
theorem PatsD.lies (h : PatsD lo hi w a xs) : LiesS lo hi w a (xs.map (·.2.2)) := fun i p hp => by
  rw [List.getElem?_map] at hp
  cases hx : xs[i]? with
  | none => rw [hx] at hp; simp at hp
  | some x =>
    rw [hx] at hp
    simp only [Option.map_some, Option.some.injEq] at hp
    subst hp
    have hm : x ∈ xs := List.mem_of_getElem? hx
    have hv : (dVals xs)[i]? = some (.slice (some ⟨x.1, 0, none⟩) x.2.2.length x.2.1) := by unfold dVals; rw [List.getElem?_map, hx]; rfl
    obtain ⟨b, o, e, hcell⟩ := h.c i _ hv
    have hr := h.r x.1 (List.mem_map.2 ⟨x, hm, rfl⟩)
    refine ⟨b, o, _, _, e, (h.blk (dVals_get hv) b o e).1, hcell, fun j v hj => ?_⟩
    obtain ⟨b', o', e', hc'⟩ := (h.el x hm).cells j v hj
    simp only [Option.some.injEq, Addr.mk.injEq, and_true] at e'
    obtain ⟨rfl, rfl⟩ := e'
    exact ⟨_, _, rfl, ⟨by simp, hr⟩, hc'⟩
/-- One number of the first size is written. -/
theorem PatsD.put {i d c : Nat} {s : Sp} {r : List Sp} (h : PatsD lo hi w a xs) (hx : xs[i]? = some (d, c, s :: r)) {s' : Sp} (hc : Chg [d] w w') (hI : InD d (s' :: r) w') : PatsD lo hi w' a (xs.set i (d, c, s' :: r)) := by
  have hil : i < xs.length := (List.getElem?_eq_some_iff.1 hx).1
  have hm : (d, c, s :: r) ∈ xs := List.mem_of_getElem? hx
  have e1 : (xs.set i (d, c, s' :: r)).map (·.1) = xs.map (·.1) := by
    apply List.ext_getElem?
    intro j
    rw [List.getElem?_map, List.getElem?_set, List.getElem?_map]
    split
    · rename_i e; subst e; rw [hx]; simp []
    · rfl
  have e2 : dVals (xs.set i (d, c, s' :: r)) = dVals xs := by
    unfold dVals
    apply List.ext_getElem?
    intro j
    rw [List.getElem?_map, List.getElem?_set, List.getElem?_map]
    split
    · rename_i e; subst e; rw [hx]; simp []
    · rfl
  have hdm : d ∈ xs.map (·.1) := List.mem_map.2 ⟨_, hm, rfl⟩
  refine ⟨fun _ b o e => by rw [e1]; exact h.blk (fun hh => by rw [hh] at hil; simp at hil) b o e, ?_, by rw [e1]; exact h.nd, by rw [e1]; exact h.r, fun x hx' => ?_⟩
  · rw [e2]
    intro j v hv
    obtain ⟨b, o, e, hcell⟩ := h.c j v hv
    have hb := (h.blk (dVals_get hv) b o e).2
    exact ⟨b, o, e, hc.cell (fun hmm => hb (by rw [List.mem_singleton.1 hmm]; exact hdm)) hcell⟩
  · obtain ⟨j, hj, rfl⟩ := List.mem_iff_getElem.1 hx'
    rw [List.length_set] at hj
    rw [List.getElem_set]
    split
    · exact hI
    · rename_i hne
      refine (h.el _ (List.getElem_mem hj)).chg hc fun hmm => hne ?_
      have q := List.mem_singleton.1 hmm
      have hnd := h.nd
      have := (List.getElem_inj (i := i) (j := j) (h₀ := by simpa using hil) (h₁ := by simpa using hj) hnd).1 (by
        simp only [List.getElem_map]
        rw [q]
        have := (List.getElem?_eq_some_iff.1 hx).2
        rw [this])
      exact this
/-- The store itself. -/
theorem ind_store0 {d : Nat} {s : Sp} {r : List Sp} {v : Int} {off : Nat} (ho : off = 0) {R : Value → World → Prop} (h : InD d (s :: r) w) (hR : ∀ w', InD d ((v, s.2) :: r) w' → Chg [d] w w' → R (.tuple #[]) w') : RunsTo Try.prog ((Instr.storeAt 3 (.pointer (some ⟨d, off, none⟩)) (I v)) >>= fun _ => pure (Value.tuple #[])) w R := by
  subst ho
  obtain ⟨cs, h1, q, rfl⟩ := h
  refine obj_store (cs := spansV (s :: r) ++ q) (vs := [I v]) h1 (by kernel_rfl) (by kernel_rfl) (by simp [spansV]) rfl (by simp; trivial) fun w' hh hc => hR w' ⟨_, hh, ?_⟩ hc
  simp [spansV]
theorem ind_store1 {d : Nat} {s : Sp} {r : List Sp} {v : Int} {off : Nat} (ho : off = 1) {R : Value → World → Prop} (h : InD d (s :: r) w) (hR : ∀ w', InD d ((s.1, v) :: r) w' → Chg [d] w w' → R (.tuple #[]) w') : RunsTo Try.prog ((Instr.storeAt 3 (.pointer (some ⟨d, off, none⟩)) (I v)) >>= fun _ => pure (Value.tuple #[])) w R := by
  subst ho
  obtain ⟨cs, h1, q, rfl⟩ := h
  refine obj_store (cs := spansV (s :: r) ++ q) (vs := [I v]) h1 (by kernel_rfl) (by kernel_rfl) (by simp [spansV]) rfl (by simp; trivial) fun w' hh hc => hR w' ⟨_, hh, ?_⟩ hc
  simp [spansV]
end
end Go.Proofs.R12
end
section
/- Fits in a block that is written. -/
namespace Go.Proofs.R12
open Go.Vc Go.RowKit Go.Proofs
structure FB (d : Nat) (fs : List Fit) (w : World) : Prop where
  h : ∃ cs : List Value, w.heap[d]? = some (.cells cs.toArray 67 (0, 0)) ∧ fitsV fs <+: cs
section
variable {d : Nat} {fs : List Fit} {w w' : World}
theorem FB.lt (h : FB d fs w) : d < w.heap.size := by
  obtain ⟨cs, h, _⟩ := h.h; exact lt_of_some h
theorem FB.out {S : List Nat} (h : FB d fs w) (hc : Chg S w w') (hs : ∀ x ∈ S, x < d ∨ d + 1 ≤ x) : FB d fs w' := by
  have hl := h.lt
  obtain ⟨cs, h1, h2⟩ := h.h
  exact ⟨cs, by rw [hc.keep d hl fun hm => by have := hs d hm; omega]; exact h1, h2⟩
theorem FB.ko {bs : List Nat} (h : FB d fs w) (hk : Kept bs w w') (hs : ∀ x ∈ bs, x < d ∨ d + 1 ≤ x) : FB d fs w' := h.out (Chg.kept hk) hs
theorem FB.kio {bs : List Nat} {rs : List (Nat × Nat)} (h : FB d fs w) (hk : KeptIn ((0, w.heap.size) :: rs) bs w w') (hs : ∀ x ∈ bs, x < d ∨ d + 1 ≤ x) : FB d fs w' := h.out hk.chg hs
theorem FB.below (h : FB d fs w) (hb : Below w.heap.size w w') : FB d fs w' := h.out (S := []) (Chg.of_below hb) (by simp)
theorem FB.cells (h : FB d fs w) : Cells w (some ⟨d, 0, none⟩) (fitsV fs) := fun i v hi => by
  obtain ⟨cs, h, r, rfl⟩ := h.h
  refine ⟨d, 0, rfl, ?_⟩
  rw [Nat.zero_add]
  refine cell_obj (vs := fitsV fs ++ r) h ?_
  rw [List.getElem?_append_left (List.getElem?_eq_some_iff.1 hi).1]; exact hi
theorem FitsD.fb {lo hi : Nat} {a : Option Addr} (h : FitsD lo hi w a fs) : ∃ d, a = some ⟨d, 0, none⟩ ∧ (lo ≤ d ∧ d < hi) ∧ FB d fs w := by
  obtain ⟨d, e, hd, r⟩ := h
  exact ⟨d, e, hd, ⟨r⟩⟩
theorem fb_load1 {n : Nat} {i : Int} {X : Nat → Nat → Int → Prop} (hn : fs.length = n) (h : FB d fs w) (hi0 : 0 ≤ i ∧ i < (n : Int)) (k : ∀ m o, m = d → X m o (fs.getD i.toNat fit00).gap.2) : ∃ m o, (some ⟨d, 0, none⟩ : Option Addr) = some ⟨m, o, none⟩ ∧ (0 ≤ i ∧ i < (n : Int)) ∧ ∃ x : Int, w.cell? ⟨m, o + i.toNat * 6 + 4 + 1, none⟩ = some (I x) ∧ X m o x := by
  subst hn
  have hi : i.toNat < fs.length := by omega
  obtain ⟨b, o, e, hc⟩ := h.cells (i.toNat * 6 + 5) _ (fits_get (getElem_of_lt hi) 5 (by omega))
  simp only [Option.some.injEq, Addr.mk.injEq, and_true] at e
  obtain ⟨rfl, rfl⟩ := e
  refine ⟨_, _, rfl, hi0, _, cell_at' hc (by omega), ?_⟩
  have := k d 0 rfl
  rw [List.getD_eq_getElem?_getD, getElem_of_lt hi] at this
  exact this
theorem fb_load0 {n : Nat} {i : Int} {X : Nat → Nat → Int → Prop} (hn : fs.length = n) (h : FB d fs w) (hi0 : 0 ≤ i ∧ i < (n : Int)) (k : ∀ m o, m = d → X m o (fs.getD i.toNat fit00).gap.1) : ∃ m o, (some ⟨d, 0, none⟩ : Option Addr) = some ⟨m, o, none⟩ ∧ (0 ≤ i ∧ i < (n : Int)) ∧ ∃ x : Int, w.cell? ⟨m, o + i.toNat * 6 + 4 + 0, none⟩ = some (I x) ∧ X m o x := by
  subst hn
  have hi : i.toNat < fs.length := by omega
  obtain ⟨b, o, e, hc⟩ := h.cells (i.toNat * 6 + 4) _ (fits_get (getElem_of_lt hi) 4 (by omega))
  simp only [Option.some.injEq, Addr.mk.injEq, and_true] at e
  obtain ⟨rfl, rfl⟩ := e
  refine ⟨_, _, rfl, hi0, _, cell_at' hc (by omega), ?_⟩
  have := k d 0 rfl
  rw [List.getD_eq_getElem?_getD, getElem_of_lt hi] at this
  exact this
theorem fits_split {i : Nat} (hi : i < fs.length) (f : Fit) : fitsV (fs.set i f) = fitsV (fs.take i) ++ (f.cells ++ fitsV (fs.drop (i + 1))) := by
  rw [List.set_eq_take_append_cons_drop, if_pos hi]
  simp [fitsV]
theorem fits_same {i : Nat} (hi : i < fs.length) : fitsV fs = fitsV (fs.take i) ++ ((fs.getD i fit00).cells ++ fitsV (fs.drop (i + 1))) := by
  have h := fits_split hi (fs.getD i fit00)
  rw [← h]
  congr 1
  apply List.ext_getElem?
  intro j
  rw [List.getElem?_set]
  split
  · rename_i e; subst e; simp [hi]
  · rfl
theorem fb_store1 {i : Int} {v : Int} {R : Value → World → Prop} (h : FB d fs w) (hi : 0 ≤ i ∧ i < (fs.length : Int)) (hR : ∀ w', FB d (fs.set i.toNat ⟨(fs.getD i.toNat fit00).hole, (fs.getD i.toNat fit00).hs, (fs.getD i.toNat fit00).shaft, (fs.getD i.toNat fit00).ss, ((fs.getD i.toNat fit00).gap.1, v)⟩) w' → Chg [d] w w' → R (.tuple #[]) w') : RunsTo Try.prog ((Instr.storeAt 3 (.pointer (some ⟨d, 0 + i.toNat * 6 + 4 + 1, none⟩)) (I v)) >>= fun _ => pure (Value.tuple #[])) w R := by
  have hil : i.toNat < fs.length := by omega
  obtain ⟨cs, h1, q, rfl⟩ := h.h
  have hl : (fitsV (fs.take i.toNat)).length = i.toNat * 6 := by rw [fitsV_len, List.length_take]; omega
  have hs := fits_same hil
  generalize hA : fitsV (fs.take i.toNat) = A at hl hs
  generalize hB : fitsV (fs.drop (i.toNat + 1)) = B at hs
  generalize hf : fs.getD i.toNat fit00 = f at *
  refine obj_store (cs := fitsV fs ++ q) (vs := [I v]) h1 (by kernel_rfl) (by kernel_rfl) (by rw [hs]; simp [Fit.cells, hl]; omega) rfl (by simp; trivial) fun w' hh hc => hR w' ⟨_, hh, ?_⟩ hc
  rw [fits_split hil, hA, hB, hs]
  have e : 0 + i.toNat * 6 + 4 + 1 = A.length + 5 := by omega
  rw [e]
  refine ⟨q, ?_⟩
  simp [Fit.cells, List.take_append, List.drop_append, List.take_of_length_le (Nat.le_add_right A.length 5), List.drop_eq_nil_of_le (Nat.le_add_right A.length 6), show A.length + 5 + 1 - A.length = 6 by omega]
theorem fb_store0 {i : Int} {v : Int} {R : Value → World → Prop} (h : FB d fs w) (hi : 0 ≤ i ∧ i < (fs.length : Int)) (hR : ∀ w', FB d (fs.set i.toNat ⟨(fs.getD i.toNat fit00).hole, (fs.getD i.toNat fit00).hs, (fs.getD i.toNat fit00).shaft, (fs.getD i.toNat fit00).ss, (v, (fs.getD i.toNat fit00).gap.2)⟩) w' → Chg [d] w w' → R (.tuple #[]) w') : RunsTo Try.prog ((Instr.storeAt 3 (.pointer (some ⟨d, 0 + i.toNat * 6 + 4 + 0, none⟩)) (I v)) >>= fun _ => pure (Value.tuple #[])) w R := by
  have hil : i.toNat < fs.length := by omega
  obtain ⟨cs, h1, q, rfl⟩ := h.h
  have hl : (fitsV (fs.take i.toNat)).length = i.toNat * 6 := by rw [fitsV_len, List.length_take]; omega
  have hs := fits_same hil
  generalize hA : fitsV (fs.take i.toNat) = A at hl hs
  generalize hB : fitsV (fs.drop (i.toNat + 1)) = B at hs
  generalize hf : fs.getD i.toNat fit00 = f at *
  refine obj_store (cs := fitsV fs ++ q) (vs := [I v]) h1 (by kernel_rfl) (by kernel_rfl) (by rw [hs]; simp [Fit.cells, hl]; omega) rfl (by simp; trivial) fun w' hh hc => hR w' ⟨_, hh, ?_⟩ hc
  rw [fits_split hil, hA, hB, hs]
  have e : 0 + i.toNat * 6 + 4 + 0 = A.length + 4 := by omega
  rw [e]
  refine ⟨q, ?_⟩
  simp [Fit.cells, List.take_append, List.drop_append, List.take_of_length_le (Nat.le_add_right A.length 4), List.drop_eq_nil_of_le (Nat.le_add_right A.length 5), show A.length + 4 + 1 - A.length = 5 by omega]
end
theorem pd_elem {W : Wk} (hW : ShopW W) {xs : List DEl} {k : Nat} (h : Wid W (xs.map (·.2.2)) k) (hk : k < W.pats.length) : ∃ d c s r, xs[k]? = some (d, c, s :: r) ∧ W.pats.getD k [] = s :: r := by
  have hn := h.n
  rw [List.length_map] at hn
  have hx := getElem_of_lt (l := xs) (i := k) (by omega)
  have e := h.e k (Nat.le_refl _)
  have hg : (xs.map (·.2.2)).getD k [] = xs[k].2.2 := by
    rw [List.getD_eq_getElem?_getD, List.getElem?_map, hx]; rfl
  rw [hg] at e
  have hp := (okP_get hW.p (i := (k : Int)) (by omega)).1
  rw [show (k : Int).toNat = k by omega, ← e] at hp
  cases hq : xs[k].2.2 with
  | nil => rw [hq] at hp; simp at hp
  | cons s r => exact ⟨xs[k].1, xs[k].2.1, s, r, by rw [hx, ← hq], by rw [← e, hq]⟩
theorem load_pd {lo hi n : Nat} {w : World} {a : Option Addr} {xs : List DEl} {i : Int} {d c : Nat} {p : List Sp} {X : Nat → Nat → Option Addr → Nat → Nat → Prop} (hn : xs.length = n) (hx : xs[i.toNat]? = some (d, c, p)) (h : PatsD lo hi w a xs) (hi0 : 0 ≤ i ∧ i < (n : Int)) (k : ∀ m o, lo ≤ m ∧ m < hi → X m o (some ⟨d, 0, none⟩) p.length c) : ∃ m o, a = some ⟨m, o, none⟩ ∧ (0 ≤ i ∧ i < (n : Int)) ∧ ∃ a1 n1 c1, w.cell? ⟨m, o + i.toNat * 1, none⟩ = some (.slice a1 n1 c1) ∧ X m o a1 n1 c1 := by
  have hv : (dVals xs)[i.toNat]? = some (.slice (some ⟨d, 0, none⟩) p.length c) := by unfold dVals; rw [List.getElem?_map, hx]; rfl
  obtain ⟨b, o, e, hcell⟩ := h.c _ _ hv
  exact ⟨b, o, e, hi0, _, _, _, cell_at' hcell (by omega), k b o (h.blk (dVals_get hv) b o e).1⟩
theorem ind_cell0 {d : Nat} {s : Sp} {r : List Sp} {w : World} {off : Nat} (h : InD d (s :: r) w) (ho : off = 0) : w.cell? ⟨d, off, none⟩ = some (I s.1) := by
  subst ho
  obtain ⟨b, o, e, hc⟩ := h.cells 0 (I s.1) (by simp [spansV])
  simp only [Option.some.injEq, Addr.mk.injEq, and_true] at e
  obtain ⟨rfl, rfl⟩ := e
  exact hc
theorem ind_cell1 {d : Nat} {s : Sp} {r : List Sp} {w : World} {off : Nat} (h : InD d (s :: r) w) (ho : off = 1) : w.cell? ⟨d, off, none⟩ = some (I s.2) := by
  subst ho
  obtain ⟨b, o, e, hc⟩ := h.cells 1 (I s.2) (by simp [spansV])
  simp only [Option.some.injEq, Addr.mk.injEq, and_true] at e
  obtain ⟨rfl, rfl⟩ := e
  exact hc
end Go.Proofs.R12
end
section
/- The conditions of the functions, printed by program; each is what the generator reckons (kernel_rfl). -/
namespace Go.Proofs
open Go.Vc
end Go.Proofs
end
section
/- The law PartSure, walked. -/
namespace Go.Proofs.R12
open Go.Vc Go.RowKit Go.Proofs
end Go.Proofs.R12
end
section
/- Loads, maps and contracts for the walk of PartAll. -/
namespace Go.Proofs.R12
open Go.Vc Go.RowKit Go.Proofs
section
variable {w : World} {lo hi : Nat} {a : Option Addr} {i : Int}
theorem load_gapL_0 {l : List Gap} {X : Nat → Nat → Int → Prop} (h : Lies [] lo hi w a (gapsV l)) (hi0 : 0 ≤ i ∧ i < (l.length : Int)) (k : ∀ m o, lo ≤ m ∧ m < hi → X m o (l.getD i.toNat ⟨0, 0, 0⟩).fit) : ∃ m o, a = some ⟨m, o, none⟩ ∧ (0 ≤ i ∧ i < (l.length : Int)) ∧ ∃ x0 : Int, w.cell? ⟨m, o + i.toNat * 3 + 0, none⟩ = some (I x0) ∧ X m o x0 := by
  have hi : i.toNat < l.length := by omega
  have hg : l.getD i.toNat ⟨0, 0, 0⟩ = l[i.toNat] := by simp [List.getD_eq_getElem?_getD, getElem_of_lt hi]
  obtain ⟨b0, o0, e0, ⟨_, q0⟩, d0⟩ := h (i.toNat * 3 + 0) _ (gaps_get (getElem_of_lt hi) 0 (by omega))
  exact ⟨b0, o0, e0, hi0, _, cell_at' d0 (by omega), by have := k b0 o0 q0; rw [hg] at this; exact this⟩
end
section
variable {w : World} {lo hi n : Nat} {a : Option Addr} {i : Int}
end
/-- A set of integers in a block. -/
structure MapAt (m : Nat) (Z : List Int) (w : World) : Prop where
  h : MapC w m I (setV Z)
section
variable {m : Nat} {Z : List Int} {w w' : World}
theorem MapAt.out {S : List Nat} (h : MapAt m Z w) (hc : Chg S w w') (hs : ∀ x ∈ S, x < m ∨ m + 1 ≤ x) : MapAt m Z w' := ⟨h.h.chg hc fun hm => by have := hs m hm; omega⟩
theorem MapAt.ko {bs : List Nat} (h : MapAt m Z w) (hk : Kept bs w w') (hs : ∀ x ∈ bs, x < m ∨ m + 1 ≤ x) : MapAt m Z w' := h.out (Chg.kept hk) hs
theorem MapAt.kio {bs : List Nat} {rs : List (Nat × Nat)} (h : MapAt m Z w) (hk : KeptIn ((0, w.heap.size) :: rs) bs w w') (hs : ∀ x ∈ bs, x < m ∨ m + 1 ≤ x) : MapAt m Z w' := h.out hk.chg hs
theorem MapAt.below (h : MapAt m Z w) (hb : Below w.heap.size w w') : MapAt m Z w' := ⟨h.h.below hb⟩
theorem map_mk {R : Value → World → Prop} (hR : ∀ w', Below w.heap.size w w' → MapAt w.heap.size [] w' → R (.map (some w.heap.size)) w') : RunsTo Try.prog (Instr.makeMap 87 none) w R := mkMap (K := Int) (enc := I) fun w' hd h => hR w' hd ⟨h⟩
theorem map_add {x : Int} {R : Value → World → Prop} (h : MapAt m Z w) (hx : x ∉ Z) (hR : ∀ w', MapAt m (Z ++ [x]) w' → Chg [m] w w' → R (.tuple #[]) w') : RunsTo Try.prog ((Instr.mapUpdate 87 (.map (some m)) (I x) (.bool true)) >>= fun _ => pure (Value.tuple #[])) w R :=
  update_new keyI (P := Try.prog) (mt := 87) (vt := 4) (by kernel_rfl) h.h x (.bool true) (by rw [setV_look, if_neg hx]) fun w' h2 c => hR w' ⟨by rw [setV_add] at h2; exact h2⟩ c
theorem map_has {x : Int} {R : Value → World → Prop} (h : MapAt m Z w) (hR : R (.bool (decide (x ∈ Z))) w) : RunsTo Try.prog (Instr.lookup 87 (.map (some m)) (I x) false) w R := by
  refine lookup_plain keyI (P := Try.prog) (mt := 87) (vt := 4) (by kernel_rfl) h.h x (z := .bool false) (by kernel_rfl) ?_
  rw [setV_look]
  by_cases e : x ∈ Z
  · rw [if_pos e]; rw [decide_eq_true e] at hR; exact hR
  · rw [if_neg e]; rw [decide_eq_false e] at hR; exact hR
end
section
variable {w : World} {W : Wk} {pa fa : Option Addr} {pc fc : Nat}
theorem piece_p {pat k : Int} {l : List Int} {bya : Option Addr} {byc : Nat} (hp : CellsS w pa W.pats) (hW : ShopW W) (hpt : 0 ≤ pat ∧ pat < W.pats.length) (hc : Cells w bya (u8s l)) (hl : ∀ x ∈ l, 0 ≤ x ∧ x ≤ 255) (hk : 0 ≤ k ∧ k ≤ 10000) : Calls Try.prog 41 #[W.v pa pc fa fc, I pat, .slice bya l.length byc, I k] w fun e w' => ∃ a c, e = .returned (.agg #[I (byP W l pat k).pat, .slice a (byP W l pat k).sizes.length c]) ∧ Below w.heap.size w w' ∧ Lies [] w.heap.size w'.heap.size w' a (ints (byP W l pat k).sizes) := by
  refine (piece_by hp hW hpt hc hl hk).mono fun e w' he => ?_
  obtain ⟨a, c, rfl, hd, hL⟩ := he
  exact ⟨a, c, by simp only [byP]; rw [byPiece_len], hd, hL⟩
theorem loose_p (hp : CellsS w pa W.pats) (hf : Cells w fa (fitsV W.fits)) (hW : ShopW W) : Calls Try.prog 17 #[W.v pa pc fa fc] w (fun e w' => ∃ a' c', e = .returned (.tuple #[.slice a' (LooseM W).length c', I 0]) ∧ Below w.heap.size w w' ∧ Lies [] w.heap.size w'.heap.size w' a' (gapsV (LooseM W))) := by
  have h := Loose_l (pc := pc) (fc := fc) hp hf hW.small
  rw [checkE_ok.2 hW.ok] at h
  exact h
end
theorem looseM_len {W : Wk} (hW : ShopW W) : (LooseM W).length ≤ W.fits.length := by
  unfold LooseM; rw [if_pos hW.ok]; unfold looseL
  exact Nat.le_trans (List.length_filterMap_le _ _) (by simp)
/-- All pieces of a clock. -/
def allP (W : Wk) (l : List Int) (k : Nat) : List Piece := (List.range k).map fun i : Nat => byP W l i (3 * i)
abbrev Held8 (l1 l2 l5 l6 : Nat) (a1 a2 a5 : Option Addr) (W : Wk) (w : World) : Prop := (LiesS l1 l2 w a1 W.pats ∧ Lies [] l1 l2 w a2 (fitsV W.fits) ∧ Lies [] l5 l6 w a5 (gapsV (LooseM W))) ∧ l6 ≤ w.heap.size
end Go.Proofs.R12
end
section
/- The rest for the walk of PartWider. -/
namespace Go.Proofs.R12
open Go.Vc Go.RowKit Go.Proofs
theorem looseM_invV {V : Wk} (hV : OkW V) : LInv V V.fits.length (LooseM V) := by
  unfold LooseM; rw [if_pos hV]; exact loose_inv _
theorem looseF_newV {V : Wk} (hV : OkW V) {k : Nat} (hk : k < (LooseM V).length) : ((LooseM V).getD k gap0).fit ∉ looseF V k := fun hm => by
  obtain ⟨g, hg, e⟩ := List.mem_map.1 hm
  obtain ⟨i, hi, rfl⟩ := List.mem_iff_getElem.1 hg
  rw [List.length_take] at hi
  rw [List.getElem_take] at e
  have := (List.pairwise_iff_getElem.1 (looseM_invV hV).inc) i k (by omega) hk (by omega)
  rw [List.getD_eq_getElem?_getD, getElem_of_lt hk] at e
  simp only [Option.getD_some] at e
  omega
theorem looseF_all {V : Wk} : looseF V (LooseM V).length = (LooseM V).map (·.fit) := by unfold looseF; rw [List.take_length]
theorem looseF_mem {V : Wk} {k : Nat} (hk : k < (LooseM V).length) : ((LooseM V).getD k gap0).fit ∈ (LooseM V).map (·.fit) := by
  rw [List.getD_eq_getElem?_getD, getElem_of_lt hk]
  exact List.mem_map.2 ⟨_, List.getElem_mem hk, rfl⟩
theorem okW_small {V : Wk} (h : OkW V) : Small V := ⟨by have := h.1; omega, by have := h.2.2.1; omega, fun p hp => by have := (h.2.1 p hp).1; omega⟩
theorem looseM_lenV {V : Wk} (h : OkW V) : (LooseM V).length ≤ 1000 := loose_len V (okW_small h)
theorem loose_v {w : World} {V : Wk} {pa fa : Option Addr} {pc fc n m : Nat} (hV : OkW V) (hn : V.pats.length = n) (hm : V.fits.length = m) (hp : CellsS w pa V.pats) (hf : Cells w fa (fitsV V.fits)) : Calls Try.prog 17 #[.agg #[.slice pa n pc, .slice fa m fc]] w (fun e w' => ∃ a' c', e = .returned (.tuple #[.slice a' (LooseM V).length c', I 0]) ∧ Below w.heap.size w w' ∧ Lies [] w.heap.size w'.heap.size w' a' (gapsV (LooseM V))) := by
  subst hn hm
  have h := Loose_l (pc := pc) (fc := fc) hp hf (okW_small hV)
  rw [checkE_ok.2 hV] at h
  exact h
theorem works_v {w : World} {V : Wk} {pa fa : Option Addr} {pc fc n m : Nat} (hV : OkW V) (hn : V.pats.length = n) (hm : V.fits.length = m) (hp : CellsS w pa V.pats) (hf : Cells w fa (fitsV V.fits)) : Calls Try.prog 15 #[.agg #[.slice pa n pc, .slice fa m fc]] w (fun e w' => ∃ pa' pc' fa' fc', e = .returned (.agg #[.slice pa' n pc', .slice fa' m fc']) ∧ Below w.heap.size w w' ∧ LiesS w.heap.size w'.heap.size w' pa' V.pats ∧ Lies [] w.heap.size w'.heap.size w' fa' (fitsV V.fits)) := by
  subst hn hm
  exact works_l hp hf (okW_small hV)
theorem good_v {w : World} {W : Wk} {ps : List (List Sp)} {k n m : Nat} {pa fa : Option Addr} {pc fc : Nat} (hW : ShopW W) (h : Wid W ps k) (hn : ps.length = n) (hm : W.fits.length = m) (x : Piece) {sa : Option Addr} {sc : Nat} (hs : Cells w sa (ints x.sizes)) (hp : CellsS w pa ps) (hf : Cells w fa (fitsV W.fits)) (hx : GoodP W x) : Calls Try.prog 23 #[.agg #[.slice pa n pc, .slice fa m fc], .agg #[I x.pat, .slice sa x.sizes.length sc]] w (Pure w (.tuple #[.bool true, I 0])) := by
  subst hn hm
  have hg := Good_any (W := ⟨ps, W.fits⟩) (pc := pc) (fc := fc) (sc := sc) x hs (by have := hx.len hW; omega) hp hf (okW_small (h.ok hW))
  rw [h.good hW hx] at hg
  exact hg
end Go.Proofs.R12
end
section
/- The conditions of the functions, printed by program; each is what the generator reckons (kernel_rfl). -/
namespace Go.Proofs
open Go.Vc
set_option maxRecDepth 100000 in
set_option maxHeartbeats 2000000 in
theorem vc12 (x0a : Option Addr) (x0n : Nat) (x0c : Nat) (x1a : Option Addr) (x1n : Nat) (x1c : Nat) (p1bya : Option Addr) (p1byn : Nat) (p1byc : Nat) (which : Int) (w : World) (R
    : Ending → World → Prop) (h : ∀ (m1 : Nat), w.heap.size ≤ m1 → ∀ (w1 : World), RowKit.Below w.heap.size w w1 → Kept [m1] w w1 → Calls Try.prog 40 #[Value.agg #[Value.slice x0a
    x0n x0c, Value.slice x1a x1n x1c]] w1 fun (e1 : Ending) (w2 : World) => ∃ (a1 : Option Addr), ∃ (m2 : Nat), ∃ (m3 : Nat), ∃ (a2 : Option Addr), ∃ (m4 : Nat), ∃ (m5 : Nat), e1 =
    Ending.returned (Value.agg #[Value.slice a1 m2 m3, Value.slice a2 m4 m5]) ∧ KeepX true w.heap.size [m1] (fun _ => False) w1 w2 ∧ ∀ (m7 : Nat), w2.heap.size ≤ m7 → ∀ (w3 :
    World), RowKit.Below w.heap.size w w3 → Kept [m7, m1] w2 w3 → Calls Try.prog 15 #[Value.agg #[Value.slice a1 m2 m3, Value.slice a2 m4 m5]] w3 fun (e2 : Ending) (w4 : World) =>
    ∃ (a3 : Option Addr), ∃ (m8 : Nat), ∃ (m9 : Nat), ∃ (a4 : Option Addr), ∃ (m10 : Nat), ∃ (m11 : Nat), e2 = Ending.returned (Value.agg #[Value.slice a3 m8 m9, Value.slice a4 m10
    m11]) ∧ KeepX true w.heap.size [m7, m1] (fun _ => False) w3 w4 ∧ ∀ (w5 : World), RowKit.Below w.heap.size w w5 → Kept [m7, m1] w4 w5 → Calls Try.prog 17 #[Value.agg
    #[Value.slice a3 m8 m9, Value.slice a4 m10 m11]] w5 fun (e3 : Ending) (w6 : World) => ∃ (a5 : Option Addr), ∃ (m13 : Nat), ∃ (m14 : Nat), ∃ (x1 : Int), e3 = Ending.returned
    (Value.tuple #[Value.slice a5 m13 m14, Value.int IntKind.i64 x1]) ∧ KeepX true w.heap.size [m7, m1] (fun _ => False) w5 w6 ∧ ∀ (w7 : World), RowKit.Below w.heap.size w w7 →
    KeptIn [(0, w6.heap.size)] [m7, m1] w6 w7 → Calls Try.prog 15 #[Value.agg #[Value.slice a1 m2 m3, Value.slice a2 m4 m5]] w7 fun (e4 : Ending) (w8 : World) => ∃ (a6 : Option
    Addr), ∃ (m16 : Nat), ∃ (m17 : Nat), ∃ (a7 : Option Addr), ∃ (m18 : Nat), ∃ (m19 : Nat), e4 = Ending.returned (Value.agg #[Value.slice a6 m16 m17, Value.slice a7 m18 m19]) ∧
    RowKit.Below w7.heap.size w7 w8 ∧ ∀ (w9 : World), RowKit.Below w.heap.size w w9 → KeptIn [(0, w6.heap.size), (w7.heap.size, w8.heap.size)] [m7, m1] w8 w9 → Calls Try.prog 15
    #[Value.agg #[Value.slice a1 m2 m3, Value.slice a2 m4 m5]] w9 fun (e5 : Ending) (w10 : World) => ∃ (a8 : Option Addr), ∃ (m20 : Nat), ∃ (m21 : Nat), ∃ (a9 : Option Addr), ∃
    (m22 : Nat), ∃ (m23 : Nat), e5 = Ending.returned (Value.agg #[Value.slice a8 m20 m21, Value.slice a9 m22 m23]) ∧ RowKit.Below w9.heap.size w9 w10 ∧ ∀ (m24 : Nat), w6.heap.size
    ≤ m24 → m24 < w9.heap.size ∨ w10.heap.size ≤ m24 → m24 < w7.heap.size ∨ w8.heap.size ≤ m24 → ∀ (m25 : Nat), w6.heap.size ≤ m25 → m25 < w9.heap.size ∨ w10.heap.size ≤ m25 → m25
    < w7.heap.size ∨ w8.heap.size ≤ m25 → ∃ (F1 : List Lf → World → Prop), ∃ (F2 : List Lf → Nat), (∀ (w12 : World), RowKit.Below w.heap.size w w12 → Kept [m25, m24, m7, m1] w10
    w12 → F1 [Lf.bool false, Lf.int IntKind.i64 0] w12) ∧ ∀ (t1 : Bool) (x2 : Int) (w13 : World), RowKit.Below w.heap.size w w13 → F1 [Lf.bool t1, Lf.int IntKind.i64 x2] w13 → (x2
    < (↑m2 : Int) → (-9223372036854775808 ≤ which ∧ which ≤ 9223372036854775807) ∧ (0 ≤ x2 ∧ x2 ≤ 18446744073709551615) ∧ 0 ≤ x2 ∧ (IntKind.i64.wrap (↑(BitVec.ofInt
    IntKind.i64.bits (which.fdiv (2 ^ min x2.toNat IntKind.i64.bits)) &&& BitVec.ofInt IntKind.i64.bits 1).toNat : Int) = 1 → ∃ (m26 : Nat), ∃ (m27 : Nat), a6 = some
    { block := m26, off := m27 } ∧ (0 ≤ x2 ∧ x2 < (↑m16 : Int)) ∧ ∃ (a10 : Option Addr), ∃ (m28 : Nat), ∃ (m29 : Nat), w13.cell? { block := m26, off := m27 + x2.toNat * 1 } = some
    (Value.slice a10 m28 m29) ∧ (m26 < w.heap.size ∨ m26 ≠ m25 ∧ m26 ≠ m24 ∧ m26 ≠ m7 ∧ m26 ≠ m1) ∧ ∃ (m30 : Nat), ∃ (m31 : Nat), a10 = some { block := m30, off := m31 } ∧ ((0 :
    Int) ≤ 0 ∧ 0 < (↑m28 : Int)) ∧ ∃ (x3 : Int), w13.cell? { block := m30, off := m31 + Int.toNat 0 * 2 + 0 } = some (Value.int IntKind.i64 x3) ∧ (m30 < w.heap.size ∨ m30 ≠ m25 ∧
    m30 ≠ m24 ∧ m30 ≠ m7 ∧ m30 ≠ m1) ∧ (-9223372036854775808 ≤ x3 - 1 ∧ x3 - (1 : Int) ≤ 9223372036854775807) ∧ ∃ (x4 : Int), w13.cell?
    { block := m30, off := m31 + Int.toNat 0 * 2 + 1 } = some (Value.int IntKind.i64 x4) ∧ (m30 < w.heap.size ∨ m30 ≠ m25 ∧ m30 ≠ m24 ∧ m30 ≠ m7 ∧ m30 ≠ m1) ∧ ∀ (w14 : World),
    RowKit.Below w.heap.size w w14 → KeptIn [(0, w13.heap.size)] [m25, m24, m7, m1] w13 w14 → RunsTo Try.prog ((Instr.storeAt 3 (Value.pointer (some
    { block := m30, off := m31 + Int.toNat 0 * 2 + 0 })) (Value.int IntKind.i64 (x3 - 1))) >>= fun _ => pure (Value.tuple #[])) w14 fun (v1 : Value) (w15 : World) => KeepX true
    w.heap.size [m25, m24, m7, m1] (fun _ => False) w14 w15 ∧ (-9223372036854775808 ≤ x4 + 2 ∧ x4 + (2 : Int) ≤ 9223372036854775807) ∧ ∀ (w16 : World), RowKit.Below w.heap.size w
    w16 → KeptIn [(0, w15.heap.size)] [m25, m24, m7, m1] w15 w16 → RunsTo Try.prog ((Instr.storeAt 3 (Value.pointer (some { block := m30, off := m31 + Int.toNat 0 * 2 + 1 }))
    (Value.int IntKind.i64 (x4 + 2))) >>= fun _ => pure (Value.tuple #[])) w16 fun (v2 : Value) (w17 : World) => KeepX true w.heap.size [m25, m24, m7, m1] (fun _ => False) w16 w17
    ∧ ∀ (w18 : World), RowKit.Below w.heap.size w w18 → KeptIn [(0, w17.heap.size)] [m25, m24, m7, m1] w17 w18 → Calls Try.prog 15 #[Value.agg #[Value.slice a6 m16 m17, Value.slice
    a7 m18 m19]] w18 fun (e6 : Ending) (w19 : World) => ∃ (a11 : Option Addr), ∃ (m34 : Nat), ∃ (m35 : Nat), ∃ (a12 : Option Addr), ∃ (m36 : Nat), ∃ (m37 : Nat), e6 =
    Ending.returned (Value.agg #[Value.slice a11 m34 m35, Value.slice a12 m36 m37]) ∧ KeepX true w.heap.size [m25, m24, m7, m1] (fun _ => False) w18 w19 ∧ ∀ (w20 : World),
    RowKit.Below w.heap.size w w20 → KeptIn [(0, w19.heap.size)] [m25, m24, m7, m1] w19 w20 → Calls Try.prog 41 #[Value.agg #[Value.slice a1 m2 m3, Value.slice a2 m4 m5], Value.int
    IntKind.i64 x2, Value.slice p1bya p1byn p1byc, Value.int IntKind.i64 x2] w20 fun (e7 : Ending) (w21 : World) => ∃ (x5 : Int), ∃ (a13 : Option Addr), ∃ (m39 : Nat), ∃ (m40 :
    Nat), e7 = Ending.returned (Value.agg #[Value.int IntKind.i64 x5, Value.slice a13 m39 m40]) ∧ KeepX true w.heap.size [m25, m24, m7, m1] (fun _ => False) w20 w21 ∧ ∀ (w22 :
    World), RowKit.Below w.heap.size w w22 → KeptIn [(0, w21.heap.size)] [m25, m24, m7, m1] w21 w22 → Calls Try.prog 23 #[Value.agg #[Value.slice a11 m34 m35, Value.slice a12 m36
    m37], Value.agg #[Value.int IntKind.i64 x5, Value.slice a13 m39 m40]] w22 fun (e8 : Ending) (w23 : World) => ∃ (t2 : Bool), ∃ (x6 : Int), e8 = Ending.returned (Value.tuple
    #[Value.bool t2, Value.int IntKind.i64 x6]) ∧ KeepX true w.heap.size [m25, m24, m7, m1] (fun _ => False) w22 w23 ∧ (x6 ≠ 0 → ∀ (w24 : World), RowKit.Below w.heap.size w w24 →
    Kept [m25, m24, m7, m1] w23 w24 → R (Ending.returned (Value.bool false)) w24) ∧ (x6 = 0 → ((!t2) = true → ∀ (w25 : World), RowKit.Below w.heap.size w w25 → Kept [m25, m24, m7,
    m1] w23 w25 → R (Ending.returned (Value.bool false)) w25) ∧ ((!t2) = false → (-9223372036854775808 ≤ x2 + 1 ∧ x2 + (1 : Int) ≤ 9223372036854775807) ∧ ∀ (w26 : World),
    RowKit.Below w.heap.size w w26 → Kept [m25, m24, m7, m1] w23 w26 → F1 [Lf.bool t1, Lf.int IntKind.i64 (x2 + 1)] w26 ∧ F2 [Lf.bool t1, Lf.int IntKind.i64 (x2 + 1)] < F2 [Lf.bool
    t1, Lf.int IntKind.i64 x2]))) ∧ (IntKind.i64.wrap (↑(BitVec.ofInt IntKind.i64.bits (which.fdiv (2 ^ min x2.toNat IntKind.i64.bits)) &&& BitVec.ofInt IntKind.i64.bits 1).toNat :
    Int) ≠ 1 → ∀ (w27 : World), RowKit.Below w.heap.size w w27 → KeptIn [(0, w13.heap.size)] [m25, m24, m7, m1] w13 w27 → Calls Try.prog 15 #[Value.agg #[Value.slice a6 m16 m17,
    Value.slice a7 m18 m19]] w27 fun (e9 : Ending) (w28 : World) => ∃ (a14 : Option Addr), ∃ (m43 : Nat), ∃ (m44 : Nat), ∃ (a15 : Option Addr), ∃ (m45 : Nat), ∃ (m46 : Nat), e9 =
    Ending.returned (Value.agg #[Value.slice a14 m43 m44, Value.slice a15 m45 m46]) ∧ KeepX true w.heap.size [m25, m24, m7, m1] (fun _ => False) w27 w28 ∧ ∀ (w29 : World),
    RowKit.Below w.heap.size w w29 → KeptIn [(0, w28.heap.size)] [m25, m24, m7, m1] w28 w29 → Calls Try.prog 41 #[Value.agg #[Value.slice a1 m2 m3, Value.slice a2 m4 m5], Value.int
    IntKind.i64 x2, Value.slice p1bya p1byn p1byc, Value.int IntKind.i64 x2] w29 fun (e10 : Ending) (w30 : World) => ∃ (x7 : Int), ∃ (a16 : Option Addr), ∃ (m48 : Nat), ∃ (m49 :
    Nat), e10 = Ending.returned (Value.agg #[Value.int IntKind.i64 x7, Value.slice a16 m48 m49]) ∧ KeepX true w.heap.size [m25, m24, m7, m1] (fun _ => False) w29 w30 ∧ ∀ (w31 :
    World), RowKit.Below w.heap.size w w31 → KeptIn [(0, w30.heap.size)] [m25, m24, m7, m1] w30 w31 → Calls Try.prog 23 #[Value.agg #[Value.slice a14 m43 m44, Value.slice a15 m45
    m46], Value.agg #[Value.int IntKind.i64 x7, Value.slice a16 m48 m49]] w31 fun (e11 : Ending) (w32 : World) => ∃ (t3 : Bool), ∃ (x8 : Int), e11 = Ending.returned (Value.tuple
    #[Value.bool t3, Value.int IntKind.i64 x8]) ∧ KeepX true w.heap.size [m25, m24, m7, m1] (fun _ => False) w31 w32 ∧ (x8 ≠ 0 → ∀ (w33 : World), RowKit.Below w.heap.size w w33 →
    Kept [m25, m24, m7, m1] w32 w33 → R (Ending.returned (Value.bool false)) w33) ∧ (x8 = 0 → ((!t3) = true → ∀ (w34 : World), RowKit.Below w.heap.size w w34 → Kept [m25, m24, m7,
    m1] w32 w34 → R (Ending.returned (Value.bool false)) w34) ∧ ((!t3) = false → (-9223372036854775808 ≤ x2 + 1 ∧ x2 + (1 : Int) ≤ 9223372036854775807) ∧ ∀ (w35 : World),
    RowKit.Below w.heap.size w w35 → Kept [m25, m24, m7, m1] w32 w35 → F1 [Lf.bool t1, Lf.int IntKind.i64 (x2 + 1)] w35 ∧ F2 [Lf.bool t1, Lf.int IntKind.i64 (x2 + 1)] < F2 [Lf.bool
    t1, Lf.int IntKind.i64 x2])))) ∧ ((↑m2 : Int) ≤ x2 → ∃ (F3 : List Lf → World → Prop), ∃ (F4 : List Lf → Nat), (∀ (w37 : World), RowKit.Below w.heap.size w w37 → Kept [m25, m24,
    m7, m1] w13 w37 → F3 [Lf.int IntKind.i64 0] w37) ∧ ∀ (x9 : Int) (w38 : World), RowKit.Below w.heap.size w w38 → F3 [Lf.int IntKind.i64 x9] w38 → (x9 < (↑m22 : Int) → ∃ (m52 :
    Nat), ∃ (m53 : Nat), a9 = some { block := m52, off := m53 } ∧ (0 ≤ x9 ∧ x9 < (↑m22 : Int)) ∧ ∃ (x10 : Int), w38.cell? { block := m52, off := m53 + x9.toNat * 6 + 4 + 1 } = some
    (Value.int IntKind.i64 x10) ∧ (m52 < w.heap.size ∨ m52 ≠ m25 ∧ m52 ≠ m24 ∧ m52 ≠ m7 ∧ m52 ≠ m1) ∧ (-9223372036854775808 ≤ which ∧ which ≤ 9223372036854775807) ∧ (3 : Int) ≠ 0 ∧
    (-9223372036854775808 ≤ x10 + which.tmod 3 ∧ x10 + which.tmod (3 : Int) ≤ 9223372036854775807) ∧ ∃ (m54 : Nat), ∃ (m55 : Nat), a9 = some { block := m54, off := m55 } ∧ (0 ≤ x9
    ∧ x9 < (↑m22 : Int)) ∧ ∀ (w39 : World), RowKit.Below w.heap.size w w39 → Kept [m25, m24, m7, m1] w38 w39 → RunsTo Try.prog ((Instr.storeAt 3 (Value.pointer (some
    { block := m54, off := m55 + x9.toNat * 6 + 4 + 1 })) (Value.int IntKind.i64 (x10 + which.tmod 3))) >>= fun _ => pure (Value.tuple #[])) w39 fun (v3 : Value) (w40 : World) =>
    KeepX true w.heap.size [m25, m24, m7, m1] (fun _ => False) w39 w40 ∧ ∃ (m57 : Nat), ∃ (m58 : Nat), a9 = some { block := m57, off := m58 } ∧ (0 ≤ x9 ∧ x9 < (↑m22 : Int)) ∧ ∃
    (x11 : Int), w40.cell? { block := m57, off := m58 + x9.toNat * 6 + 4 + 0 } = some (Value.int IntKind.i64 x11) ∧ (m57 < w.heap.size ∨ m57 ≠ m25 ∧ m57 ≠ m24 ∧ m57 ≠ m7 ∧ m57 ≠
    m1) ∧ (-9223372036854775808 ≤ which ∧ which ≤ 9223372036854775807) ∧ ((3 : Int) ≠ 0 ∧ -9223372036854775808 ≤ which.tdiv 3 ∧ which.tdiv (3 : Int) ≤ 9223372036854775807) ∧ (3 :
    Int) ≠ 0 ∧ (-9223372036854775808 ≤ x11 - (which.tdiv 3).tmod 3 ∧ x11 - (which.tdiv 3).tmod (3 : Int) ≤ 9223372036854775807) ∧ ∃ (m59 : Nat), ∃ (m60 : Nat), a9 = some
    { block := m59, off := m60 } ∧ (0 ≤ x9 ∧ x9 < (↑m22 : Int)) ∧ ∀ (w41 : World), RowKit.Below w.heap.size w w41 → Kept [m25, m24, m7, m1] w40 w41 → RunsTo Try.prog
    ((Instr.storeAt 3 (Value.pointer (some { block := m59, off := m60 + x9.toNat * 6 + 4 + 0 })) (Value.int IntKind.i64 (x11 - (which.tdiv 3).tmod 3))) >>= fun _ => pure
    (Value.tuple #[])) w41 fun (v4 : Value) (w42 : World) => KeepX true w.heap.size [m25, m24, m7, m1] (fun _ => False) w41 w42 ∧ (-9223372036854775808 ≤ x9 + 1 ∧ x9 + (1 : Int) ≤
    9223372036854775807) ∧ ∀ (w43 : World), RowKit.Below w.heap.size w w43 → Kept [m25, m24, m7, m1] w42 w43 → F3 [Lf.int IntKind.i64 (x9 + 1)] w43 ∧ F4 [Lf.int IntKind.i64 (x9 +
    1)] < F4 [Lf.int IntKind.i64 x9]) ∧ ((↑m22 : Int) ≤ x9 → ∀ (w44 : World), RowKit.Below w.heap.size w w44 → Kept [m25, m24, m7, m1] w38 w44 → Calls Try.prog 17 #[Value.agg
    #[Value.slice a6 m16 m17, Value.slice a7 m18 m19]] w44 fun (e12 : Ending) (w45 : World) => ∃ (a17 : Option Addr), ∃ (m62 : Nat), ∃ (m63 : Nat), ∃ (x12 : Int), e12 =
    Ending.returned (Value.tuple #[Value.slice a17 m62 m63, Value.int IntKind.i64 x12]) ∧ KeepX true w.heap.size [m25, m24, m7, m1] (fun _ => False) w44 w45 ∧ ∀ (w46 : World),
    RowKit.Below w.heap.size w w46 → Kept [m25, m24, m7, m1] w45 w46 → Calls Try.prog 17 #[Value.agg #[Value.slice a8 m20 m21, Value.slice a9 m22 m23]] w46 fun (e13 : Ending) (w47
    : World) => ∃ (a18 : Option Addr), ∃ (m65 : Nat), ∃ (m66 : Nat), ∃ (x13 : Int), e13 = Ending.returned (Value.tuple #[Value.slice a18 m65 m66, Value.int IntKind.i64 x13]) ∧
    KeepX true w.heap.size [m25, m24, m7, m1] (fun _ => False) w46 w47 ∧ (x1 ≠ 0 → ∀ (w48 : World), RowKit.Below w.heap.size w w48 → Kept [m25, m24, m7, m1] w47 w48 → R
    (Ending.returned (Value.bool false)) w48) ∧ (x1 = 0 → (x12 ≠ 0 → ∀ (w49 : World), RowKit.Below w.heap.size w w49 → Kept [m25, m24, m7, m1] w47 w49 → R (Ending.returned
    (Value.bool false)) w49) ∧ (x12 = 0 → (x13 ≠ 0 → ∀ (w50 : World), RowKit.Below w.heap.size w w50 → Kept [m25, m24, m7, m1] w47 w50 → R (Ending.returned (Value.bool false)) w50)
    ∧ (x13 = 0 → ∀ (w51 : World), RowKit.Below w.heap.size w w51 → Kept [m25, m24, m7, m1] w47 w51 → RunsTo Try.prog (Instr.makeMap 87 none) w51 fun (v5 : Value) (w52 : World) => ∃
    (m68 : Nat), v5 = Value.map (some m68) ∧ KeepX true w.heap.size [m25, m24, m7, m1] (fun _ => False) w51 w52 ∧ ∀ (w53 : World), RowKit.Below w.heap.size w w53 → Kept [m25, m24,
    m7, m1] w52 w53 → RunsTo Try.prog (Instr.makeMap 87 none) w53 fun (v6 : Value) (w54 : World) => ∃ (m70 : Nat), v6 = Value.map (some m70) ∧ KeepX true w.heap.size [m25, m24, m7,
    m1] (fun _ => False) w53 w54 ∧ ∀ (m72 : Nat), w54.heap.size ≤ m72 → ∃ (F5 : List Lf → World → Prop), ∃ (F6 : List Lf → Nat), (∀ (w56 : World), RowKit.Below w.heap.size w w56 →
    Kept [m72, m25, m24, m7, m1] w54 w56 → F5 [Lf.int IntKind.i64 0] w56) ∧ ∀ (x14 : Int) (w57 : World), RowKit.Below w.heap.size w w57 → F5 [Lf.int IntKind.i64 x14] w57 → (x14 <
    (↑m13 : Int) → ∃ (m73 : Nat), ∃ (m74 : Nat), a5 = some { block := m73, off := m74 } ∧ (0 ≤ x14 ∧ x14 < (↑m13 : Int)) ∧ ∃ (x15 : Int), w57.cell?
    { block := m73, off := m74 + x14.toNat * 3 + 0 } = some (Value.int IntKind.i64 x15) ∧ (m73 < w.heap.size ∨ m73 ≠ m72 ∧ m73 ≠ m25 ∧ m73 ≠ m24 ∧ m73 ≠ m7 ∧ m73 ≠ m1) ∧ ∀ (w58 :
    World), RowKit.Below w.heap.size w w58 → KeptIn [(0, w57.heap.size)] [m72, m25, m24, m7, m1] w57 w58 → RunsTo Try.prog ((Instr.mapUpdate 87 (Value.map (some m68)) (Value.int
    IntKind.i64 x15) (Value.bool true)) >>= fun _ => pure (Value.tuple #[])) w58 fun (v7 : Value) (w59 : World) => KeepX true w.heap.size [m72, m25, m24, m7, m1] (fun _ => False)
    w58 w59 ∧ (-9223372036854775808 ≤ x14 + 1 ∧ x14 + (1 : Int) ≤ 9223372036854775807) ∧ ∀ (w60 : World), RowKit.Below w.heap.size w w60 → Kept [m72, m25, m24, m7, m1] w59 w60 → F5
    [Lf.int IntKind.i64 (x14 + 1)] w60 ∧ F6 [Lf.int IntKind.i64 (x14 + 1)] < F6 [Lf.int IntKind.i64 x14]) ∧ ((↑m13 : Int) ≤ x14 → ∃ (F7 : List Lf → World → Prop), ∃ (F8 : List Lf →
    Nat), (∀ (w62 : World), RowKit.Below w.heap.size w w62 → Kept [m72, m25, m24, m7, m1] w57 w62 → F7 [Lf.int IntKind.i64 0] w62) ∧ ∀ (x16 : Int) (w63 : World), RowKit.Below
    w.heap.size w w63 → F7 [Lf.int IntKind.i64 x16] w63 → (x16 < (↑m62 : Int) → ∃ (m76 : Nat), ∃ (m77 : Nat), a17 = some { block := m76, off := m77 } ∧ (0 ≤ x16 ∧ x16 < (↑m62 :
    Int)) ∧ ∃ (x17 : Int), w63.cell? { block := m76, off := m77 + x16.toNat * 3 + 0 } = some (Value.int IntKind.i64 x17) ∧ (m76 < w.heap.size ∨ m76 ≠ m72 ∧ m76 ≠ m25 ∧ m76 ≠ m24 ∧
    m76 ≠ m7 ∧ m76 ≠ m1) ∧ ∀ (w64 : World), RowKit.Below w.heap.size w w64 → KeptIn [(0, w63.heap.size)] [m72, m25, m24, m7, m1] w63 w64 → RunsTo Try.prog ((Instr.mapUpdate 87
    (Value.map (some m70)) (Value.int IntKind.i64 x17) (Value.bool true)) >>= fun _ => pure (Value.tuple #[])) w64 fun (v8 : Value) (w65 : World) => KeepX true w.heap.size [m72,
    m25, m24, m7, m1] (fun _ => False) w64 w65 ∧ (-9223372036854775808 ≤ x16 + 1 ∧ x16 + (1 : Int) ≤ 9223372036854775807) ∧ ∀ (w66 : World), RowKit.Below w.heap.size w w66 → Kept
    [m72, m25, m24, m7, m1] w65 w66 → F7 [Lf.int IntKind.i64 (x16 + 1)] w66 ∧ F8 [Lf.int IntKind.i64 (x16 + 1)] < F8 [Lf.int IntKind.i64 x16]) ∧ ((↑m62 : Int) ≤ x16 → ∃ (F9 : List
    Lf → World → Prop), ∃ (F10 : List Lf → Nat), (∀ (w68 : World), RowKit.Below w.heap.size w w68 → Kept [m72, m25, m24, m7, m1] w63 w68 → F9 [Lf.bool t1, Lf.int IntKind.i64 0]
    w68) ∧ ∀ (t4 : Bool) (x18 : Int) (w69 : World), RowKit.Below w.heap.size w w69 → F9 [Lf.bool t4, Lf.int IntKind.i64 x18] w69 → (x18 < (↑m13 : Int) → ∃ (m79 : Nat), ∃ (m80 :
    Nat), a5 = some { block := m79, off := m80 } ∧ (0 ≤ x18 ∧ x18 < (↑m13 : Int)) ∧ ∃ (x19 : Int), w69.cell? { block := m79, off := m80 + x18.toNat * 3 + 0 } = some (Value.int
    IntKind.i64 x19) ∧ (m79 < w.heap.size ∨ m79 ≠ m72 ∧ m79 ≠ m25 ∧ m79 ≠ m24 ∧ m79 ≠ m7 ∧ m79 ≠ m1) ∧ ∀ (w70 : World), RowKit.Below w.heap.size w w70 → KeptIn [(0, w69.heap.size)]
    [m72, m25, m24, m7, m1] w69 w70 → RunsTo Try.prog (Instr.lookup 87 (Value.map (some m70)) (Value.int IntKind.i64 x19) false) w70 fun (v9 : Value) (w71 : World) => ∃ (t5 :
    Bool), v9 = Value.bool t5 ∧ KeepX true w.heap.size [m72, m25, m24, m7, m1] (fun _ => False) w70 w71 ∧ ((!t5) = true → ∀ (w72 : World), RowKit.Below w.heap.size w w72 → Kept
    [m72, m25, m24, m7, m1] w71 w72 → R (Ending.returned (Value.bool false)) w72) ∧ ((!t5) = false → (-9223372036854775808 ≤ x18 + 1 ∧ x18 + (1 : Int) ≤ 9223372036854775807) ∧ ∀
    (w73 : World), RowKit.Below w.heap.size w w73 → Kept [m72, m25, m24, m7, m1] w71 w73 → F9 [Lf.bool t4, Lf.int IntKind.i64 (x18 + 1)] w73 ∧ F10 [Lf.bool t4, Lf.int IntKind.i64
    (x18 + 1)] < F10 [Lf.bool t4, Lf.int IntKind.i64 x18])) ∧ ((↑m13 : Int) ≤ x18 → ∃ (F11 : List Lf → World → Prop), ∃ (F12 : List Lf → Nat), (∀ (w75 : World), RowKit.Below
    w.heap.size w w75 → Kept [m72, m25, m24, m7, m1] w69 w75 → F11 [Lf.bool t4, Lf.int IntKind.i64 0] w75) ∧ ∀ (t6 : Bool) (x20 : Int) (w76 : World), RowKit.Below w.heap.size w w76
    → F11 [Lf.bool t6, Lf.int IntKind.i64 x20] w76 → (x20 < (↑m65 : Int) → ∃ (m82 : Nat), ∃ (m83 : Nat), a18 = some { block := m82, off := m83 } ∧ (0 ≤ x20 ∧ x20 < (↑m65 : Int)) ∧
    ∃ (x21 : Int), w76.cell? { block := m82, off := m83 + x20.toNat * 3 + 0 } = some (Value.int IntKind.i64 x21) ∧ (m82 < w.heap.size ∨ m82 ≠ m72 ∧ m82 ≠ m25 ∧ m82 ≠ m24 ∧ m82 ≠ m7
    ∧ m82 ≠ m1) ∧ ∀ (w77 : World), RowKit.Below w.heap.size w w77 → KeptIn [(0, w76.heap.size)] [m72, m25, m24, m7, m1] w76 w77 → RunsTo Try.prog (Instr.lookup 87 (Value.map (some
    m68)) (Value.int IntKind.i64 x21) false) w77 fun (v10 : Value) (w78 : World) => ∃ (t7 : Bool), v10 = Value.bool t7 ∧ KeepX true w.heap.size [m72, m25, m24, m7, m1] (fun _ =>
    False) w77 w78 ∧ ((!t7) = true → ∀ (w79 : World), RowKit.Below w.heap.size w w79 → Kept [m72, m25, m24, m7, m1] w78 w79 → R (Ending.returned (Value.bool false)) w79) ∧ ((!t7) =
    false → (-9223372036854775808 ≤ x20 + 1 ∧ x20 + (1 : Int) ≤ 9223372036854775807) ∧ ∀ (w80 : World), RowKit.Below w.heap.size w w80 → Kept [m72, m25, m24, m7, m1] w78 w80 → F11
    [Lf.bool t6, Lf.int IntKind.i64 (x20 + 1)] w80 ∧ F12 [Lf.bool t6, Lf.int IntKind.i64 (x20 + 1)] < F12 [Lf.bool t6, Lf.int IntKind.i64 x20])) ∧ ((↑m65 : Int) ≤ x20 → ∀ (w81 :
    World), RowKit.Below w.heap.size w w81 → Kept [m72, m25, m24, m7, m1] w76 w81 → Calls Try.prog 14 #[] w81 fun (e14 : Ending) (w82 : World) => ∃ (t8 : Bool), e14 =
    Ending.returned (Value.bool t8) ∧ KeepX true w.heap.size [m72, m25, m24, m7, m1] (fun _ => False) w81 w82 ∧ ∀ (w83 : World), RowKit.Below w.heap.size w w83 → Kept [m72, m25,
    m24, m7, m1] w82 w83 → R (Ending.returned (Value.bool t8)) w83)))))))))) : Calls Try.prog 12 #[Value.agg #[Value.slice x0a x0n x0c, Value.slice x1a x1n x1c], Value.slice p1bya
    p1byn p1byc, Value.int IntKind.u8 which] w R := calls_of_vc (pure := true) (wrapAt := []) (muts := []) (esc := []) (args := [SV.pv (PV.agg [Lf.sl x0a x0n x0c, Lf.sl x1a x1n
    x1c]), SV.pv (PV.one (Lf.sl p1bya p1byn p1byc)), SV.pv (PV.one (Lf.int IntKind.u8 which))]) (vs := [Value.agg #[Value.slice x0a x0n x0c, Value.slice x1a x1n x1c], Value.slice
    p1bya p1byn p1byc, Value.int IntKind.u8 which]) Try.func12 rfl rfl rfl (Eq.mp (by kernel_rfl) h) 
end Go.Proofs
end
