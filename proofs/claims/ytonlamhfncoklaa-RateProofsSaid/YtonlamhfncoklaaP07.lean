/- Part 7: own lemmas, and the conditions of the functions. -/
import Derived.Test.YtonlamhfncoklaaProg
import Derived.Test.YtonlamhfncoklaaP06
section
/- The conditions of the functions, printed by program; each is what the generator reckons (kernel_rfl). -/
namespace Go.Proofs
open Go.Vc
set_option maxRecDepth 100000 in
set_option maxHeartbeats 2000000 in
theorem vc27 (la : Option Addr) (ln : Nat) (lc : Nat) (w : World) (R : Ending → World → Prop) (h : ∀ (m1 : Nat), w.heap.size ≤ m1 → ∃ (F1 : List Lf → World → Prop), ∃ (F2 : List Lf
    → Nat), (∀ (w1 : World), RowKit.Below w.heap.size w w1 → Kept [m1] w w1 → w1.heap[m1]? = some (Obj.cells #[] 56) → F1 [Lf.sl (some { block := m1, off := 0 }) 0 0, Lf.int
    IntKind.i64 0] w1) ∧ ∀ (a1 : Option Addr) (m2 m3 : Nat) (x1 : Int) (w2 : World), RowKit.Below w.heap.size w w2 → F1 [Lf.sl a1 m2 m3, Lf.int IntKind.i64 x1] w2 → (x1 < (↑ln :
    Int) → ∃ (m4 : Nat), ∃ (m5 : Nat), la = some { block := m4, off := m5 } ∧ (0 ≤ x1 ∧ x1 < (↑ln : Int)) ∧ ∃ (x2 : Int), ∃ (x3 : Int), ∃ (a2 : Option Addr), ∃ (m6 : Nat), ∃ (m7 :
    Nat), w2.cell? { block := m4, off := m5 + x1.toNat * 6 + 0 } = some (Value.int IntKind.i64 x2) ∧ w2.cell? { block := m4, off := m5 + x1.toNat * 6 + 0 + 1 } = some (Value.int
    IntKind.i64 x3) ∧ w2.cell? { block := m4, off := m5 + x1.toNat * 6 + 0 + 1 + 1 } = some (Value.slice a2 m6 m7) ∧ ∀ (w3 : World), RowKit.Below w.heap.size w w3 → KeptIn [(0,
    w2.heap.size)] [] w2 w3 → Calls Try.prog 14 #[Value.agg #[Value.int IntKind.i64 x2, Value.int IntKind.i64 x3, Value.slice a2 m6 m7]] w3 fun (e1 : Ending) (w4 : World) => ∃ (x4
    : Int), ∃ (x5 : Int), ∃ (a3 : Option Addr), ∃ (m8 : Nat), ∃ (m9 : Nat), e1 = Ending.returned (Value.agg #[Value.int IntKind.i64 x4, Value.int IntKind.i64 x5, Value.slice a3 m8
    m9]) ∧ RowKit.Below w3.heap.size w3 w4 ∧ ∃ (m10 : Nat), ∃ (m11 : Nat), la = some { block := m10, off := m11 } ∧ (0 ≤ x1 ∧ x1 < (↑ln : Int)) ∧ ∃ (x6 : Int), w2.cell?
    { block := m10, off := m11 + x1.toNat * 6 + 3 } = some (Value.int IntKind.i64 x6) ∧ ∃ (m12 : Nat), ∃ (m13 : Nat), la = some { block := m12, off := m13 } ∧ (0 ≤ x1 ∧ x1 < (↑ln :
    Int)) ∧ ∃ (x7 : Int), ∃ (x8 : Int), w2.cell? { block := m12, off := m13 + x1.toNat * 6 + 4 } = some (Value.int IntKind.i64 x7) ∧ w2.cell?
    { block := m12, off := m13 + x1.toNat * 6 + 4 + 1 } = some (Value.int IntKind.i64 x8) ∧ ∀ (m14 : Nat), w2.heap.size ≤ m14 → m14 < w3.heap.size ∨ w4.heap.size ≤ m14 → ∀ (w5 :
    World), RowKit.Below w.heap.size w w5 → KeptIn [(0, w2.heap.size), (w3.heap.size, w4.heap.size)] [m14] w4 w5 → w5.heap[m14]? = some (Obj.cells #[Value.int IntKind.i64 x4,
    Value.int IntKind.i64 x5, Value.slice a3 m8 m9, Value.int IntKind.i64 x6, Value.int IntKind.i64 x7, Value.int IntKind.i64 x8] 56) → RunsTo Try.prog (Builtin.append_ #[54, 54]
    54 #[Value.slice a1 m2 m3, Value.slice (some { block := m14, off := 0 }) 1 1]) w5 fun (v1 : Value) (w6 : World) => ∃ (a4 : Option Addr), ∃ (m15 : Nat), ∃ (m16 : Nat), v1 =
    Value.slice a4 m15 m16 ∧ KeepX true w.heap.size [m14] (fun _ => False) w5 w6 ∧ (-9223372036854775808 ≤ x1 + 1 ∧ x1 + 1 ≤ 9223372036854775807) ∧ ∀ (w7 : World), RowKit.Below
    w.heap.size w w7 → Kept [m14] w6 w7 → F1 [Lf.sl a4 m15 m16, Lf.int IntKind.i64 (x1 + 1)] w7 ∧ F2 [Lf.sl a4 m15 m16, Lf.int IntKind.i64 (x1 + 1)] < F2 [Lf.sl a1 m2 m3, Lf.int
    IntKind.i64 x1]) ∧ ((↑ln : Int) ≤ x1 → ∀ (w8 : World), RowKit.Below w.heap.size w w8 → Kept [] w2 w8 → R (Ending.returned (Value.slice a1 m2 m3)) w8)) : Calls Try.prog 27
    #[Value.slice la ln lc] w R := calls_of_vc (pure := true) (wrapAt := []) (muts := []) (esc := []) (args := [SV.pv (PV.one (Lf.sl la ln lc))]) (vs := [Value.slice la ln lc])
    Try.func27 rfl rfl rfl (Eq.mp (by kernel_rfl) h) 
set_option maxRecDepth 100000 in
set_option maxHeartbeats 2000000 in
theorem vc29 (r0 : Int) (r1 : Int) (r2 : Int) (r3 : Int) (r4 : Int) (r5a : Option Addr) (r5n : Nat) (r5c : Nat) (la : Option Addr) (ln : Nat) (lc : Nat) (w : World) (R : Ending →
    World → Prop) (h : ∀ (m1 : Nat), w.heap.size ≤ m1 → (30000 < (↑ln : Int) → ∀ (w1 : World), RowKit.Below w.heap.size w w1 → Kept [m1] w w1 → R (Ending.returned (Value.int
    IntKind.i64 5)) w1) ∧ ((↑ln : Int) ≤ 30000 → ∃ (F1 : List Lf → World → Prop), ∃ (F2 : List Lf → Nat), (∀ (w2 : World), RowKit.Below w.heap.size w w2 → Kept [m1] w w2 → F1
    [Lf.int IntKind.i64 0, Lf.int IntKind.i64 0] w2) ∧ ∀ (x1 x2 : Int) (w3 : World), RowKit.Below w.heap.size w w3 → F1 [Lf.int IntKind.i64 x1, Lf.int IntKind.i64 x2] w3 → (x2 <
    (↑ln : Int) → ∃ (m2 : Nat), ∃ (m3 : Nat), la = some { block := m2, off := m3 } ∧ (0 ≤ x2 ∧ x2 < (↑ln : Int)) ∧ ∃ (x3 : Int), ∃ (x4 : Int), ∃ (a1 : Option Addr), ∃ (m4 : Nat), ∃
    (m5 : Nat), w3.cell? { block := m2, off := m3 + x2.toNat * 6 + 0 } = some (Value.int IntKind.i64 x3) ∧ w3.cell? { block := m2, off := m3 + x2.toNat * 6 + 0 + 1 } = some
    (Value.int IntKind.i64 x4) ∧ w3.cell? { block := m2, off := m3 + x2.toNat * 6 + 0 + 1 + 1 } = some (Value.slice a1 m4 m5) ∧ (m2 < w.heap.size ∨ m2 ≠ m1) ∧ ∀ (w4 : World),
    RowKit.Below w.heap.size w w4 → KeptIn [(0, w3.heap.size)] [m1] w3 w4 → Calls Try.prog 20 #[Value.agg #[Value.int IntKind.i64 r0, Value.int IntKind.i64 r1, Value.int
    IntKind.i64 r2, Value.int IntKind.i64 r3, Value.int IntKind.i64 r4, Value.slice r5a r5n r5c], Value.agg #[Value.int IntKind.i64 x3, Value.int IntKind.i64 x4, Value.slice a1 m4
    m5]] w4 fun (e1 : Ending) (w5 : World) => ∃ (t1 : Bool), e1 = Ending.returned (Value.bool t1) ∧ KeepX true w.heap.size [m1] (fun _ => False) w4 w5 ∧ ((!t1) = true → ∀ (w6 :
    World), RowKit.Below w.heap.size w w6 → Kept [m1] w5 w6 → R (Ending.returned (Value.int IntKind.i64 2)) w6) ∧ ((!t1) = false → ∃ (m6 : Nat), ∃ (m7 : Nat), la = some
    { block := m6, off := m7 } ∧ (0 ≤ x2 ∧ x2 < (↑ln : Int)) ∧ ∃ (x5 : Int), w5.cell? { block := m6, off := m7 + x2.toNat * 6 + 3 } = some (Value.int IntKind.i64 x5) ∧ (m6 <
    w.heap.size ∨ m6 ≠ m1) ∧ (x5 < 0 → ∀ (w7 : World), RowKit.Below w.heap.size w w7 → Kept [m1] w5 w7 → R (Ending.returned (Value.int IntKind.i64 2)) w7) ∧ (0 ≤ x5 → ∃ (m8 : Nat),
    ∃ (m9 : Nat), la = some { block := m8, off := m9 } ∧ (0 ≤ x2 ∧ x2 < (↑ln : Int)) ∧ ∃ (x6 : Int), w5.cell? { block := m8, off := m9 + x2.toNat * 6 + 3 } = some (Value.int
    IntKind.i64 x6) ∧ (m8 < w.heap.size ∨ m8 ≠ m1) ∧ (6 < x6 → ∀ (w8 : World), RowKit.Below w.heap.size w w8 → Kept [m1] w5 w8 → R (Ending.returned (Value.int IntKind.i64 2)) w8) ∧
    (x6 ≤ 6 → (-9223372036854775808 ≤ x2 + 1 ∧ x2 + 1 ≤ 9223372036854775807) ∧ ∀ (w9 : World), RowKit.Below w.heap.size w w9 → Kept [m1] w5 w9 → F1 [Lf.int IntKind.i64 x1, Lf.int
    IntKind.i64 (x2 + 1)] w9 ∧ F2 [Lf.int IntKind.i64 x1, Lf.int IntKind.i64 (x2 + 1)] < F2 [Lf.int IntKind.i64 x1, Lf.int IntKind.i64 x2])))) ∧ ((↑ln : Int) ≤ x2 → ∀ (w10 :
    World), RowKit.Below w.heap.size w w10 → Kept [m1] w3 w10 → R (Ending.returned (Value.int IntKind.i64 0)) w10))) : Calls Try.prog 29 #[Value.agg #[Value.int IntKind.i64 r0,
    Value.int IntKind.i64 r1, Value.int IntKind.i64 r2, Value.int IntKind.i64 r3, Value.int IntKind.i64 r4, Value.slice r5a r5n r5c], Value.slice la ln lc] w R := calls_of_vc (pure
    := true) (wrapAt := []) (muts := []) (esc := []) (args := [SV.pv (PV.agg [Lf.int IntKind.i64 r0, Lf.int IntKind.i64 r1, Lf.int IntKind.i64 r2, Lf.int IntKind.i64 r3, Lf.int
    IntKind.i64 r4, Lf.sl r5a r5n r5c]), SV.pv (PV.one (Lf.sl la ln lc))]) (vs := [Value.agg #[Value.int IntKind.i64 r0, Value.int IntKind.i64 r1, Value.int IntKind.i64 r2,
    Value.int IntKind.i64 r3, Value.int IntKind.i64 r4, Value.slice r5a r5n r5c], Value.slice la ln lc]) Try.func29 rfl rfl rfl (Eq.mp (by kernel_rfl) h) 
set_option maxRecDepth 100000 in
set_option maxHeartbeats 2000000 in
theorem vc30 (r0 : Int) (r1 : Int) (r2 : Int) (r3 : Int) (r4 : Int) (r5a : Option Addr) (r5n : Nat) (r5c : Nat) (la : Option Addr) (ln : Nat) (lc : Nat) (w : World) (R : Ending →
    World → Prop) (h : ∀ (m1 : Nat), w.heap.size ≤ m1 → ∃ (F1 : List Lf → World → Prop), ∃ (F2 : List Lf → Nat), (∀ (w1 : World), RowKit.Below w.heap.size w w1 → Kept [m1] w w1 →
    F1 [Lf.int IntKind.i64 0, Lf.int IntKind.i64 0] w1) ∧ ∀ (x1 x2 : Int) (w2 : World), RowKit.Below w.heap.size w w2 → F1 [Lf.int IntKind.i64 x1, Lf.int IntKind.i64 x2] w2 → (x2 <
    (↑ln : Int) → ∃ (m2 : Nat), ∃ (m3 : Nat), la = some { block := m2, off := m3 } ∧ (0 ≤ x2 ∧ x2 < (↑ln : Int)) ∧ ∃ (x3 : Int), ∃ (x4 : Int), ∃ (a1 : Option Addr), ∃ (m4 : Nat), ∃
    (m5 : Nat), ∃ (x5 : Int), ∃ (x6 : Int), ∃ (x7 : Int), w2.cell? { block := m2, off := m3 + x2.toNat * 6 } = some (Value.int IntKind.i64 x3) ∧ w2.cell?
    { block := m2, off := m3 + x2.toNat * 6 + 1 } = some (Value.int IntKind.i64 x4) ∧ w2.cell? { block := m2, off := m3 + x2.toNat * 6 + 1 + 1 } = some (Value.slice a1 m4 m5) ∧
    w2.cell? { block := m2, off := m3 + x2.toNat * 6 + 1 + 1 + 1 } = some (Value.int IntKind.i64 x5) ∧ w2.cell? { block := m2, off := m3 + x2.toNat * 6 + 1 + 1 + 1 + 1 } = some
    (Value.int IntKind.i64 x6) ∧ w2.cell? { block := m2, off := m3 + x2.toNat * 6 + 1 + 1 + 1 + 1 + 1 } = some (Value.int IntKind.i64 x7) ∧ (m2 < w.heap.size ∨ m2 ≠ m1) ∧ ∀ (w3 :
    World), RowKit.Below w.heap.size w w3 → KeptIn [(0, w2.heap.size)] [m1] w2 w3 → Calls Try.prog 59 #[Value.agg #[Value.int IntKind.i64 r0, Value.int IntKind.i64 r1, Value.int
    IntKind.i64 r2, Value.int IntKind.i64 r3, Value.int IntKind.i64 r4, Value.slice r5a r5n r5c], Value.slice la ln lc, Value.agg #[Value.int IntKind.i64 x3, Value.int IntKind.i64
    x4, Value.slice a1 m4 m5, Value.int IntKind.i64 x5, Value.int IntKind.i64 x6, Value.int IntKind.i64 x7]] w3 fun (e1 : Ending) (w4 : World) => ∃ (t1 : Bool), e1 =
    Ending.returned (Value.bool t1) ∧ KeepX true w.heap.size [m1] (fun _ => False) w3 w4 ∧ ((!t1) = true → ∀ (w5 : World), RowKit.Below w.heap.size w w5 → Kept [m1] w4 w5 → R
    (Ending.returned (Value.int IntKind.i64 x2)) w5) ∧ ((!t1) = false → (-9223372036854775808 ≤ x2 + 1 ∧ x2 + 1 ≤ 9223372036854775807) ∧ ∀ (w6 : World), RowKit.Below w.heap.size w
    w6 → Kept [m1] w4 w6 → F1 [Lf.int IntKind.i64 x1, Lf.int IntKind.i64 (x2 + 1)] w6 ∧ F2 [Lf.int IntKind.i64 x1, Lf.int IntKind.i64 (x2 + 1)] < F2 [Lf.int IntKind.i64 x1, Lf.int
    IntKind.i64 x2])) ∧ ((↑ln : Int) ≤ x2 → ∀ (w7 : World), RowKit.Below w.heap.size w w7 → Kept [m1] w2 w7 → R (Ending.returned (Value.int IntKind.i64 (-1))) w7)) : Calls Try.prog
    30 #[Value.agg #[Value.int IntKind.i64 r0, Value.int IntKind.i64 r1, Value.int IntKind.i64 r2, Value.int IntKind.i64 r3, Value.int IntKind.i64 r4, Value.slice r5a r5n r5c],
    Value.slice la ln lc] w R := calls_of_vc (pure := true) (wrapAt := []) (muts := []) (esc := []) (args := [SV.pv (PV.agg [Lf.int IntKind.i64 r0, Lf.int IntKind.i64 r1, Lf.int
    IntKind.i64 r2, Lf.int IntKind.i64 r3, Lf.int IntKind.i64 r4, Lf.sl r5a r5n r5c]), SV.pv (PV.one (Lf.sl la ln lc))]) (vs := [Value.agg #[Value.int IntKind.i64 r0, Value.int
    IntKind.i64 r1, Value.int IntKind.i64 r2, Value.int IntKind.i64 r3, Value.int IntKind.i64 r4, Value.slice r5a r5n r5c], Value.slice la ln lc]) Try.func30 rfl rfl rfl (Eq.mp (by
    kernel_rfl) h) 
set_option maxRecDepth 100000 in
set_option maxHeartbeats 2000000 in
theorem vc74 (c0 : Int) (c1 : Int) (c2a : Option Addr) (c2n : Nat) (c2c : Nat) (c3 : Int) (c4 : Int) (c5 : Int) (s0 : Int) (s1 : Int) (s2a : Option Addr) (s2n : Nat) (s2c : Nat) (w
    : World) (R : Ending → World → Prop) (h : ∀ (m1 : Nat), w.heap.size ≤ m1 → ∀ (m2 : Nat), w.heap.size ≤ m2 → (s0 < c0 → ∀ (w1 : World), RowKit.Below w.heap.size w w1 → Kept [m2,
    m1] w w1 → R (Ending.returned (Value.bool false)) w1) ∧ (c0 ≤ s0 → (c1 < s1 → ∀ (w2 : World), RowKit.Below w.heap.size w w2 → Kept [m2, m1] w w2 → R (Ending.returned
    (Value.bool false)) w2) ∧ (s1 ≤ c1 → ∃ (F1 : List Lf → World → Prop), ∃ (F2 : List Lf → Nat), (∀ (w3 : World), RowKit.Below w.heap.size w w3 → Kept [m2, m1] w w3 → F1 [Lf.bool
    false, Lf.int IntKind.i64 0] w3) ∧ ∀ (t1 : Bool) (x1 : Int) (w4 : World), RowKit.Below w.heap.size w w4 → F1 [Lf.bool t1, Lf.int IntKind.i64 x1] w4 → (x1 < (↑s2n : Int) → ∃ (m3
    : Nat), ∃ (m4 : Nat), s2a = some { block := m3, off := m4 } ∧ (0 ≤ x1 ∧ x1 < (↑s2n : Int)) ∧ ∃ (t2 : Bool), w4.cell? { block := m3, off := m4 + x1.toNat * 1 } = some
    (Value.bool t2) ∧ (m3 < w.heap.size ∨ m3 ≠ m2 ∧ m3 ≠ m1) ∧ (t2 = true → ∃ (m5 : Nat), ∃ (m6 : Nat), c2a = some { block := m5, off := m6 } ∧ (0 ≤ x1 ∧ x1 < (↑c2n : Int)) ∧ ∃ (t3
    : Bool), w4.cell? { block := m5, off := m6 + x1.toNat * 1 } = some (Value.bool t3) ∧ (m5 < w.heap.size ∨ m5 ≠ m2 ∧ m5 ≠ m1) ∧ ((!t3) = true → ∀ (w5 : World), RowKit.Below
    w.heap.size w w5 → Kept [m2, m1] w4 w5 → R (Ending.returned (Value.bool false)) w5) ∧ ((!t3) = false → (-9223372036854775808 ≤ x1 + 1 ∧ x1 + 1 ≤ 9223372036854775807) ∧ ∀ (w6 :
    World), RowKit.Below w.heap.size w w6 → Kept [m2, m1] w4 w6 → F1 [Lf.bool t1, Lf.int IntKind.i64 (x1 + 1)] w6 ∧ F2 [Lf.bool t1, Lf.int IntKind.i64 (x1 + 1)] < F2 [Lf.bool t1,
    Lf.int IntKind.i64 x1])) ∧ (t2 = false → (-9223372036854775808 ≤ x1 + 1 ∧ x1 + 1 ≤ 9223372036854775807) ∧ ∀ (w7 : World), RowKit.Below w.heap.size w w7 → Kept [m2, m1] w4 w7 →
    F1 [Lf.bool t1, Lf.int IntKind.i64 (x1 + 1)] w7 ∧ F2 [Lf.bool t1, Lf.int IntKind.i64 (x1 + 1)] < F2 [Lf.bool t1, Lf.int IntKind.i64 x1])) ∧ ((↑s2n : Int) ≤ x1 → ∀ (w8 : World),
    RowKit.Below w.heap.size w w8 → Kept [m2, m1] w4 w8 → R (Ending.returned (Value.bool true)) w8)))) : Calls Try.prog 74 #[Value.agg #[Value.int IntKind.i64 c0, Value.int
    IntKind.i64 c1, Value.slice c2a c2n c2c, Value.int IntKind.i64 c3, Value.int IntKind.i64 c4, Value.int IntKind.i64 c5], Value.agg #[Value.int IntKind.i64 s0, Value.int
    IntKind.i64 s1, Value.slice s2a s2n s2c]] w R := calls_of_vc (pure := true) (wrapAt := []) (muts := []) (esc := []) (args := [SV.pv (PV.agg [Lf.int IntKind.i64 c0, Lf.int
    IntKind.i64 c1, Lf.sl c2a c2n c2c, Lf.int IntKind.i64 c3, Lf.int IntKind.i64 c4, Lf.int IntKind.i64 c5]), SV.pv (PV.agg [Lf.int IntKind.i64 s0, Lf.int IntKind.i64 s1, Lf.sl s2a
    s2n s2c])]) (vs := [Value.agg #[Value.int IntKind.i64 c0, Value.int IntKind.i64 c1, Value.slice c2a c2n c2c, Value.int IntKind.i64 c3, Value.int IntKind.i64 c4, Value.int
    IntKind.i64 c5], Value.agg #[Value.int IntKind.i64 s0, Value.int IntKind.i64 s1, Value.slice s2a s2n s2c]]) Try.func74 rfl rfl rfl (Eq.mp (by kernel_rfl) h) 
set_option maxRecDepth 100000 in
set_option maxHeartbeats 2000000 in
theorem vc59 (r0 : Int) (r1 : Int) (r2 : Int) (r3 : Int) (r4 : Int) (r5a : Option Addr) (r5n : Nat) (r5c : Nat) (la : Option Addr) (ln : Nat) (lc : Nat) (c0 : Int) (c1 : Int) (c2a
    : Option Addr) (c2n : Nat) (c2c : Nat) (c3 : Int) (c4 : Int) (c5 : Int) (w : World) (R : Ending → World → Prop) (h : ∀ (m1 : Nat), w.heap.size ≤ m1 → ∀ (m2 : Nat), w.heap.size
    ≤ m2 → (c3 = 0 → ∀ (w1 : World), RowKit.Below w.heap.size w w1 → Kept [m2, m1] w w1 → RunsTo Try.prog ((eqGuard BinOp.eql 36 (Operand.tmp 18) (Operand.tmp 19) (Value.agg
    #[Value.int IntKind.i64 c4, Value.int IntKind.i64 c5]) (Value.agg #[Value.int IntKind.i64 0, Value.int IntKind.i64 (-1)])) >>= fun _ => binOp BinOp.eql 36 (Value.agg
    #[Value.int IntKind.i64 c4, Value.int IntKind.i64 c5]) (Value.agg #[Value.int IntKind.i64 0, Value.int IntKind.i64 (-1)])) w1 fun (v1 : Value) (w2 : World) => ∃ (t1 : Bool), v1
    = Value.bool t1 ∧ KeepX true w.heap.size [m2, m1] (fun _ => False) w1 w2 ∧ (t1 = true → ∀ (w3 : World), RowKit.Below w.heap.size w w3 → Kept [m2, m1] w2 w3 → Calls Try.prog 70
    #[Value.agg #[Value.int IntKind.i64 r0, Value.int IntKind.i64 r1, Value.int IntKind.i64 r2, Value.int IntKind.i64 r3, Value.int IntKind.i64 r4, Value.slice r5a r5n r5c],
    Value.agg #[Value.int IntKind.i64 c0, Value.int IntKind.i64 c1, Value.slice c2a c2n c2c]] w3 fun (e1 : Ending) (w4 : World) => ∃ (t2 : Bool), e1 = Ending.returned (Value.bool
    t2) ∧ KeepX true w.heap.size [m2, m1] (fun _ => False) w3 w4 ∧ ∀ (w5 : World), RowKit.Below w.heap.size w w5 → Kept [m2, m1] w4 w5 → R (Ending.returned (Value.bool t2)) w5) ∧
    (t1 = false → ∀ (w6 : World), RowKit.Below w.heap.size w w6 → Kept [m2, m1] w2 w6 → R (Ending.returned (Value.bool false)) w6)) ∧ (c3 ≠ 0 → ∀ (w7 : World), RowKit.Below
    w.heap.size w w7 → Kept [m2, m1] w w7 → Calls Try.prog 21 #[Value.agg #[Value.int IntKind.i64 r0, Value.int IntKind.i64 r1, Value.int IntKind.i64 r2, Value.int IntKind.i64 r3,
    Value.int IntKind.i64 r4, Value.slice r5a r5n r5c], Value.agg #[Value.int IntKind.i64 c0, Value.int IntKind.i64 c1, Value.slice c2a c2n c2c], Value.agg #[Value.int IntKind.i64
    c4, Value.int IntKind.i64 c5]] w7 fun (e2 : Ending) (w8 : World) => ∃ (x1 : Int), ∃ (x2 : Int), ∃ (t3 : Bool), e2 = Ending.returned (Value.tuple #[Value.agg #[Value.int
    IntKind.i64 x1, Value.int IntKind.i64 x2], Value.bool t3]) ∧ KeepX true w.heap.size [m2, m1] (fun _ => False) w7 w8 ∧ ∀ (m3 : Nat), w8.heap.size ≤ m3 → (-9223372036854775808 ≤
    x1 - r1 ∧ x1 - r1 ≤ 9223372036854775807) ∧ ∃ (F1 : List Lf → World → Prop), ∃ (F2 : List Lf → Nat), (∀ (w9 : World), RowKit.Below w.heap.size w w9 → Kept [m3, m2, m1] w8 w9 →
    F1 [Lf.bool t3, Lf.int IntKind.i64 (x1 - r1)] w9) ∧ ∀ (t4 : Bool) (x3 : Int) (w10 : World), RowKit.Below w.heap.size w w10 → F1 [Lf.bool t4, Lf.int IntKind.i64 x3] w10 → (t4 =
    true → (-9223372036854775808 ≤ x2 + r1 ∧ x2 + r1 ≤ 9223372036854775807) ∧ (x3 ≤ x2 + r1 → ∀ (w11 : World), RowKit.Below w.heap.size w w11 → Kept [m3, m2, m1] w10 w11 → Calls
    Try.prog 22 #[Value.agg #[Value.int IntKind.i64 r0, Value.int IntKind.i64 r1, Value.int IntKind.i64 r2, Value.int IntKind.i64 r3, Value.int IntKind.i64 r4, Value.slice r5a r5n
    r5c], Value.agg #[Value.int IntKind.i64 c0, Value.int IntKind.i64 c1, Value.slice c2a c2n c2c], Value.agg #[Value.int IntKind.i64 c4, Value.int IntKind.i64 c5], Value.agg
    #[Value.int IntKind.i64 x1, Value.int IntKind.i64 x2], Value.int IntKind.i64 x3] w11 fun (e3 : Ending) (w12 : World) => ∃ (x4 : Int), ∃ (x5 : Int), ∃ (a1 : Option Addr), ∃ (m4
    : Nat), ∃ (m5 : Nat), ∃ (t5 : Bool), e3 = Ending.returned (Value.tuple #[Value.agg #[Value.int IntKind.i64 x4, Value.int IntKind.i64 x5, Value.slice a1 m4 m5], Value.bool t5])
    ∧ KeepX true w.heap.size [m3, m2, m1] (fun _ => False) w11 w12 ∧ ∀ (m6 : Nat), w12.heap.size ≤ m6 → ∃ (F3 : List Lf → World → Prop), ∃ (F4 : List Lf → Nat), (∀ (w13 : World),
    RowKit.Below w.heap.size w w13 → Kept [m6, m3, m2, m1] w12 w13 → F3 [Lf.bool !t5, Lf.int IntKind.i64 0] w13) ∧ ∀ (t6 : Bool) (x6 : Int) (w14 : World), RowKit.Below w.heap.size
    w w14 → F3 [Lf.bool t6, Lf.int IntKind.i64 x6] w14 → (x6 < (↑ln : Int) → ((!t6) = true → ∃ (m7 : Nat), ∃ (m8 : Nat), la = some { block := m7, off := m8 } ∧ (0 ≤ x6 ∧ x6 < (↑ln
    : Int)) ∧ ∃ (x7 : Int), w14.cell? { block := m7, off := m8 + x6.toNat * 6 + 3 } = some (Value.int IntKind.i64 x7) ∧ (m7 < w.heap.size ∨ m7 ≠ m6 ∧ m7 ≠ m3 ∧ m7 ≠ m2 ∧ m7 ≠ m1) ∧
    (x7 < c3 → ∃ (m9 : Nat), ∃ (m10 : Nat), la = some { block := m9, off := m10 } ∧ (0 ≤ x6 ∧ x6 < (↑ln : Int)) ∧ ∃ (x8 : Int), ∃ (x9 : Int), ∃ (a2 : Option Addr), ∃ (m11 : Nat), ∃
    (m12 : Nat), ∃ (x10 : Int), ∃ (x11 : Int), ∃ (x12 : Int), w14.cell? { block := m9, off := m10 + x6.toNat * 6 } = some (Value.int IntKind.i64 x8) ∧ w14.cell?
    { block := m9, off := m10 + x6.toNat * 6 + 1 } = some (Value.int IntKind.i64 x9) ∧ w14.cell? { block := m9, off := m10 + x6.toNat * 6 + 1 + 1 } = some (Value.slice a2 m11 m12)
    ∧ w14.cell? { block := m9, off := m10 + x6.toNat * 6 + 1 + 1 + 1 } = some (Value.int IntKind.i64 x10) ∧ w14.cell? { block := m9, off := m10 + x6.toNat * 6 + 1 + 1 + 1 + 1 } =
    some (Value.int IntKind.i64 x11) ∧ w14.cell? { block := m9, off := m10 + x6.toNat * 6 + 1 + 1 + 1 + 1 + 1 } = some (Value.int IntKind.i64 x12) ∧ (m9 < w.heap.size ∨ m9 ≠ m6 ∧
    m9 ≠ m3 ∧ m9 ≠ m2 ∧ m9 ≠ m1) ∧ ∀ (w15 : World), RowKit.Below w.heap.size w w15 → KeptIn [(0, w14.heap.size)] [m6, m3, m2, m1] w14 w15 → Calls Try.prog 74 #[Value.agg
    #[Value.int IntKind.i64 x8, Value.int IntKind.i64 x9, Value.slice a2 m11 m12, Value.int IntKind.i64 x10, Value.int IntKind.i64 x11, Value.int IntKind.i64 x12], Value.agg
    #[Value.int IntKind.i64 x4, Value.int IntKind.i64 x5, Value.slice a1 m4 m5]] w15 fun (e4 : Ending) (w16 : World) => ∃ (t7 : Bool), e4 = Ending.returned (Value.bool t7) ∧ KeepX
    true w.heap.size [m6, m3, m2, m1] (fun _ => False) w15 w16 ∧ (-9223372036854775808 ≤ x6 + 1 ∧ x6 + 1 ≤ 9223372036854775807) ∧ ∀ (w17 : World), RowKit.Below w.heap.size w w17 →
    Kept [m6, m3, m2, m1] w16 w17 → F3 [Lf.bool t7, Lf.int IntKind.i64 (x6 + 1)] w17 ∧ F4 [Lf.bool t7, Lf.int IntKind.i64 (x6 + 1)] < F4 [Lf.bool t6, Lf.int IntKind.i64 x6]) ∧ (c3
    ≤ x7 → (-9223372036854775808 ≤ x6 + 1 ∧ x6 + 1 ≤ 9223372036854775807) ∧ ∀ (w18 : World), RowKit.Below w.heap.size w w18 → Kept [m6, m3, m2, m1] w14 w18 → F3 [Lf.bool false,
    Lf.int IntKind.i64 (x6 + 1)] w18 ∧ F4 [Lf.bool false, Lf.int IntKind.i64 (x6 + 1)] < F4 [Lf.bool t6, Lf.int IntKind.i64 x6])) ∧ ((!t6) = false → (-9223372036854775808 ≤ x3 + 1
    ∧ x3 + 1 ≤ 9223372036854775807) ∧ ∀ (w19 : World), RowKit.Below w.heap.size w w19 → Kept [m6, m3, m2, m1] w14 w19 → F1 [Lf.bool t6, Lf.int IntKind.i64 (x3 + 1)] w19 ∧ F2
    [Lf.bool t6, Lf.int IntKind.i64 (x3 + 1)] < F2 [Lf.bool t4, Lf.int IntKind.i64 x3])) ∧ ((↑ln : Int) ≤ x6 → (-9223372036854775808 ≤ x3 + 1 ∧ x3 + 1 ≤ 9223372036854775807) ∧ ∀
    (w20 : World), RowKit.Below w.heap.size w w20 → Kept [m6, m3, m2, m1] w14 w20 → F1 [Lf.bool t6, Lf.int IntKind.i64 (x3 + 1)] w20 ∧ F2 [Lf.bool t6, Lf.int IntKind.i64 (x3 + 1)]
    < F2 [Lf.bool t4, Lf.int IntKind.i64 x3])) ∧ (x2 + r1 < x3 → ∀ (w21 : World), RowKit.Below w.heap.size w w21 → Kept [m3, m2, m1] w10 w21 → R (Ending.returned (Value.bool t4))
    w21)) ∧ (t4 = false → ∀ (w22 : World), RowKit.Below w.heap.size w w22 → Kept [m3, m2, m1] w10 w22 → R (Ending.returned (Value.bool t4)) w22))) : Calls Try.prog 59 #[Value.agg
    #[Value.int IntKind.i64 r0, Value.int IntKind.i64 r1, Value.int IntKind.i64 r2, Value.int IntKind.i64 r3, Value.int IntKind.i64 r4, Value.slice r5a r5n r5c], Value.slice la ln
    lc, Value.agg #[Value.int IntKind.i64 c0, Value.int IntKind.i64 c1, Value.slice c2a c2n c2c, Value.int IntKind.i64 c3, Value.int IntKind.i64 c4, Value.int IntKind.i64 c5]] w R
    := calls_of_vc (pure := true) (wrapAt := []) (muts := []) (esc := []) (args := [SV.pv (PV.agg [Lf.int IntKind.i64 r0, Lf.int IntKind.i64 r1, Lf.int IntKind.i64 r2, Lf.int
    IntKind.i64 r3, Lf.int IntKind.i64 r4, Lf.sl r5a r5n r5c]), SV.pv (PV.one (Lf.sl la ln lc)), SV.pv (PV.agg [Lf.int IntKind.i64 c0, Lf.int IntKind.i64 c1, Lf.sl c2a c2n c2c,
    Lf.int IntKind.i64 c3, Lf.int IntKind.i64 c4, Lf.int IntKind.i64 c5])]) (vs := [Value.agg #[Value.int IntKind.i64 r0, Value.int IntKind.i64 r1, Value.int IntKind.i64 r2,
    Value.int IntKind.i64 r3, Value.int IntKind.i64 r4, Value.slice r5a r5n r5c], Value.slice la ln lc, Value.agg #[Value.int IntKind.i64 c0, Value.int IntKind.i64 c1, Value.slice
    c2a c2n c2c, Value.int IntKind.i64 c3, Value.int IntKind.i64 c4, Value.int IntKind.i64 c5]]) Try.func59 rfl rfl rfl (Eq.mp (by kernel_rfl) h) 
set_option maxRecDepth 100000 in
set_option maxHeartbeats 2000000 in
theorem vc5 (r0 : Int) (r1 : Int) (r2 : Int) (r3 : Int) (r4 : Int) (r5a : Option Addr) (r5n : Nat) (r5c : Nat) (la : Option Addr) (ln : Nat) (lc : Nat) (w : World) (R : Ending →
    World → Prop) (h : ∀ (m1 : Nat), w.heap.size ≤ m1 → (10 < (↑r5n : Int) → ∀ (w1 : World), RowKit.Below w.heap.size w w1 → Kept [m1] w w1 → Calls Try.prog 12 #[] w1 fun (e1 :
    Ending) (w2 : World) => ∃ (t1 : Bool), e1 = Ending.returned (Value.bool t1) ∧ KeepX true w.heap.size [m1] (fun _ => False) w1 w2 ∧ ∀ (w3 : World), RowKit.Below w.heap.size w w3
    → Kept [m1] w2 w3 → R (Ending.returned (Value.bool t1)) w3) ∧ ((↑r5n : Int) ≤ 10 → (60 < (↑ln : Int) → ∀ (w4 : World), RowKit.Below w.heap.size w w4 → Kept [m1] w w4 → Calls
    Try.prog 12 #[] w4 fun (e2 : Ending) (w5 : World) => ∃ (t2 : Bool), e2 = Ending.returned (Value.bool t2) ∧ KeepX true w.heap.size [m1] (fun _ => False) w4 w5 ∧ ∀ (w6 : World),
    RowKit.Below w.heap.size w w6 → Kept [m1] w5 w6 → R (Ending.returned (Value.bool t2)) w6) ∧ ((↑ln : Int) ≤ 60 → ∃ (F1 : List Lf → World → Prop), ∃ (F2 : List Lf → Nat), (∀ (w7
    : World), RowKit.Below w.heap.size w w7 → Kept [m1] w w7 → F1 [Lf.bool false, Lf.int IntKind.i64 0] w7) ∧ ∀ (t3 : Bool) (x1 : Int) (w8 : World), RowKit.Below w.heap.size w w8 →
    F1 [Lf.bool t3, Lf.int IntKind.i64 x1] w8 → (x1 < (↑ln : Int) → ∃ (m2 : Nat), ∃ (m3 : Nat), la = some { block := m2, off := m3 } ∧ (0 ≤ x1 ∧ x1 < (↑ln : Int)) ∧ ∃ (a1 : Option
    Addr), ∃ (m4 : Nat), ∃ (m5 : Nat), w8.cell? { block := m2, off := m3 + x1.toNat * 6 + 0 + 2 } = some (Value.slice a1 m4 m5) ∧ (m2 < w.heap.size ∨ m2 ≠ m1) ∧ (10 < (↑m4 : Int) →
    ∀ (w9 : World), RowKit.Below w.heap.size w w9 → Kept [m1] w8 w9 → Calls Try.prog 12 #[] w9 fun (e3 : Ending) (w10 : World) => ∃ (t4 : Bool), e3 = Ending.returned (Value.bool
    t4) ∧ KeepX true w.heap.size [m1] (fun _ => False) w9 w10 ∧ ∀ (w11 : World), RowKit.Below w.heap.size w w11 → Kept [m1] w10 w11 → R (Ending.returned (Value.bool t4)) w11) ∧
    ((↑m4 : Int) ≤ 10 → (-9223372036854775808 ≤ x1 + 1 ∧ x1 + 1 ≤ 9223372036854775807) ∧ ∀ (w12 : World), RowKit.Below w.heap.size w w12 → Kept [m1] w8 w12 → F1 [Lf.bool t3, Lf.int
    IntKind.i64 (x1 + 1)] w12 ∧ F2 [Lf.bool t3, Lf.int IntKind.i64 (x1 + 1)] < F2 [Lf.bool t3, Lf.int IntKind.i64 x1])) ∧ ((↑ln : Int) ≤ x1 → ∀ (w13 : World), RowKit.Below
    w.heap.size w w13 → Kept [m1] w8 w13 → Calls Try.prog 27 #[Value.slice la ln lc] w13 fun (e4 : Ending) (w14 : World) => ∃ (a2 : Option Addr), ∃ (m6 : Nat), ∃ (m7 : Nat), e4 =
    Ending.returned (Value.slice a2 m6 m7) ∧ KeepX true w.heap.size [m1] (fun _ => False) w13 w14 ∧ ∀ (w15 : World), RowKit.Below w.heap.size w w15 → Kept [m1] w14 w15 → Calls
    Try.prog 13 #[Value.agg #[Value.int IntKind.i64 r0, Value.int IntKind.i64 r1, Value.int IntKind.i64 r2, Value.int IntKind.i64 r3, Value.int IntKind.i64 r4, Value.slice r5a r5n
    r5c]] w15 fun (e5 : Ending) (w16 : World) => ∃ (x2 : Int), ∃ (x3 : Int), ∃ (x4 : Int), ∃ (x5 : Int), ∃ (x6 : Int), ∃ (a3 : Option Addr), ∃ (m8 : Nat), ∃ (m9 : Nat), e5 =
    Ending.returned (Value.agg #[Value.int IntKind.i64 x2, Value.int IntKind.i64 x3, Value.int IntKind.i64 x4, Value.int IntKind.i64 x5, Value.int IntKind.i64 x6, Value.slice a3 m8
    m9]) ∧ KeepX true w.heap.size [m1] (fun _ => False) w15 w16 ∧ ∀ (w17 : World), RowKit.Below w.heap.size w w17 → Kept [m1] w16 w17 → Calls Try.prog 28 #[Value.agg #[Value.int
    IntKind.i64 x2, Value.int IntKind.i64 x3, Value.int IntKind.i64 x4, Value.int IntKind.i64 x5, Value.int IntKind.i64 x6, Value.slice a3 m8 m9], Value.slice a2 m6 m7] w17 fun (e6
    : Ending) (w18 : World) => ∃ (x7 : Int), ∃ (x8 : Int), e6 = Ending.returned (Value.tuple #[Value.int IntKind.i64 x7, Value.int IntKind.i64 x8]) ∧ KeepX true w.heap.size [m1]
    (fun _ => False) w17 w18 ∧ ∃ (F3 : List Lf → World → Prop), ∃ (F4 : List Lf → Nat), (∀ (w19 : World), RowKit.Below w.heap.size w w19 → Kept [m1] w18 w19 → F3 [Lf.bool t3,
    Lf.int IntKind.i64 0] w19) ∧ ∀ (t5 : Bool) (x9 : Int) (w20 : World), RowKit.Below w.heap.size w w20 → F3 [Lf.bool t5, Lf.int IntKind.i64 x9] w20 → (x9 < (↑ln : Int) → ∃ (m10 :
    Nat), ∃ (m11 : Nat), a2 = some { block := m10, off := m11 } ∧ (0 ≤ x9 ∧ x9 < (↑m6 : Int)) ∧ ∃ (x10 : Int), ∃ (x11 : Int), ∃ (a4 : Option Addr), ∃ (m12 : Nat), ∃ (m13 : Nat),
    w20.cell? { block := m10, off := m11 + x9.toNat * 6 + 0 } = some (Value.int IntKind.i64 x10) ∧ w20.cell? { block := m10, off := m11 + x9.toNat * 6 + 0 + 1 } = some (Value.int
    IntKind.i64 x11) ∧ w20.cell? { block := m10, off := m11 + x9.toNat * 6 + 0 + 1 + 1 } = some (Value.slice a4 m12 m13) ∧ (m10 < w.heap.size ∨ m10 ≠ m1) ∧ ∃ (m14 : Nat), ∃ (m15 :
    Nat), la = some { block := m14, off := m15 } ∧ (0 ≤ x9 ∧ x9 < (↑ln : Int)) ∧ ∃ (x12 : Int), ∃ (x13 : Int), ∃ (a5 : Option Addr), ∃ (m16 : Nat), ∃ (m17 : Nat), w20.cell?
    { block := m14, off := m15 + x9.toNat * 6 + 0 } = some (Value.int IntKind.i64 x12) ∧ w20.cell? { block := m14, off := m15 + x9.toNat * 6 + 0 + 1 } = some (Value.int IntKind.i64
    x13) ∧ w20.cell? { block := m14, off := m15 + x9.toNat * 6 + 0 + 1 + 1 } = some (Value.slice a5 m16 m17) ∧ (m14 < w.heap.size ∨ m14 ≠ m1) ∧ ∀ (w21 : World), RowKit.Below
    w.heap.size w w21 → KeptIn [(0, w20.heap.size)] [m1] w20 w21 → Calls Try.prog 19 #[Value.agg #[Value.int IntKind.i64 x10, Value.int IntKind.i64 x11, Value.slice a4 m12 m13],
    Value.agg #[Value.int IntKind.i64 x12, Value.int IntKind.i64 x13, Value.slice a5 m16 m17]] w21 fun (e7 : Ending) (w22 : World) => ∃ (t6 : Bool), e7 = Ending.returned
    (Value.bool t6) ∧ KeepX true w.heap.size [m1] (fun _ => False) w21 w22 ∧ ((!t6) = true → ∀ (w23 : World), RowKit.Below w.heap.size w w23 → Kept [m1] w22 w23 → R
    (Ending.returned (Value.bool false)) w23) ∧ ((!t6) = false → ∃ (m18 : Nat), ∃ (m19 : Nat), a2 = some { block := m18, off := m19 } ∧ (0 ≤ x9 ∧ x9 < (↑m6 : Int)) ∧ ∃ (x14 : Int),
    w22.cell? { block := m18, off := m19 + x9.toNat * 6 + 3 } = some (Value.int IntKind.i64 x14) ∧ (m18 < w.heap.size ∨ m18 ≠ m1) ∧ ∃ (m20 : Nat), ∃ (m21 : Nat), la = some
    { block := m20, off := m21 } ∧ (0 ≤ x9 ∧ x9 < (↑ln : Int)) ∧ ∃ (x15 : Int), w22.cell? { block := m20, off := m21 + x9.toNat * 6 + 3 } = some (Value.int IntKind.i64 x15) ∧ (m20
    < w.heap.size ∨ m20 ≠ m1) ∧ (x14 ≠ x15 → ∀ (w24 : World), RowKit.Below w.heap.size w w24 → Kept [m1] w22 w24 → R (Ending.returned (Value.bool false)) w24) ∧ (x14 = x15 → ∃ (m22
    : Nat), ∃ (m23 : Nat), a2 = some { block := m22, off := m23 } ∧ (0 ≤ x9 ∧ x9 < (↑m6 : Int)) ∧ ∃ (x16 : Int), ∃ (x17 : Int), w22.cell?
    { block := m22, off := m23 + x9.toNat * 6 + 4 } = some (Value.int IntKind.i64 x16) ∧ w22.cell? { block := m22, off := m23 + x9.toNat * 6 + 4 + 1 } = some (Value.int IntKind.i64
    x17) ∧ (m22 < w.heap.size ∨ m22 ≠ m1) ∧ ∃ (m24 : Nat), ∃ (m25 : Nat), la = some { block := m24, off := m25 } ∧ (0 ≤ x9 ∧ x9 < (↑ln : Int)) ∧ ∃ (x18 : Int), ∃ (x19 : Int),
    w22.cell? { block := m24, off := m25 + x9.toNat * 6 + 4 } = some (Value.int IntKind.i64 x18) ∧ w22.cell? { block := m24, off := m25 + x9.toNat * 6 + 4 + 1 } = some (Value.int
    IntKind.i64 x19) ∧ (m24 < w.heap.size ∨ m24 ≠ m1) ∧ ∀ (w25 : World), RowKit.Below w.heap.size w w25 → KeptIn [(0, w22.heap.size)] [m1] w22 w25 → RunsTo Try.prog ((eqGuard
    BinOp.neq 36 (Operand.tmp 81) (Operand.tmp 86) (Value.agg #[Value.int IntKind.i64 x16, Value.int IntKind.i64 x17]) (Value.agg #[Value.int IntKind.i64 x18, Value.int IntKind.i64
    x19])) >>= fun _ => binOp BinOp.neq 36 (Value.agg #[Value.int IntKind.i64 x16, Value.int IntKind.i64 x17]) (Value.agg #[Value.int IntKind.i64 x18, Value.int IntKind.i64 x19]))
    w25 fun (v1 : Value) (w26 : World) => ∃ (t7 : Bool), v1 = Value.bool t7 ∧ KeepX true w.heap.size [m1] (fun _ => False) w25 w26 ∧ (t7 = true → ∀ (w27 : World), RowKit.Below
    w.heap.size w w27 → Kept [m1] w26 w27 → R (Ending.returned (Value.bool false)) w27) ∧ (t7 = false → (-9223372036854775808 ≤ x9 + 1 ∧ x9 + 1 ≤ 9223372036854775807) ∧ ∀ (w28 :
    World), RowKit.Below w.heap.size w w28 → Kept [m1] w26 w28 → F3 [Lf.bool t5, Lf.int IntKind.i64 (x9 + 1)] w28 ∧ F4 [Lf.bool t5, Lf.int IntKind.i64 (x9 + 1)] < F4 [Lf.bool t5,
    Lf.int IntKind.i64 x9])))) ∧ ((↑ln : Int) ≤ x9 → ∀ (w29 : World), RowKit.Below w.heap.size w w29 → Kept [m1] w20 w29 → Calls Try.prog 17 #[Value.agg #[Value.int IntKind.i64 r0,
    Value.int IntKind.i64 r1, Value.int IntKind.i64 r2, Value.int IntKind.i64 r3, Value.int IntKind.i64 r4, Value.slice r5a r5n r5c]] w29 fun (e8 : Ending) (w30 : World) => ∃ (x20
    : Int), e8 = Ending.returned (Value.int IntKind.i64 x20) ∧ KeepX true w.heap.size [m1] (fun _ => False) w29 w30 ∧ (x20 = 0 → ∀ (w31 : World), RowKit.Below w.heap.size w w31 →
    Kept [m1] w30 w31 → Calls Try.prog 29 #[Value.agg #[Value.int IntKind.i64 r0, Value.int IntKind.i64 r1, Value.int IntKind.i64 r2, Value.int IntKind.i64 r3, Value.int
    IntKind.i64 r4, Value.slice r5a r5n r5c], Value.slice la ln lc] w31 fun (e9 : Ending) (w32 : World) => ∃ (x21 : Int), e9 = Ending.returned (Value.int IntKind.i64 x21) ∧ KeepX
    true w.heap.size [m1] (fun _ => False) w31 w32 ∧ (x21 ≠ 0 → (x8 = x21 → (x7 = 0 → ∀ (w33 : World), RowKit.Below w.heap.size w w33 → Kept [m1] w32 w33 → Calls Try.prog 12 #[]
    w33 fun (e10 : Ending) (w34 : World) => ∃ (t8 : Bool), e10 = Ending.returned (Value.bool t8) ∧ KeepX true w.heap.size [m1] (fun _ => False) w33 w34 ∧ ∀ (w35 : World),
    RowKit.Below w.heap.size w w35 → Kept [m1] w34 w35 → R (Ending.returned (Value.bool t8)) w35) ∧ (x7 ≠ 0 → ∀ (w36 : World), RowKit.Below w.heap.size w w36 → Kept [m1] w32 w36 →
    R (Ending.returned (Value.bool false)) w36)) ∧ (x8 ≠ x21 → ∀ (w37 : World), RowKit.Below w.heap.size w w37 → Kept [m1] w32 w37 → R (Ending.returned (Value.bool false)) w37)) ∧
    (x21 = 0 → (x8 = 0 → ∀ (w38 : World), RowKit.Below w.heap.size w w38 → Kept [m1] w32 w38 → Calls Try.prog 30 #[Value.agg #[Value.int IntKind.i64 r0, Value.int IntKind.i64 r1,
    Value.int IntKind.i64 r2, Value.int IntKind.i64 r3, Value.int IntKind.i64 r4, Value.slice r5a r5n r5c], Value.slice la ln lc] w38 fun (e11 : Ending) (w39 : World) => ∃ (x22 :
    Int), e11 = Ending.returned (Value.int IntKind.i64 x22) ∧ KeepX true w.heap.size [m1] (fun _ => False) w38 w39 ∧ (x7 = x22 → ∀ (w40 : World), RowKit.Below w.heap.size w w40 →
    Kept [m1] w39 w40 → Calls Try.prog 12 #[] w40 fun (e12 : Ending) (w41 : World) => ∃ (t9 : Bool), e12 = Ending.returned (Value.bool t9) ∧ KeepX true w.heap.size [m1] (fun _ =>
    False) w40 w41 ∧ ∀ (w42 : World), RowKit.Below w.heap.size w w42 → Kept [m1] w41 w42 → R (Ending.returned (Value.bool t9)) w42) ∧ (x7 ≠ x22 → ∀ (w43 : World), RowKit.Below
    w.heap.size w w43 → Kept [m1] w39 w43 → R (Ending.returned (Value.bool false)) w43)) ∧ (x8 ≠ 0 → ∀ (w44 : World), RowKit.Below w.heap.size w w44 → Kept [m1] w32 w44 → R
    (Ending.returned (Value.bool false)) w44))) ∧ (x20 ≠ 0 → (x20 ≠ 0 → (x8 = x20 → (x7 = 0 → ∀ (w45 : World), RowKit.Below w.heap.size w w45 → Kept [m1] w30 w45 → Calls Try.prog
    12 #[] w45 fun (e13 : Ending) (w46 : World) => ∃ (t10 : Bool), e13 = Ending.returned (Value.bool t10) ∧ KeepX true w.heap.size [m1] (fun _ => False) w45 w46 ∧ ∀ (w47 : World),
    RowKit.Below w.heap.size w w47 → Kept [m1] w46 w47 → R (Ending.returned (Value.bool t10)) w47) ∧ (x7 ≠ 0 → ∀ (w48 : World), RowKit.Below w.heap.size w w48 → Kept [m1] w30 w48 →
    R (Ending.returned (Value.bool false)) w48)) ∧ (x8 ≠ x20 → ∀ (w49 : World), RowKit.Below w.heap.size w w49 → Kept [m1] w30 w49 → R (Ending.returned (Value.bool false)) w49)) ∧
    (x20 = 0 → (x8 = 0 → ∀ (w50 : World), RowKit.Below w.heap.size w w50 → Kept [m1] w30 w50 → Calls Try.prog 30 #[Value.agg #[Value.int IntKind.i64 r0, Value.int IntKind.i64 r1,
    Value.int IntKind.i64 r2, Value.int IntKind.i64 r3, Value.int IntKind.i64 r4, Value.slice r5a r5n r5c], Value.slice la ln lc] w50 fun (e14 : Ending) (w51 : World) => ∃ (x23 :
    Int), e14 = Ending.returned (Value.int IntKind.i64 x23) ∧ KeepX true w.heap.size [m1] (fun _ => False) w50 w51 ∧ (x7 = x23 → ∀ (w52 : World), RowKit.Below w.heap.size w w52 →
    Kept [m1] w51 w52 → Calls Try.prog 12 #[] w52 fun (e15 : Ending) (w53 : World) => ∃ (t11 : Bool), e15 = Ending.returned (Value.bool t11) ∧ KeepX true w.heap.size [m1] (fun _ =>
    False) w52 w53 ∧ ∀ (w54 : World), RowKit.Below w.heap.size w w54 → Kept [m1] w53 w54 → R (Ending.returned (Value.bool t11)) w54) ∧ (x7 ≠ x23 → ∀ (w55 : World), RowKit.Below
    w.heap.size w w55 → Kept [m1] w51 w55 → R (Ending.returned (Value.bool false)) w55)) ∧ (x8 ≠ 0 → ∀ (w56 : World), RowKit.Below w.heap.size w w56 → Kept [m1] w30 w56 → R
    (Ending.returned (Value.bool false)) w56)))))))) : Calls Try.prog 5 #[Value.agg #[Value.int IntKind.i64 r0, Value.int IntKind.i64 r1, Value.int IntKind.i64 r2, Value.int
    IntKind.i64 r3, Value.int IntKind.i64 r4, Value.slice r5a r5n r5c], Value.slice la ln lc] w R := calls_of_vc (pure := true) (wrapAt := []) (muts := []) (esc := []) (args :=
    [SV.pv (PV.agg [Lf.int IntKind.i64 r0, Lf.int IntKind.i64 r1, Lf.int IntKind.i64 r2, Lf.int IntKind.i64 r3, Lf.int IntKind.i64 r4, Lf.sl r5a r5n r5c]), SV.pv (PV.one (Lf.sl la
    ln lc))]) (vs := [Value.agg #[Value.int IntKind.i64 r0, Value.int IntKind.i64 r1, Value.int IntKind.i64 r2, Value.int IntKind.i64 r3, Value.int IntKind.i64 r4, Value.slice r5a
    r5n r5c], Value.slice la ln lc]) Try.func5 rfl rfl rfl (Eq.mp (by kernel_rfl) h) 
end Go.Proofs
end
section
/- The laws' copies of claims. -/
namespace Go.Proofs.R07
open Go.Vc Go.RowKit Go.Proofs

/-- The blocks of the claims' weights. -/
def ubs (l : List ClM) : List Nat := l.filterMap fun x => if x.1.st.used = [] then none else x.2.1.map Addr.block
theorem mem_ubs {l : List ClM} {n : Nat} : n ∈ ubs l ↔ ∃ x ∈ l, x.1.st.used ≠ [] ∧ ∃ ad, x.2.1 = some ad ∧ ad.block = n := by
  unfold ubs
  rw [List.mem_filterMap]
  refine exists_congr fun x => and_congr Iff.rfl ?_
  by_cases h : x.1.st.used = []
  · simp [h]
  · simp [h]
theorem bools_nil {l : List Bool} : bools l = [] ↔ l = [] := by simp [bools]

theorem chg_sub {bs cs : List Nat} {w w' : World} (h : Chg bs w w') (hs : ∀ x ∈ bs, x ∈ cs) : Chg cs w w' := h.mono fun x hx => .inl (hs x hx)
/-- Each claim's weights. -/
def UsedAt (lo : Nat) (w : World) (l : List ClM) : Prop := ∀ x ∈ l, Cells w x.2.1 (bools x.1.st.used) ∧ Rng lo w.heap.size (bools x.1.st.used) x.2.1
theorem cells_out {w w' : World} {a : Option Addr} {vs : List Value} {S : List Nat} (h : Cells w a vs) (hc : Chg S w w') (hs : ∀ b o, a = some ⟨b, o, none⟩ → vs ≠ [] → b ∉ S) : Cells w' a vs := fun i v hi => by
  obtain ⟨b, o, e, hcl⟩ := h i v hi
  exact ⟨b, o, e, hc.cell (hs b o e (fun h => by rw [h] at hi; simp at hi)) hcl⟩
theorem Rng.up {lo hi hi' : Nat} {vs : List Value} {a : Option Addr} (h : Rng lo hi vs a) (hh : hi ≤ hi') : Rng lo hi' vs a := h.imp id fun h b o e => ⟨(h b o e).1, by have := (h b o e).2; omega⟩
theorem Rng.down {lo lo' hi : Nat} {vs : List Value} {a : Option Addr} (h : Rng lo hi vs a) (hh : lo' ≤ lo) : Rng lo' hi vs a := h.imp id fun h b o e => ⟨by have := (h b o e).1; omega, (h b o e).2⟩
theorem UsedAt.chg {lo : Nat} {w w' : World} {l : List ClM} {S : List Nat} (h : UsedAt lo w l) (hc : Chg S w w') (hs : ∀ n ∈ ubs l, n ∉ S) : UsedAt lo w' l := fun x hx =>
  ⟨cells_out (h x hx).1 hc fun b o e hne => hs b (mem_ubs.2 ⟨x, hx, fun h => hne (bools_nil.2 h), _, e, rfl⟩), (h x hx).2.up hc.size⟩
theorem UsedAt.ub {lo : Nat} {w : World} {l : List ClM} (h : UsedAt lo w l) {n : Nat} (hn : n ∈ ubs l) : lo ≤ n ∧ n < w.heap.size := by
  obtain ⟨x, hx, hne, ⟨b, o, sp⟩, e, rfl⟩ := mem_ubs.1 hn
  have hne' : bools x.1.st.used ≠ [] := fun h => hne (bools_nil.1 h)
  obtain ⟨b', o', e', _⟩ := (h x hx).1 0 _ (List.getElem?_eq_getElem (List.length_pos_iff.2 hne'))
  rw [e] at e'
  simp only [Option.some.injEq, Addr.mk.injEq] at e'
  obtain ⟨rfl, rfl, rfl⟩ := e'
  rcases (h x hx).2 with h0 | h0
  · exact absurd h0 hne'
  · exact h0 b o e

def ClsPost (l : List ClM) (w : World) (e : Ending) (w' : World) : Prop := ∃ a c, ∃ l' : List ClM, e = .returned (.slice a l.length c) ∧ Below w.heap.size w w' ∧ l'.map (·.1) = l.map (·.1) ∧
  Cells w' a (l'.flatMap clV) ∧ Rng w.heap.size w'.heap.size (l'.flatMap clV) a ∧ UsedAt w.heap.size w' l'

theorem ClsPost.at {l' : List ClM} {w : World} {a : Option Addr} {lo : Nat} (h1 : Cells w a (l'.flatMap clV)) (h2 : UsedAt lo w l') : ClsAt w a l' := ⟨h1, fun x hx => (h2 x hx).1⟩

set_option maxHeartbeats 2000000 in
theorem claims_any {l : List ClM} {la : Option Addr} {lc : Nat} {w : World} (hl : ClsAt w la l) (hn : l.length ≤ 100000) (hu : ∀ x ∈ l, x.1.st.used.length ≤ 100000) : Calls Try.prog 27 #[.slice la l.length lc] w (ClsPost l w) := by
  refine vc27 _ _ _ w _ fun m1 h1 => ?_
  refine ⟨fun ls w' => match ls with | [.sl a' n c', .int _ x] => 0 ≤ x ∧ x ≤ l.length ∧ n = x.toNat ∧ ∃ l' : List ClM, l'.map (·.1) = (l.take x.toNat).map (·.1) ∧ RowE 56 6 w.heap.size (ubs l') a' n c' (l'.flatMap clV) w' ∧ UsedAt w.heap.size w' l' | _ => False,
    fun ls => match ls with | [_, .int _ x] => ((l.length : Int) - x).toNat | _ => 0, fun w1 hb hk _ => ⟨by omega, by omega, rfl, [], rfl, RowE.lit, fun x hx => by simp at hx⟩, ?_⟩
  rintro a1 n1 c1 x w2 hb2 ⟨h0, hx, rfl, l', hl', hrow, hused⟩
  refine ⟨fun hlt => ?_, fun hge w8 hb8 hk8 => ?_⟩
  · have hix : x.toNat < l.length := by omega
    have hget := getElem_of_lt hix
    generalize l[x.toNat] = cl at hget
    have hmem : cl ∈ l := List.mem_of_getElem? hget
    obtain ⟨p, q, rfl, d0⟩ := hl.row _ _ (cl_get hget (j := 0) (v := I cl.1.st.lo) rfl (by omega))
    have d1 := Cells.at hl.row (cl_get hget (j := 1) (v := I cl.1.st.hi) rfl (by omega))
    have d2 := Cells.at hl.row (cl_get hget (j := 2) (v := .slice cl.2.1 cl.1.st.used.length cl.2.2) rfl (by omega))
    have d3 := Cells.at hl.row (cl_get hget (j := 3) (v := I cl.1.visits) rfl (by omega))
    have d4 := Cells.at hl.row (cl_get hget (j := 4) (v := I cl.1.turns) rfl (by omega))
    have d5 := Cells.at hl.row (cl_get hget (j := 5) (v := I cl.1.weight) rfl (by omega))
    refine ⟨p, q, rfl, ⟨h0, hlt⟩, _, _, _, _, _, cell_at (cell_keep hb2 d0) (by omega), cell_at (cell_keep hb2 d1) (by omega), cell_at (cell_keep hb2 d2) (by omega), fun w3 hb3 hk3 => ?_⟩
    refine (state_any cl.1.st ((hl.used cl hmem).keep hb3) (hu cl hmem)).mono fun e w4 he => ?_
    obtain ⟨a3, c3, rfl, hb4, D4, _, N4⟩ := he
    have R4 := Rng.of D4 N4
    refine ⟨_, _, a3, _, c3, rfl, hb4, p, q, rfl, ⟨h0, hlt⟩, _, cell_at (cell_keep hb2 d3) (by omega), p, q, rfl, ⟨h0, hlt⟩, _, _, cell_at (cell_keep hb2 d4) (by omega), cell_at (cell_keep hb2 d5) (by omega), fun m14 g1 g2 w5 hb5 hk5 hc5 => ?_⟩
    have z3 := hk3.size
    have z4 := hb4.size
    have z5 := hk5.size
    have C5 : Chg [m14] w2 w5 := chg_in' (chg_sub (chg_in hk3) (by simp)) hb4 hk5
    have D5 := R4.kin D4 hk5 (by simp; omega) ⟨(w3.heap.size, w4.heap.size), by simp, Nat.le_refl _, Nat.le_refl _⟩
    have o14 := hk5.own m14 (by simp)
    let l2 : List ClM := l' ++ [(cl.1, a3, c3)]
    have U5' := hused.chg C5 (by
      intro n hn
      have := (hused.ub hn).2
      simp; omega)
    have U5 : UsedAt w.heap.size w5 l2 := fun y hy => by
      rcases List.mem_append.1 hy with hy | hy
      · exact U5' y hy
      · rw [List.mem_singleton.1 hy]
        exact ⟨D5, (R4.down (by have := hb3.size; omega)).up z5⟩
    have hub : ∀ n ∈ ubs l2, n ∈ ubs l' ∨ w2.heap.size ≤ n := fun n hn => by
      obtain ⟨y, hy, hne, ad, e, rfl⟩ := mem_ubs.1 hn
      rcases List.mem_append.1 hy with hy | hy
      · exact .inl (mem_ubs.2 ⟨y, hy, hne, ad, e, rfl⟩)
      · rw [List.mem_singleton.1 hy] at hne e
        right
        have hne' : bools cl.1.st.used ≠ [] := fun h => hne (bools_nil.1 h)
        obtain ⟨b', o', e', _⟩ := D5 0 _ (List.getElem?_eq_getElem (List.length_pos_iff.2 hne'))
        simp only at e
        rw [e] at e'
        obtain rfl := Option.some.inj e'
        rcases R4 with h | h
        · exact absurd h hne'
        · have := (h b' o' e).1
          simp only; omega
    have R2 : RowE 56 6 w.heap.size ([m14] ++ ubs l2) a1 x.toNat c1 (l'.flatMap clV) w2 := by
      have := hrow.grow (ms := m14 :: (ubs l2).filter fun n => decide (w2.heap.size ≤ n)) (by
        intro m hm
        rcases List.mem_cons.1 hm with rfl | hm
        · exact g1
        · simpa using (List.mem_filter.1 hm).2)
      refine this.less fun n hn => ?_
      rcases List.mem_append.1 hn with hn | hn
      · rw [List.mem_singleton.1 hn]; simp
      · rcases hub n hn with h | h
        · exact List.mem_append_right _ h
        · exact List.mem_append_left _ (List.mem_cons_of_mem _ (List.mem_filter.2 ⟨hn, by simpa using h⟩))
    have R5 := R2.chg C5 (by simp)
    refine append_rowE (P := Try.prog) (bytes := 64) (by kernel_rfl) (by omega) R5 (m := 1) (news := clV (cl.1, a3, c3)) (Cells.obj (vs := clV (cl.1, a3, c3)) hc5) rfl (by simp [clV]; exact ⟨rfl, rfl, rfl, rfl, rfl, rfl⟩) (by omega) (by omega) hb5.size (by
      intro n hn
      rcases List.mem_append.1 hn with hn | hn
      · rw [List.mem_singleton.1 hn]; exact o14
      · exact (U5.ub hn).2) (by omega) fun a4 c4 w6 R6 S cS hS => ?_
    have U6 := U5.chg cS fun n hn hh => (hS n hh).2 (List.mem_append_right _ hn)
    refine ⟨a4, _, c4, rfl, cS.own (fun b hb => ⟨hk5.own b hb, fun hh => (hS b hh).2 (List.mem_append_left _ hb)⟩) (by simp) (fun _ => ⟨hb5.size, fun b hb => (hS b hb).1⟩), by omega, fun w7 hb7 hk7 => ⟨⟨by omega, by omega, by omega, l2, ?_, ?_, U6.chg (Chg.kept hk7) ?_⟩, ?_⟩⟩
    · rw [show (x + 1).toNat = x.toNat + 1 by omega, List.take_add_one, List.map_append, List.map_append, hl', hget]; rfl
    · have := ((R6.chg (Chg.kept hk7) (by simp)).drop (ms := [m14]))
      rw [show l2.flatMap clV = l'.flatMap clV ++ clV (cl.1, a3, c3) by simp [l2, List.flatMap_append]]
      exact .inr this
    · intro n hn
      rcases hub n hn with h | h
      · have := (hused.ub h).2; simp; omega
      · obtain ⟨y, hy, hne, ad, e, rfl⟩ := mem_ubs.1 hn
        rcases List.mem_append.1 hy with hy | hy
        · have := (hused.ub (mem_ubs.2 ⟨y, hy, hne, ad, e, rfl⟩)).2; omega
        · rw [List.mem_singleton.1 hy] at hne e
          have hne' : bools cl.1.st.used ≠ [] := fun h => hne (bools_nil.1 h)
          obtain ⟨b', o', e', _⟩ := D5 0 _ (List.getElem?_eq_getElem (List.length_pos_iff.2 hne'))
          simp only at e
          rw [e] at e'
          obtain rfl := Option.some.inj e'
          rcases R4 with h | h
          · exact absurd h hne'
          · have := h b' o' e
            simp; omega
    · show ((l.length : Int) - (x + 1)).toNat < ((l.length : Int) - x).toNat
      omega
  · obtain rfl : x = l.length := by omega
    have R8 := hrow.chg (Chg.kept hk8) (by simp)
    have U8 := hused.chg (Chg.kept hk8) (by simp)
    refine ⟨a1, c1, l', by simp, hb8, by simpa using hl', R8.cells, ?_, U8⟩
    exact Rng.of R8.cells (by rcases R8.new with h | h; exact .inl h; exact .inr h)
end Go.Proofs.R07
end
section
/- The reference's proofs: Covers, Follows, Proves, Claims. -/
namespace Go.Proofs.R07
open Go.Vc Go.RowKit Go.Proofs

def coversR (c : Cl) (s : St) : Bool := decide (c.st.lo ≤ s.lo) && (decide (s.hi ≤ c.st.hi) && sub (setOf s.used) (setOf c.st.used))
theorem sub_iff {a b : List Bool} (h : a.length = b.length) : sub (setOf a) (setOf b) = true ↔ ∀ (i : Nat), a[i]? = some true → b[i]? = some true := by
  unfold sub
  rw [beq_iff_eq]
  have ha : ∀ i, (setOf a).testBit i = (a[i]? == some true) := fun i => by
    have := has_setTo (l := a) (i := i) (n := a.length)
    unfold has at this
    unfold setOf
    rw [this]
    by_cases hi : i < a.length
    · rw [decide_eq_true hi, Bool.true_and]
    · rw [decide_eq_false hi, Bool.false_and, List.getElem?_eq_none (by omega)]; rfl
  have hb : ∀ i, (setOf b).testBit i = (b[i]? == some true) := fun i => by
    have := has_setTo (l := b) (i := i) (n := b.length)
    unfold has at this
    unfold setOf
    rw [this]
    by_cases hi : i < b.length
    · rw [decide_eq_true hi, Bool.true_and]
    · rw [decide_eq_false hi, Bool.false_and, List.getElem?_eq_none (by omega)]; rfl
  constructor
  · intro h i hi
    have := congrArg (fun n => Nat.testBit n i) h
    simp only [Nat.testBit_and, ha, hb, hi] at this
    simpa using this
  · intro h
    apply Nat.eq_of_testBit_eq
    intro i
    rw [Nat.testBit_and, ha, hb]
    by_cases hi : a[i]? = some true
    · rw [hi, h i hi]; rfl
    · have : (a[i]? == some true) = false := by simpa using hi
      rw [this]; rfl

theorem covers_any (c : Cl) (s : St) {a b : Option Addr} {k d : Nat} {w : World} (hc : Cells w a (bools c.st.used)) (hs : Cells w b (bools s.used)) (hl : s.used.length = c.st.used.length) (hn : s.used.length ≤ 100000) :
    Calls Try.prog 74 #[ClV c a k, s.v b d] w (Pure w (.bool (coversR c s))) := by
  have hsub := sub_iff hl
  refine vc74 _ _ _ _ _ _ _ _ _ _ _ _ _ w _ fun m1 h1 m2 h2 => ⟨fun h w1 hb _ => ⟨?_, hb⟩, fun h0 => ⟨fun h w2 hb _ => ⟨?_, hb⟩, fun h3 => ?_⟩⟩
  · unfold coversR; rw [decide_eq_false (by omega)]; rfl
  · unfold coversR; rw [decide_eq_true h0, decide_eq_false (by omega)]; rfl
  have hval : coversR c s = sub (setOf s.used) (setOf c.st.used) := by unfold coversR; rw [decide_eq_true h0, decide_eq_true h3]; rfl
  rw [hval]
  refine ⟨fun ls _ => match ls with | [_, .int _ x] => 0 ≤ x ∧ x ≤ s.used.length ∧ ∀ j : Nat, (j : Int) < x → s.used[j]? = some true → c.st.used[j]? = some true | _ => False, fun ls => match ls with | [_, .int _ x] => ((s.used.length : Int) - x).toNat | _ => 0, fun w3 hb _ => ⟨by omega, by omega, fun j hj => by omega⟩, ?_⟩
  rintro t x w4 hb4 ⟨g0, gn, hj⟩
  refine ⟨fun hx => ?_, fun hx w8 hb8 _ => ⟨?_, hb8⟩⟩
  · have hix : x.toNat < s.used.length := by omega
    have hiy : x.toNat < c.st.used.length := by omega
    obtain ⟨p, q, rfl, c1⟩ := hs x.toNat _ (bools_get (getElem_of_lt hix))
    have nxt : ∀ {w' : World}, (s.used[x.toNat] = true → c.st.used[x.toNat] = true) → (0 ≤ x + 1 ∧ x + 1 ≤ s.used.length ∧ ∀ j : Nat, (j : Int) < x + 1 → s.used[j]? = some true → c.st.used[j]? = some true) := fun {_} h => ⟨by omega, by omega, fun j hjx hj1 => by
      by_cases e : (j : Int) < x
      · exact hj j e hj1
      · obtain rfl : j = x.toNat := by omega
        rw [getElem_of_lt hix] at hj1
        rw [getElem_of_lt hiy, h (Option.some.inj hj1)]⟩
    have hm : ((s.used.length : Int) - (x + 1)).toNat < ((s.used.length : Int) - x).toNat := by omega
    refine ⟨p, q, rfl, ⟨g0, hx⟩, s.used[x.toNat], cell_at (cell_keep hb4 c1) (by omega), .inl (cell_lt c1), fun ht => ?_, fun hf => ⟨by omega, fun w7 hb7 _ => ⟨nxt (w' := w7) fun h => (by rw [hf] at h; cases h), hm⟩⟩⟩
    obtain ⟨p', q', rfl, c2⟩ := hc x.toNat _ (bools_get (getElem_of_lt hiy))
    refine ⟨p', q', rfl, ⟨g0, by omega⟩, c.st.used[x.toNat], cell_at (cell_keep hb4 c2) (by omega), .inl (cell_lt c2), fun hn w5 hb5 _ => ⟨?_, hb5⟩, fun hn => ⟨by omega, fun w6 hb6 _ => ⟨nxt (w' := w6) fun _ => by simpa using hn, hm⟩⟩⟩
    have : sub (setOf s.used) (setOf c.st.used) = false := by
      rw [Bool.eq_false_iff]
      intro h
      have := hsub.1 h x.toNat (by rw [getElem_of_lt hix, ht])
      rw [getElem_of_lt hiy] at this
      rw [Option.some.inj this] at hn
      cases hn
    rw [this]
  · have : sub (setOf s.used) (setOf c.st.used) = true := hsub.2 fun i hi => by
      by_cases e : (i : Int) < x
      · exact hj i e hi
      · rw [List.getElem?_eq_none (by omega)] at hi; cases hi
    rw [this]

/-- A claim covers what remains. -/
def coversSp (c : Cl) (u : Nat) (sp : Sp) : Bool := decide (c.st.lo ≤ sp.1) && (decide (sp.2 ≤ c.st.hi) && sub u (setOf c.st.used))
def refFollows (r : Rules) (l : List Cl) (c : Cl) : Bool :=
  if c.visits = 0 then decide ((c.turns, c.weight) = (0, -1)) && (decide (-r.limit ≤ c.st.lo) && decide (c.st.hi ≤ r.limit))
  else match move r (c.st.lo, c.st.hi) (setOf c.st.used) (c.turns, c.weight) with
    | none => false
    | some (m, u) => seenAll r m fun sp => l.any fun x => decide (x.visits < c.visits) && coversSp x u sp

set_option maxHeartbeats 4000000 in
theorem refFollows_any {r : Rules} (hr : Good r) {a : Option Addr} {n : Nat} {w : World} (hc : Cells w a (spans r.ws)) {l : List ClM} {la : Option Addr} {lc : Nat} (hl : ClsAt w la l) (hlen : (l.length : Int) ≤ 1000000) (hok : ∀ x ∈ l, okCl r x.1)
    {c : Cl} (hco : okCl r c) {b : Option Addr} {k : Nat} (hu : Cells w b (bools c.st.used)) :
    Calls Try.prog 59 #[r.v a n, .slice la l.length lc, ClV c b k] w (Pure w (.bool (refFollows r (l.map (·.1)) c))) := by
  obtain ⟨hst, hv0, hv6⟩ := hco
  have hst' : startErr r c.st = 0 ∨ True := .inr trivial
  obtain ⟨hsp, hul3⟩ := okCl_facts hr ⟨hst, hv0, hv6⟩
  have hul : c.st.used.length = r.ws.length := by
    unfold okSt at hst; simp only [Bool.and_eq_true, beq_iff_eq] at hst; exact hst.2
  have herr := hr.2.2.1
  obtain ⟨q1, q2, q3⟩ := hsp
  simp only at q1 q2 q3
  refine vc59 _ _ _ _ _ _ _ _ _ _ _ _ _ _ _ _ _ _ _ w _ fun m1 h1 m2 h2 => ⟨fun hv w1 hb1 _ => ?_, fun hv w7 hb7 k7 => ?_⟩
  · have hval : refFollows r (l.map (·.1)) c = (decide ((c.turns, c.weight) = (0, -1)) && (decide (-r.limit ≤ c.st.lo) && decide (c.st.hi ≤ r.limit))) := by unfold refFollows; rw [if_pos hv]
    refine eql_act ⟨_, rfl, .all (.refl _ _), fun ht w3 hb3 _ => Pure.calls (good2_any hr c.st) fun w4 hb4 => ⟨_, rfl, .all hb4, fun w5 hb5 _ => ⟨?_, hb5⟩⟩, fun hf w6 hb6 _ => ⟨?_, hb6⟩⟩
    · rw [hval, ht, Bool.true_and]
    · rw [hval, hf]; rfl
  refine (image_any hr ⟨q1, q2, q3⟩ hul (hc.keep hb7) (hu.keep hb7) c.turns c.weight).mono fun e w8 he => ?_
  obtain ⟨lo, hi, rfl, b8, himg, n1, n2, n3, n4⟩ := he
  refine ⟨_, _, _, rfl, .all b8, fun m3 h3 => ⟨by omega, ?_⟩⟩
  cases hmv : move r (c.st.lo, c.st.hi) (setOf c.st.used) (c.turns, c.weight) with
  | none =>
    have hval : refFollows r (l.map (·.1)) c = false := by unfold refFollows; rw [if_neg hv, hmv]
    refine ⟨fun ls _ => match ls with | [.bool t, .int _ _] => t = false | _ => False, fun _ => 0, fun w9 hb9 _ => rfl, ?_⟩
    rintro t x w10 hb10 rfl
    exact ⟨fun h => (by cases h), fun _ w22 hb22 _ => ⟨by rw [hval], hb22⟩⟩
  | some q =>
    obtain ⟨q, mu⟩ := q
    obtain rfl : q = (lo, hi) := himg _ hmv
    have huu : setOf c.st.used < 8 := setOf_lt (by have := hr.1; omega)
    obtain ⟨hmu, p1, p2, p3⟩ := move_facts hr huu hmv
    simp only at p1 p2 p3
    let f (sp : Sp) : Bool := (l.map (·.1)).any fun x => decide (x.visits < c.visits) && coversSp x mu sp
    have hval : refFollows r (l.map (·.1)) c = seenAll r (lo, hi) f := by unfold refFollows; rw [if_neg hv, hmv]
    let good (i : Nat) : Bool := !decide ((nextSp r (lo, hi) (lo - r.err + i)).1 ≤ (nextSp r (lo, hi) (lo - r.err + i)).2) || f (nextSp r (lo, hi) (lo - r.err + i))
    have hz8 := b8.size
    refine ⟨fun ls w' => match ls with | [.bool t, .int _ z] => ∃ j : Nat, z = lo - r.err + j ∧ j ≤ (hi - lo + 2 * r.err + 1).toNat ∧ (t = true → ∀ i, i < j → good i = true) ∧ (t = false → seenAll r (lo, hi) f = false) ∧ m1 < w'.heap.size ∧ m2 < w'.heap.size ∧ m3 < w'.heap.size | _ => False, fun ls => match ls with | [_, .int _ z] => (hi + r.err + 1 - z).toNat | _ => 0,
      fun w9 hb9 k9 => ⟨0, by omega, by omega, fun _ i hi => by omega, fun h => (by cases h), k9.own m1 (by simp), k9.own m2 (by simp), k9.own m3 (by simp)⟩, ?_⟩
    rintro t z w10 hb10 ⟨j, rfl, hj, hgood, hbad, o1, o2, o3⟩
    refine ⟨fun ht => ⟨by omega, fun hz w11 hb11 k11 => ?_, fun hz w21 hb21 _ => ⟨?_, hb21⟩⟩, fun hf w22 hb22 _ => ⟨by rw [hval, hbad hf, hf], hb22⟩⟩
    · have hy := (move_next hr hul hmv).1
      refine (next_any r c.st (hu.keep hb11) (by have := hr.1; omega) c.turns c.weight hy (lo, hi) (lo - r.err + j) (by omega) (by omega) (by omega) (by omega)).mono fun e w12 he => ?_
      obtain ⟨a5, c5, rfl, b12, A12, _, N12⟩ := he
      have R12 := Rng.of A12 N12
      have z11 := k11.size
      have z12 := b12.size
      have u1 := k11.own m1 (by simp)
      have u2 := k11.own m2 (by simp)
      have u3 := k11.own m3 (by simp)
      obtain ⟨hset, hlenN⟩ := move_set hr hul hmv (lo, hi) (lo - r.err + j)
      have hnsp : nextSp r (lo, hi) (lo - r.err + j) = ((nextR r c.st c.weight (lo, hi) (lo - r.err + j)).lo, (nextR r c.st c.weight (lo, hi) (lo - r.err + j)).hi) := rfl
      have hcov : ∀ x : Cl, coversR x (nextR r c.st c.weight (lo, hi) (lo - r.err + j)) = coversSp x mu (nextSp r (lo, hi) (lo - r.err + j)) := fun x => by unfold coversR coversSp; rw [hset, hnsp]
      generalize nextR r c.st c.weight (lo, hi) (lo - r.err + j) = nx at *
      refine ⟨_, _, a5, _, c5, _, rfl, .all b12, fun m6 h6 => ?_⟩
      let g (x : ClM) : Bool := decide (x.1.visits < c.visits) && coversSp x.1 mu (nextSp r (lo, hi) (lo - r.err + j))
      have hgd : good j = (!decide (nx.lo ≤ nx.hi) || l.any g) := by
        show (_ || _) = _
        rw [hnsp]
        congr 1
        show (l.map _).any _ = _
        rw [List.any_map]
        refine List.any_congr rfl fun x => ?_
        show _ = (_ && _)
        rw [hnsp]; rfl
      refine ⟨fun ls w' => match ls with | [.bool t, .int _ x] => 0 ≤ x ∧ x ≤ l.length ∧ t = (!decide (nx.lo ≤ nx.hi) || (l.take x.toNat).any g) ∧ Cells w' a5 (bools nx.used) ∧ m1 < w'.heap.size ∧ m2 < w'.heap.size ∧ m3 < w'.heap.size ∧ m6 < w'.heap.size | _ => False, fun ls => match ls with | [_, .int _ x] => ((l.length : Int) - x).toNat | _ => 0,
        fun w13 hb13 k13 => ⟨by omega, by omega, by simp, R12.cells A12 (Chg.kept k13) (by simp; omega), k13.own m1 (by simp), k13.own m2 (by simp), k13.own m3 (by simp), k13.own m6 (by simp)⟩, ?_⟩
      rintro t6 x w14 hb14 ⟨g0, gn, ht6, A14, e1, e2, e3, e6⟩
      have back : ∀ {t' : Bool} {w' : World}, t' = good j → Kept [m6, m3, m2, m1] w14 w' → (∃ j' : Nat, lo - r.err + j + 1 = lo - r.err + j' ∧ j' ≤ (hi - lo + 2 * r.err + 1).toNat ∧ (t' = true → ∀ i, i < j' → good i = true) ∧ (t' = false → seenAll r (lo, hi) f = false) ∧ m1 < w'.heap.size ∧ m2 < w'.heap.size ∧ m3 < w'.heap.size) := fun {t' w'} ht' hk => ⟨j + 1, by omega, by omega, fun h i hi => by
          by_cases e : i < j
          · exact hgood ht i e
          · obtain rfl : i = j := by omega
            rw [← ht']; exact h, fun h => (by
          rw [Bool.eq_false_iff]
          intro hs
          have := (List.all_eq_true.1 hs) j (List.mem_range.2 (by simp only; omega))
          have hgj : good j = true := this
          rw [← ht', h] at hgj
          cases hgj), hk.own m1 (by simp), hk.own m2 (by simp), hk.own m3 (by simp)⟩
      have hmeas : (hi + r.err + 1 - (lo - r.err + j + 1)).toNat < (hi + r.err + 1 - (lo - r.err + j)).toNat := by omega
      refine ⟨fun hx => ⟨fun hnt => ?_, fun hnt => ⟨by omega, fun w19 hb19 k19 => ⟨back ?_ k19, hmeas⟩⟩⟩, fun hx => ⟨by omega, fun w20 hb20 k20 => ⟨back ?_ k20, hmeas⟩⟩⟩
      · have hix : x.toNat < l.length := by omega
        have hget := getElem_of_lt hix
        have hnt' : (!decide (nx.lo ≤ nx.hi) || (l.take x.toNat).any g) = false := by rw [← ht6]; simpa using hnt
        have htake : ∀ y, l[x.toNat]? = some y → (!decide (nx.lo ≤ nx.hi) || (l.take (x + 1).toNat).any g) = g y := fun y hy => by
          rw [show (x + 1).toNat = x.toNat + 1 by omega, List.take_add_one, List.any_append, ← Bool.or_assoc, hnt', hy]
          simp
        generalize hcl : l[x.toNat] = cl at hget
        have hmem : cl ∈ l := List.mem_of_getElem? hget
        obtain ⟨p, q, rfl, d0⟩ := hl.row _ _ (cl_get hget (j := 0) (v := I cl.1.st.lo) rfl (by omega))
        have d1 := Cells.at hl.row (cl_get hget (j := 1) (v := I cl.1.st.hi) rfl (by omega))
        have d2 := Cells.at hl.row (cl_get hget (j := 2) (v := .slice cl.2.1 cl.1.st.used.length cl.2.2) rfl (by omega))
        have d3 := Cells.at hl.row (cl_get hget (j := 3) (v := I cl.1.visits) rfl (by omega))
        have d4 := Cells.at hl.row (cl_get hget (j := 4) (v := I cl.1.turns) rfl (by omega))
        have d5 := Cells.at hl.row (cl_get hget (j := 5) (v := I cl.1.weight) rfl (by omega))
        have hx2 : ((l.length : Int) - (x + 1)).toNat < ((l.length : Int) - x).toNat := by omega
        refine ⟨p, q, rfl, ⟨g0, hx⟩, _, cell_at (cell_keep hb14 d3) (by omega), .inl (cell_lt d3), fun hlt => ?_, fun hge => ⟨by omega, fun w18 hb18 k18 => ⟨⟨by omega, by omega, ?_, R12.cells A14 (Chg.kept k18) (by simp; omega), k18.own m1 (by simp), k18.own m2 (by simp), k18.own m3 (by simp), k18.own m6 (by simp)⟩, hx2⟩⟩⟩
        · refine ⟨p, q, rfl, ⟨g0, hx⟩, _, _, _, _, _, _, _, _, cell_at (cell_keep hb14 d0) (by omega), cell_at (cell_keep hb14 d1) (by omega), cell_at (cell_keep hb14 d2) (by omega), cell_at (cell_keep hb14 d3) (by omega), cell_at (cell_keep hb14 d4) (by omega), cell_at (cell_keep hb14 d5) (by omega), .inl (cell_lt d3), fun w15 hb15 k15 => ?_⟩
          have A15 := R12.cells A14 (chg_in k15) (by simp; omega)
          have hokx := hok cl hmem
          have hlx : cl.1.st.used.length = r.ws.length := by
            have := hokx.1; unfold okSt at this; simp only [Bool.and_eq_true, beq_iff_eq] at this; exact this.2
          have y1 := k15.own m1 (by simp)
          have y2 := k15.own m2 (by simp)
          have y3 := k15.own m3 (by simp)
          have y6 := k15.own m6 (by simp)
          refine Pure.calls (covers_any cl.1 nx ((hl.used cl hmem).keep hb15) A15 (by rw [hlenN, hul, hlx]) (by rw [hlenN]; have := hr.1; omega)) fun w16 hb16 => ⟨_, rfl, .all hb16, by omega, fun w17 hb17 k17 => ⟨⟨by omega, by omega, ?_, R12.cells (A15.keep hb16) (Chg.kept k17) (by simp; omega), k17.own m1 (by simp), k17.own m2 (by simp), k17.own m3 (by simp), k17.own m6 (by simp)⟩, hx2⟩⟩
          rw [htake _ hget, hcov]
          show _ = (_ && _)
          rw [decide_eq_true hlt, Bool.true_and]
        · rw [htake _ hget]
          show _ = (_ && _)
          rw [decide_eq_false (by omega)]; rfl
      · rw [hgd, ht6]
        have : (!decide (nx.lo ≤ nx.hi) || (l.take x.toNat).any g) = true := by rw [← ht6]; simpa using hnt
        rw [this]
        symm
        rcases Bool.or_eq_true_iff.1 this with h | h
        · rw [h]; rfl
        · obtain ⟨y, hy, hgy⟩ := List.any_eq_true.1 h
          rw [List.any_eq_true.2 ⟨y, List.mem_of_mem_take hy, hgy⟩, Bool.or_true]
      · rw [hgd, ht6, List.take_of_length_le (by omega)]
    · rw [hval, ht]
      have : seenAll r (lo, hi) f = true := List.all_eq_true.2 fun i hi' => hgood ht i (by have := List.mem_range.1 hi'; simp only at this; omega)
      rw [this]
end Go.Proofs.R07
end
section
/- What the program's proofs and the reference's say: the same. -/
namespace Go.Proofs.R07
open Go.Vc Go.RowKit Go.Proofs

theorem upd_le {c : Cl} {k : Int × Int} {u : Nat} {x t b : Int} : b ≤ upd c k u x t ↔ b ≤ t ∨ ((c.visits ≤ k.1 ∧ sub u (setOf c.st.used) = true ∧ c.st.lo = x) ∧ b ≤ c.st.hi) := by
  unfold upd
  split
  · rename_i h
    constructor
    · intro hb
      by_cases hbt : b ≤ t
      · exact .inl hbt
      · exact .inr ⟨h, by omega⟩
    · rintro (h | ⟨_, h⟩) <;> omega
  · rename_i h
    exact ⟨.inl, fun hh => hh.elim id fun hh => absurd hh.1 h⟩
theorem fold_upd_le {k : Int × Int} {u : Nat} {x b : Int} : ∀ {l : List Cl} {t : Int}, b ≤ l.foldl (fun t c => upd c k u x t) t ↔ b ≤ t ∨ ∃ c ∈ l, (c.visits ≤ k.1 ∧ sub u (setOf c.st.used) = true ∧ c.st.lo = x) ∧ b ≤ c.st.hi
  | [], t => by simp
  | c :: l, t => by
    rw [List.foldl_cons, fold_upd_le, upd_le, or_assoc]
    simp
theorem preMax_le {g : Int → Int} {b : Int} : ∀ {n : Nat}, b ≤ preMax g n ↔ ∃ i : Nat, i ≤ n ∧ b ≤ g (-300 + (i : Int))
  | 0 => by
    unfold preMax
    constructor
    · intro h; exact ⟨0, Nat.le_refl _, by simpa using h⟩
    · rintro ⟨i, hi, h⟩
      obtain rfl : i = 0 := by omega
      simpa using h
  | n + 1 => by
    unfold preMax
    rw [show (b ≤ max (g (-300 + ((n + 1 : Nat) : Int))) (preMax g n)) ↔ (b ≤ g (-300 + ((n + 1 : Nat) : Int)) ∨ b ≤ preMax g n) by omega, preMax_le]
    constructor
    · rintro (h | ⟨i, hi, h⟩)
      · exact ⟨n + 1, Nat.le_refl _, h⟩
      · exact ⟨i, by omega, h⟩
    · rintro ⟨i, hi, h⟩
      by_cases e : i = n + 1
      · subst e; exact .inl h
      · exact .inr ⟨i, by omega, h⟩
theorem reachV_le {l : List Cl} {v : Int} {u : Nat} {x b : Int} (h1 : -300 ≤ x) (hb : x ≤ b) (hlo : ∀ c ∈ l, -300 ≤ c.st.lo) :
    b ≤ reachV l (v, (u : Int)) x ↔ ∃ c ∈ l, c.visits ≤ v ∧ sub u (setOf c.st.used) = true ∧ c.st.lo ≤ x ∧ b ≤ c.st.hi := by
  unfold reachV
  rw [preMax_le]
  constructor
  · rintro ⟨i, hi, h⟩
    unfold reachB at h
    rw [fold_upd_le] at h
    rcases h with h | ⟨c, hc, ⟨g1, g2, g3⟩, g4⟩
    · omega
    · exact ⟨c, hc, g1, by simpa using g2, by omega, g4⟩
  · rintro ⟨c, hc, g1, g2, g3, g4⟩
    have := hlo c hc
    refine ⟨(c.st.lo + 300).toNat, by omega, ?_⟩
    unfold reachB
    rw [fold_upd_le]
    exact .inr ⟨c, hc, ⟨g1, by simpa using g2, by omega⟩, g4⟩

theorem seen_windows {e : Int} (he : 0 ≤ e) {lo hi : Int} (hlh : lo ≤ hi) {Q : Int → Int → Prop} (hQ : ∀ a b a' b', a ≤ a' → b' ≤ b → Q a b → Q a' b') :
    (∀ seen : Int, lo - e ≤ seen → seen ≤ hi + e → max lo (seen - e) ≤ min hi (seen + e) → Q (max lo (seen - e)) (min hi (seen + e))) ↔
    ∀ f : Int, lo ≤ f → f ≤ max lo (hi - 2 * e) → Q f (min hi (f + 2 * e)) := by
  constructor
  · intro h f h1 h2
    have := h (f + e) (by omega) (by omega) (by omega)
    rwa [show max lo (f + e - e) = f by omega, show min hi (f + e + e) = min hi (f + 2 * e) by congr 1; omega] at this
  · intro h seen h1 h2 h3
    by_cases hc : max lo (seen - e) ≤ max lo (hi - 2 * e)
    · exact hQ _ _ _ _ (Int.le_refl _) (by omega) (h _ (by omega) hc)
    · exact hQ _ _ _ _ (by omega) (by omega) (h (max lo (hi - 2 * e)) (by omega) (by omega))

theorem follows_eq {r : Rules} (hr : Good r) {l : List Cl} (hok : ∀ c ∈ l, okCl r c) {c : Cl} (hc : okCl r c) : refFollows r l c = followsR r l c := by
  have herr := hr.2.2.1
  have hlim := hr.2.1
  have hlo : ∀ x ∈ l, okSp (x.st.lo, x.st.hi) := fun x hx => (okCl_facts hr (hok x hx)).1
  obtain ⟨hsp, hul⟩ := okCl_facts hr hc
  obtain ⟨q1, q2, q3⟩ := hsp
  simp only at q1 q2 q3
  unfold refFollows followsR
  split
  · congr 1
    unfold goodTo
    by_cases h : -r.limit ≤ c.st.lo
    · by_cases h2 : c.st.lo ≤ r.limit
      · rw [decide_eq_true h, if_pos ⟨h, h2⟩, Bool.true_and]
      · rw [decide_eq_true h, if_neg (fun hh => h2 hh.2), Bool.true_and, decide_eq_false (by omega), decide_eq_false (by omega)]
    · rw [decide_eq_false h, if_neg (fun hh => h hh.1), Bool.false_and, decide_eq_false (by omega)]
  · cases hm : move r (c.st.lo, c.st.hi) (setOf c.st.used) (c.turns, c.weight) with
    | none => rfl
    | some q =>
      obtain ⟨⟨lo, hi⟩, u⟩ := q
      have huu : setOf c.st.used < 8 := setOf_lt hul
      obtain ⟨_, p1, p2, p3⟩ := move_facts hr huu hm
      simp only at p1 p2 p3
      simp only
      rw [Bool.eq_iff_iff, seenAll_iff]
      have hQ := seen_windows (e := r.err) herr.1 p2 (Q := fun a b => ∃ x ∈ l, x.visits ≤ c.visits - 1 ∧ sub u (setOf x.st.used) = true ∧ x.st.lo ≤ a ∧ b ≤ x.st.hi) fun a b a' b' h1 h2 ⟨x, hx, g1, g2, g3, g4⟩ => ⟨x, hx, g1, g2, by omega, by omega⟩
      have e1 : ∀ sp : Sp, (l.any fun x => decide (x.visits < c.visits) && coversSp x u sp) = true ↔ ∃ x ∈ l, x.visits ≤ c.visits - 1 ∧ sub u (setOf x.st.used) = true ∧ x.st.lo ≤ sp.1 ∧ sp.2 ≤ x.st.hi := fun sp => by
        rw [List.any_eq_true]
        refine exists_congr fun x => and_congr Iff.rfl ?_
        unfold coversSp
        simp only [Bool.and_eq_true, decide_eq_true_eq]
        constructor
        · rintro ⟨g1, g2, g3, g4⟩; exact ⟨by omega, g4, g2, g3⟩
        · rintro ⟨g1, g2, g3, g4⟩; exact ⟨by omega, g3, g4, g2⟩
      simp only [e1]
      refine hQ.trans ?_
      rw [List.all_eq_true]
      constructor
      · intro h i hi'
        have hi2 := List.mem_range.1 hi'
        rw [decide_eq_true_eq, reachV_le (by omega) (by omega) fun x hx => (hlo x hx).1]
        have := h (lo + i) (by omega) (by omega)
        exact this
      · intro h f h1 h2
        have := h (f - lo).toNat (List.mem_range.2 (by omega))
        rw [decide_eq_true_eq, reachV_le (by omega) (by omega) fun x hx => (hlo x hx).1] at this
        rw [show lo + ((f - lo).toNat : Int) = f by omega] at this
        exact this
end Go.Proofs.R07
end
section
/- RateProofs: the walk. -/
namespace Go.Proofs.R07
open Go.Vc Go.RowKit Go.Proofs

/-- The cells of one claim. -/
theorem cl_cells {l : List ClM} {la : Option Addr} {w : World} (hl : Cells w la (l.flatMap clV)) {x : Int} (h0 : 0 ≤ x) (hx : x < l.length) :
    ∃ (b o : Nat) (cl : ClM), la = some ⟨b, o, none⟩ ∧ l[x.toNat]? = some cl ∧ cl ∈ l ∧ b < w.heap.size ∧ ∀ {j : Nat} {v : Value} {k : Nat}, (clV cl)[j]? = some v → j < 6 → k = o + x.toNat * 6 + j → w.cell? ⟨b, k, none⟩ = some v := by
  have hix : x.toNat < l.length := by omega
  obtain ⟨b, o, e, d0⟩ := hl _ _ (cl_get (getElem_of_lt hix) (j := 0) (v := I l[x.toNat].1.st.lo) rfl (by omega))
  subst e
  refine ⟨b, o, l[x.toNat], rfl, getElem_of_lt hix, List.getElem_mem hix, cell_lt d0, fun hv hj hk => ?_⟩
  exact cell_at (Cells.at hl (cl_get (getElem_of_lt hix) hv hj)) (by omega)

def claimsErr (r : Rules) (l : List Cl) : Int := if 30000 < l.length then 5 else if l.all (okClB r) = false then 2 else 0

theorem refClaims_any (r : Rules) {a : Option Addr} {n : Nat} {w : World} {l : List ClM} {la : Option Addr} {lc : Nat} (hl : ClsAt w la l) :
    Calls Try.prog 29 #[r.v a n, .slice la l.length lc] w (Pure w (I (claimsErr r (l.map (·.1))))) := by
  have hlm : (l.map (·.1)).length = l.length := List.length_map _
  refine vc29 _ _ _ _ _ _ _ _ _ _ _ w _ fun m1 h1 => ⟨fun h w1 hb _ => ⟨?_, hb⟩, fun h => ?_⟩
  · unfold claimsErr; rw [if_pos (by rw [hlm]; omega)]
  have two : ∀ {w' : World}, (∃ x ∈ l, okClB r x.1 = false) → Below w.heap.size w w' → Pure w (I (claimsErr r (l.map (·.1)))) (.returned (I 2)) w' := fun {w'} ⟨x, hx, hf⟩ hb => ⟨(by
    unfold claimsErr
    rw [if_neg (by rw [hlm]; omega), if_pos]
    rw [Bool.eq_false_iff]
    intro h
    have := List.all_eq_true.1 h x.1 (List.mem_map_of_mem hx)
    rw [this] at hf
    cases hf), hb⟩
  refine ⟨fun ls _ => match ls with | [_, .int _ x] => 0 ≤ x ∧ x ≤ l.length ∧ ∀ (j : Nat) y, (j : Int) < x → l[j]? = some y → okClB r y.1 = true | _ => False, fun ls => match ls with | [_, .int _ x] => ((l.length : Int) - x).toNat | _ => 0, fun w2 hb _ => ⟨by omega, by omega, fun j y hj => by omega⟩, ?_⟩
  rintro x1 x w3 hb3 ⟨h0, hn, hj⟩
  refine ⟨fun hx => ?_, fun hx w10 hb10 _ => ⟨?_, hb10⟩⟩
  · obtain ⟨b, o, cl, rfl, hget, hmem, hlt, gj⟩ := cl_cells hl.row h0 hx
    refine ⟨b, o, rfl, ⟨h0, hx⟩, _, _, _, _, _, cell_keep hb3 (gj (j := 0) rfl (by omega) (by omega)), cell_keep hb3 (gj (j := 1) rfl (by omega) (by omega)), cell_keep hb3 (gj (j := 2) rfl (by omega) (by omega)), .inl hlt, fun w4 hb4 k4 => ?_⟩
    refine Pure.calls (refState_any r cl.1.st) fun w5 hb5 => ⟨_, rfl, .all hb5, fun hf w6 hb6 _ => two ⟨cl, hmem, ?_⟩ hb6, fun ht => ?_⟩
    · have : okSt r cl.1.st = false := by simpa using hf
      unfold okClB; rw [this]; rfl
    have hst : okSt r cl.1.st = true := by simpa using ht
    have hB5 : Below w.heap.size w w5 := hb4.trans (hb5.mono hb4.size)
    refine ⟨b, o, rfl, ⟨h0, hx⟩, _, cell_keep hB5 (gj (j := 3) rfl (by omega) (by omega)), .inl hlt, fun hv w7 hb7 _ => two ⟨cl, hmem, ?_⟩ hb7, fun hv => ⟨b, o, rfl, ⟨h0, hx⟩, _, cell_keep hB5 (gj (j := 3) rfl (by omega) (by omega)), .inl hlt, fun hv6 w8 hb8 _ => two ⟨cl, hmem, ?_⟩ hb8, fun hv6 => ⟨by omega, fun w9 hb9 _ => ⟨⟨by omega, by omega, fun j y hjx hy => ?_⟩, ?_⟩⟩⟩⟩
    · unfold okClB; rw [hst, decide_eq_false (by omega)]; rfl
    · unfold okClB; rw [hst, decide_eq_true hv, decide_eq_false (by omega)]; rfl
    · by_cases e : (j : Int) < x
      · exact hj j y e hy
      · obtain rfl : j = x.toNat := by omega
        rw [hget] at hy
        obtain rfl := Option.some.inj hy
        unfold okClB; rw [hst, decide_eq_true hv, decide_eq_true hv6]; rfl
    · show ((l.length : Int) - (x + 1)).toNat < ((l.length : Int) - x).toNat
      omega
  · have : (l.map (·.1)).all (okClB r) = true := List.all_eq_true.2 fun y hy => by
      obtain ⟨z, hz, rfl⟩ := List.mem_map.1 hy
      obtain ⟨j, hjl, rfl⟩ := List.mem_iff_getElem.1 hz
      exact hj j _ (by omega) (getElem_of_lt hjl)
    unfold claimsErr
    rw [if_neg (by rw [hlm]; omega), if_neg (by rw [this]; simp)]

theorem firstNot_at {r : Rules} {l : List Cl} {i : Nat} {c : Cl} (h : l[i]? = some c) (hf : followsR r l c = false) (hy : ∀ (j : Nat) y, j < i → l[j]? = some y → followsR r l y = true) : firstNot r l = i := by
  unfold firstNot
  have hfi : l.findIdx? (fun c => !followsR r l c) = some i := by
    rw [List.findIdx?_eq_some_iff_getElem]
    obtain ⟨hlt, hg⟩ := List.getElem?_eq_some_iff.1 h
    refine ⟨hlt, ?_, fun j hj => ?_⟩
    · rw [hg, hf]; rfl
    · rw [hy j _ hj (getElem_of_lt (by omega))]; simp
  rw [hfi]
theorem firstNot_none {r : Rules} {l : List Cl} (hy : ∀ y ∈ l, followsR r l y = true) : firstNot r l = -1 := by
  unfold firstNot
  have hfi : l.findIdx? (fun c => !followsR r l c) = none := by
    rw [List.findIdx?_eq_none_iff]
    intro c hc
    rw [hy c hc]; rfl
  rw [hfi]

theorem refProves_any {r : Rules} (hr : Good r) {a : Option Addr} {n : Nat} {w : World} (hc : Cells w a (spans r.ws)) {l : List ClM} {la : Option Addr} {lc : Nat} (hl : ClsAt w la l) (hlen : (l.length : Int) ≤ 1000000) (hok : ∀ x ∈ l, okCl r x.1) :
    Calls Try.prog 30 #[r.v a n, .slice la l.length lc] w (Pure w (I (firstNot r (l.map (·.1))))) := by
  have hokm : ∀ c ∈ l.map (·.1), okCl r c := fun c hc => by obtain ⟨z, hz, rfl⟩ := List.mem_map.1 hc; exact hok z hz
  refine vc30 _ _ _ _ _ _ _ _ _ _ _ w _ fun m1 h1 => ?_
  refine ⟨fun ls w' => match ls with | [_, .int _ x] => 0 ≤ x ∧ x ≤ l.length ∧ (∀ (j : Nat) y, (j : Int) < x → l[j]? = some y → followsR r (l.map (·.1)) y.1 = true) | _ => False, fun ls => match ls with | [_, .int _ x] => ((l.length : Int) - x).toNat | _ => 0, fun w2 hb _ => ⟨by omega, by omega, fun j y hj => by omega⟩, ?_⟩
  rintro x1 x w2 hb2 ⟨h0, hn, hj⟩
  refine ⟨fun hx => ?_, fun hx w7 hb7 _ => ⟨?_, hb7⟩⟩
  · obtain ⟨b, o, cl, rfl, hget, hmem, hlt, gj⟩ := cl_cells hl.row h0 hx
    refine ⟨b, o, rfl, ⟨h0, hx⟩, _, _, _, _, _, _, _, _, cell_keep hb2 (gj (j := 0) rfl (by omega) (by omega)), cell_keep hb2 (gj (j := 1) rfl (by omega) (by omega)), cell_keep hb2 (gj (j := 2) rfl (by omega) (by omega)), cell_keep hb2 (gj (j := 3) rfl (by omega) (by omega)), cell_keep hb2 (gj (j := 4) rfl (by omega) (by omega)), cell_keep hb2 (gj (j := 5) rfl (by omega) (by omega)), .inl hlt, fun w3 hb3 k3 => ?_⟩
    have hgm : (l.map (·.1))[x.toNat]? = some cl.1 := by rw [List.getElem?_map, hget]; rfl
    refine Pure.calls (refFollows_any hr (hc.keep hb3) (hl.keep hb3) hlen hok (hok cl hmem) ((hl.used cl hmem).keep hb3)) fun w4 hb4 => ?_
    rw [follows_eq hr hokm (hok cl hmem)]
    refine ⟨_, rfl, .all hb4, fun hf w5 hb5 _ => ⟨?_, hb5⟩, fun ht => ⟨by omega, fun w6 hb6 _ => ⟨⟨by omega, by omega, fun j y hjx hy => ?_⟩, ?_⟩⟩⟩
    · rw [firstNot_at hgm (by simpa using hf) fun j y hjx hy => ?_]
      · rw [show ((x.toNat : Nat) : Int) = x by omega]
      · rw [List.getElem?_map] at hy
        obtain ⟨z, hz, rfl⟩ := Option.map_eq_some_iff.1 hy
        exact hj j z (by omega) hz
    · by_cases e : (j : Int) < x
      · exact hj j y e hy
      · obtain rfl : j = x.toNat := by omega
        rw [hget] at hy
        obtain rfl := Option.some.inj hy
        simpa using ht
    · show ((l.length : Int) - (x + 1)).toNat < ((l.length : Int) - x).toNat
      omega
  · rw [firstNot_none]
    intro y hy
    obtain ⟨z, hz, rfl⟩ := List.mem_map.1 hy
    obtain ⟨j, hjl, rfl⟩ := List.mem_iff_getElem.1 hz
    exact hj j _ (by omega) (getElem_of_lt hjl)

theorem proves_split (r : Rules) (l : List Cl) (hok : check r = 0) : provesR r l = if claimsErr r l ≠ 0 then (0, claimsErr r l) else (firstNot r l, 0) := by
  unfold provesR claimsErr
  rw [if_neg (by omega)]
  by_cases h1 : 30000 < l.length
  · rw [if_pos h1, if_pos h1]; rfl
  · rw [if_neg h1, if_neg h1]
    by_cases h2 : l.all (okClB r) = false
    · rw [if_pos h2, if_pos h2]; rfl
    · rw [if_neg h2, if_neg h2]; rfl

set_option maxRecDepth 100000 in
set_option maxHeartbeats 4000000 in
theorem rateProofs_any (r : Rules) {l : List ClM} {a la : Option Addr} {n lc : Nat} {w : World} (hc : Cells w a (spans r.ws)) (hl : ClsAt w la l) :
    Calls Try.prog 5 #[r.v a n, .slice la l.length lc] w (Pure w (.bool true)) := by
  refine vc5 _ _ _ _ _ _ _ _ _ _ _ w _ fun m1 g1 => ⟨fun _ w1 B1 k1 => known_tail, fun hws => ⟨fun _ w4 B4 k4 => known_tail, fun hll => ?_⟩⟩
  refine ⟨fun ls w' => match ls with | [_, .int _ x] => 0 ≤ x ∧ x ≤ l.length ∧ (∀ (j : Nat) y, (j : Int) < x → l[j]? = some y → y.1.st.used.length ≤ 10) ∧ m1 < w'.heap.size | _ => False, fun ls => match ls with | [_, .int _ x] => ((l.length : Int) - x).toNat | _ => 0, fun w7 hb k7 => ⟨by omega, by omega, fun j y hj => by omega, k7.own m1 (by simp)⟩, ?_⟩
  rintro t3 x w8 hb8 ⟨h0, hn, hj, o8⟩
  refine ⟨fun hx => ?_, fun hx w13 B13 k13 => ?_⟩
  · obtain ⟨b, o, cl, rfl, hget, hmem, hlt, gj⟩ := cl_cells hl.row h0 hx
    refine ⟨b, o, rfl, ⟨h0, hx⟩, _, _, _, cell_keep hb8 (gj (j := 2) rfl (by omega) (by omega)), .inl hlt, fun _ w9 B9 k9 => known_tail, fun hul => ⟨by omega, fun w12 B12 k12 => ⟨⟨by omega, by omega, fun j y hjx hy => ?_, k12.own m1 (by simp)⟩, ?_⟩⟩⟩
    · by_cases e : (j : Int) < x
      · exact hj j y e hy
      · obtain rfl : j = x.toNat := by omega
        rw [hget] at hy
        obtain rfl := Option.some.inj hy
        omega
    · show ((l.length : Int) - (x + 1)).toNat < ((l.length : Int) - x).toNat
      omega
  have hu10 : ∀ y ∈ l, y.1.st.used.length ≤ 10 := fun y hy => by
    obtain ⟨j, hjl, rfl⟩ := List.mem_iff_getElem.1 hy
    exact hj j _ (by omega) (getElem_of_lt hjl)
  refine (claims_any (hl.keep B13) (by omega) (fun y hy => by have := hu10 y hy; omega)).mono fun e w14 he => ?_
  obtain ⟨a2, c2, l', rfl, b14, hl', A14, R14, U14⟩ := he
  have o13 := k13.own m1 (by simp)
  have hub : ∀ {w' : World}, UsedAt w13.heap.size w' l' → ∀ nn ∈ ubs l', nn ∉ [m1] := fun hU nn hnn => by
    have := (hU.ub hnn).1; simp; omega
  have hlen' : l'.length = l.length := by have := congrArg List.length hl'; simpa using this
  refine ⟨a2, _, c2, rfl, .all b14, fun w15 B15 k15 => ?_⟩
  have A15 := R14.cells A14 (Chg.kept k15) (by simp; omega)
  have U15 := U14.chg (Chg.kept k15) (hub U14)
  refine (copied_any r (hc.keep B15) (by omega)).mono fun e w16 he => ?_
  obtain ⟨a3, c3, rfl, b16, D16, _, N3⟩ := he
  have R3 := Rng.of D16 N3
  have o15 := k15.own m1 (by simp)
  refine ⟨_, _, _, _, _, a3, _, c3, rfl, .all b16, fun w17 B17 k17 => ?_⟩
  have A17 := R14.cells (A15.keep b16) (Chg.kept k17) (by simp; omega)
  have U16 := U15.chg (Chg.of_below (S := []) b16) (by simp)
  have U17 := U16.chg (Chg.kept k17) (hub U16)
  have D17 := R3.cells D16 (Chg.kept k17) (by simp; omega)
  have hpv := proves_any r (c := c3) D17 (la := a2) (lc := c2) (ClsPost.at A17 U17) (by omega)
  rw [hl', hlen'] at hpv
  refine Pure.calls hpv fun w18 b18 => ⟨_, _, rfl, .all b18, fun ls w' => match ls with | [_, .int _ x] => 0 ≤ x ∧ x ≤ l.length ∧ Cells w' a2 (l'.flatMap clV) ∧ UsedAt w13.heap.size w' l' ∧ m1 < w'.heap.size | _ => False, fun ls => match ls with | [_, .int _ x] => ((l.length : Int) - x).toNat | _ => 0,
    fun w19 B19 k19 => ⟨by omega, by omega, R14.cells (A17.keep b18) (Chg.kept k19) (by simp; omega), ?_, k19.own m1 (by simp)⟩, ?_⟩
  · have U18 := U17.chg (Chg.of_below (S := []) b18) (by simp)
    exact U18.chg (Chg.kept k19) (hub U18)
  rintro t5 y w20 B20 ⟨y0, yn, A20, U20, o20⟩
  refine ⟨fun hy => ?_, fun hy w29 B29 k29 => ?_⟩
  · obtain ⟨b, o, cl, hla, hget, hmem, hlt, gj⟩ := cl_cells hl.row y0 hy
    obtain ⟨b2, o2, cl2, ha2, hget2, hmem2, hlt2, gj2⟩ := cl_cells A20 y0 (by omega)
    obtain ⟨⟨clx, u1, u2⟩, rfl⟩ : ∃ q : ClM, q = cl2 := ⟨_, rfl⟩
    have hcl : clx = cl.1 := by
      have h1 : (l'.map (·.1))[y.toNat]? = some clx := by rw [List.getElem?_map, hget2]; rfl
      have h2 : (l.map (·.1))[y.toNat]? = some cl.1 := by rw [List.getElem?_map, hget]; rfl
      rw [hl', h2] at h1
      exact (Option.some.inj h1).symm
    subst hcl
    have hb2 : b2 ≠ m1 := by
      rcases R14 with h | h
      · have h1 : l'.length * 6 = 0 := by
          have := congrArg List.length h
          have hfl : ∀ q : List ClM, (q.flatMap clV).length = q.length * 6 := fun q => by
            induction q with
            | nil => rfl
            | cons z q ih => rw [List.flatMap_cons, List.length_append, ih]; simp [clV]; omega
          rw [hfl] at this; simpa using this
        omega
      · have := h b2 o2 ha2; omega
    have gk : ∀ {w' : World} {j : Nat} {v : Value} {k : Nat}, Below w.heap.size w w' → (clV cl)[j]? = some v → j < 6 → k = o + y.toNat * 6 + j → w'.cell? ⟨b, k, none⟩ = some v := fun hB h1 h2 h3 => cell_keep hB (gj h1 h2 h3)
    refine ⟨b2, o2, ha2, ⟨y0, by omega⟩, _, _, _, _, _, gj2 (j := 0) rfl (by omega) (by omega), gj2 (j := 1) rfl (by omega) (by omega), gj2 (j := 2) rfl (by omega) (by omega), .inr hb2, b, o, hla, ⟨y0, hy⟩, _, _, _, _, _, gk B20 (j := 0) rfl (by omega) (by omega), gk B20 (j := 1) rfl (by omega) (by omega), gk B20 (j := 2) rfl (by omega) (by omega), .inl hlt, fun w21 B21 k21 => ?_⟩
    have C21 := chg_in k21
    have A21 := R14.cells A20 C21 (by simp; omega)
    have U21 := U20.chg C21 (hub U20)
    have o21 := k21.own m1 (by simp)
    have hu := hu10 cl hmem
    refine Pure.calls (same_any cl.1.st cl.1.st (U21 _ hmem2).1 ((hl.used cl hmem).keep B21) (by omega)) fun w22 b22 => ⟨_, rfl, .all b22, fun h => (by simp at h), fun _ => ?_⟩
    have A22 := A21.keep b22
    have U22 := U21.chg (Chg.of_below (S := []) b22) (by simp)
    have B22 : Below w.heap.size w w22 := B21.trans (b22.mono B21.size)
    obtain ⟨b3, o3, cl3, ha3, hget3, _, _, gj3⟩ := cl_cells A22 y0 (by omega)
    rw [hget2] at hget3
    obtain rfl := Option.some.inj hget3
    rw [ha2] at ha3
    simp only [Option.some.injEq, Addr.mk.injEq, and_true] at ha3
    obtain ⟨rfl, rfl⟩ := ha3
    refine ⟨b2, o2, ha2, ⟨y0, by omega⟩, _, gj3 (j := 3) rfl (by omega) (by omega), .inr hb2, b, o, hla, ⟨y0, hy⟩, _, gk B22 (j := 3) rfl (by omega) (by omega), .inl hlt, fun h => absurd rfl h, fun _ => ⟨b2, o2, ha2, ⟨y0, by omega⟩, _, _, gj3 (j := 4) rfl (by omega) (by omega), gj3 (j := 5) rfl (by omega) (by omega), .inr hb2, b, o, hla, ⟨y0, hy⟩, _, _, gk B22 (j := 4) rfl (by omega) (by omega), gk B22 (j := 5) rfl (by omega) (by omega), .inl hlt, fun w25 B25 k25 => ?_⟩⟩
    have C25 := chg_in k25
    have A25 := R14.cells A22 C25 (by simp; omega)
    have U25 := U22.chg C25 (hub U22)
    refine neq_act ⟨_, rfl, .all (.refl _ _), fun h => (by simp at h), fun _ => ⟨by omega, fun w28 B28 k28 => ⟨⟨by omega, by omega, R14.cells A25 (Chg.kept k28) (by simp; omega), U25.chg (Chg.kept k28) (hub U25), k28.own m1 (by simp)⟩, ?_⟩⟩⟩
    show ((l.length : Int) - (y + 1)).toNat < ((l.length : Int) - y).toNat
    omega
  · have hlm : (l.map (·.1)).length = l.length := List.length_map _
    refine Pure.calls (refCheck_any r (hc.keep B29)) fun w30 b30 => ⟨_, rfl, .all b30, fun hck w31 B31 k31 => ?_, fun hck => ⟨fun _ => ?_, fun h => absurd h hck⟩⟩
    · rw [proves_split r _ hck]
      refine Pure.calls (refClaims_any r (hl.keep B31)) fun w32 b32 => ⟨_, rfl, .all b32, fun hce => ?_, fun hce => ?_⟩
      · rw [if_pos hce]
        exact ⟨fun _ => ⟨fun _ w33 B33 k33 => known_tail, fun h => absurd rfl h⟩, fun h => absurd rfl h⟩
      · rw [if_neg (by rw [hce]; simp)]
        have hok : ∀ x ∈ l, okCl r x.1 := fun x hx => by
          unfold claimsErr at hce
          split at hce
          · cases hce
          · split at hce
            · cases hce
            · rename_i h2
              rw [Bool.not_eq_false] at h2
              exact okClB_iff.1 (List.all_eq_true.1 h2 x.1 (List.mem_map_of_mem hx))
        refine ⟨fun _ w38 B38 k38 => Pure.calls (refProves_any (good_of hck) (hc.keep B38) (hl.keep B38) (by omega) hok) fun w39 b39 => ⟨_, rfl, .all b39, fun _ w40 B40 k40 => known_tail, fun h => absurd rfl h⟩, fun h => absurd rfl h⟩
    · have : provesR r (l.map (·.1)) = (0, check r) := by unfold provesR; rw [if_pos hck]
      rw [this]
      exact ⟨fun _ => ⟨fun _ w45 B45 k45 => known_tail, fun h => absurd rfl h⟩, fun h => absurd rfl h⟩
end Go.Proofs.R07
end
section
/- Lists of claims, opened. -/
namespace Go.Proofs.R07
open Go.Vc Go.RowKit Go.Proofs

theorem leaves_claims : leaves Try.prog 6 54 = some [.sl [Li, Li, .sl [.bool], Li, Li, Li]] := by kernel_rfl
theorem agg_claims : isAggB Try.prog 54 = false := by kernel_rfl
section
variable {w : World}
theorem take_claims {v : Value} (h : LeafIs w (.sl [Li, Li, .sl [.bool], Li, Li, Li]) v) : ∃ a c, ∃ l : List ClM, v = .slice a l.length c ∧ l.length ≤ maxLen ∧ ClsAt w a l := by
  obtain ⟨a, c, l, rfl, h1, h2, h3, h4⟩ := h.sl' clV (fun x => Cells w x.2.1 (bools x.1.st.used)) fun x hx => by
    obtain ⟨s, b, d, r1, rfl, _, g1, g2⟩ := take_st hx
    obtain ⟨x3, r2, rfl, _, g2⟩ := take_int g2
    obtain ⟨x4, r3, rfl, _, g2⟩ := take_int g2
    obtain ⟨x5, r4, rfl, _, g2⟩ := take_int g2
    rw [g2.nil']
    exact ⟨(⟨s, x3, x4, x5⟩, b, d), rfl, g1⟩
  exact ⟨a, c, l, rfl, Nat.le_trans h1 h2, h3, h4⟩
variable {H : Type} {enc : TypeId × Value → H} {base b0 : Nat} {held : Bool} {spare : Nat → Bool} {reach : Reach}
set_option maxRecDepth 100000 in
theorem open_claims {v : Value} {d : DataW H} {ps : List MemPlace} (hv : Value.okWide Try.prog w reach b0 54 v) (hd : DataW.Trod enc Try.prog w base spare held 54 v d ps) :
    ∃ a c, ∃ l : List ClM, v = .slice a l.length c ∧ l.length ≤ maxLen ∧ ClsAt w a l := take_claims (open_one agg_claims leaves_claims hv hd)
end
end Go.Proofs.R07
end
