/- Part 6: own lemmas, and the conditions of the functions. -/
import Derived.Test.YtonlamhfncoklaaProg
import Derived.Test.YtonlamhfncoklaaP05
section
/- The conditions of the functions, printed by program; each is what the generator reckons (kernel_rfl). -/
namespace Go.Proofs
open Go.Vc
set_option maxRecDepth 100000 in
set_option maxHeartbeats 2000000 in
theorem vc27 (la : Option Addr) (ln : Nat) (lc : Nat) (w : World) (R : Ending → World → Prop) (h : ∀ (m1 : Nat), w.heap.size ≤ m1 → ∃ (F1 : List Lf → World → Prop), ∃ (F2 : List Lf
    → Nat), (∀ (w1 : World), RowKit.Below w.heap.size w w1 → Kept [m1] w w1 → w1.heap[m1]? = some (Obj.cells #[] 56) → F1 [Lf.sl (some { block := m1, off := 0 }) 0 0, Lf.int
    IntKind.i64 0] w1) ∧ ∀ (a1 : Option Addr) (m2 m3 : Nat) (x1 : Int) (w2 : World), RowKit.Below w.heap.size w w2 → F1 [Lf.sl a1 m2 m3, Lf.int IntKind.i64 x1] w2 → (x1 < (↑ln :
    Int) → ∃ (m4 : Nat), ∃ (m5 : Nat), la = some { block := m4, off := m5 } ∧ (0 ≤ x1 ∧ x1 < (↑ln : Int)) ∧ ∃ (x2 : Int), ∃ (x3 : Int), ∃ (a2 : Option Addr), ∃ (m6 : Nat), ∃ (m7 :
    Nat), w2.cell? { block := m4, off := m5 + x1.toNat * 6 + 0 } = some (Value.int IntKind.i64 x2) ∧ w2.cell? { block := m4, off := m5 + x1.toNat * 6 + 0 + 1 } = some (Value.int
    IntKind.i64 x3) ∧ w2.cell? { block := m4, off := m5 + x1.toNat * 6 + 0 + 1 + 1 } = some (Value.slice a2 m6 m7) ∧ ∀ (w3 : World), RowKit.Below w.heap.size w w3 → KeptIn [(0,
    w2.heap.size)] [] w2 w3 → Calls Try.prog 14 #[Value.agg #[Value.int IntKind.i64 x2, Value.int IntKind.i64 x3, Value.slice a2 m6 m7]] w3 fun (e1 : Ending) (w4 : World) => ∃ (x4
    : Int), ∃ (x5 : Int), ∃ (a3 : Option Addr), ∃ (m8 : Nat), ∃ (m9 : Nat), e1 = Ending.returned (Value.agg #[Value.int IntKind.i64 x4, Value.int IntKind.i64 x5, Value.slice a3 m8
    m9]) ∧ RowKit.Below w3.heap.size w3 w4 ∧ ∃ (m10 : Nat), ∃ (m11 : Nat), la = some { block := m10, off := m11 } ∧ (0 ≤ x1 ∧ x1 < (↑ln : Int)) ∧ ∃ (x6 : Int), w2.cell?
    { block := m10, off := m11 + x1.toNat * 6 + 3 } = some (Value.int IntKind.i64 x6) ∧ ∃ (m12 : Nat), ∃ (m13 : Nat), la = some { block := m12, off := m13 } ∧ (0 ≤ x1 ∧ x1 < (↑ln :
    Int)) ∧ ∃ (x7 : Int), ∃ (x8 : Int), w2.cell? { block := m12, off := m13 + x1.toNat * 6 + 4 } = some (Value.int IntKind.i64 x7) ∧ w2.cell?
    { block := m12, off := m13 + x1.toNat * 6 + 4 + 1 } = some (Value.int IntKind.i64 x8) ∧ ∀ (m14 : Nat), w2.heap.size ≤ m14 → m14 < w3.heap.size ∨ w4.heap.size ≤ m14 → ∀ (w5 :
    World), RowKit.Below w.heap.size w w5 → KeptIn [(0, w2.heap.size), (w3.heap.size, w4.heap.size)] [m14] w4 w5 → w5.heap[m14]? = some (Obj.cells #[Value.int IntKind.i64 x4,
    Value.int IntKind.i64 x5, Value.slice a3 m8 m9, Value.int IntKind.i64 x6, Value.int IntKind.i64 x7, Value.int IntKind.i64 x8] 56) → RunsTo Try.prog (Builtin.append_ #[54, 54]
    54 #[Value.slice a1 m2 m3, Value.slice (some { block := m14, off := 0 }) 1 1]) w5 fun (v1 : Value) (w6 : World) => ∃ (a4 : Option Addr), ∃ (m15 : Nat), ∃ (m16 : Nat), v1 =
    Value.slice a4 m15 m16 ∧ KeepX true w.heap.size [m14] (fun _ => False) w5 w6 ∧ (-9223372036854775808 ≤ x1 + 1 ∧ x1 + 1 ≤ 9223372036854775807) ∧ ∀ (w7 : World), RowKit.Below
    w.heap.size w w7 → Kept [m14] w6 w7 → F1 [Lf.sl a4 m15 m16, Lf.int IntKind.i64 (x1 + 1)] w7 ∧ F2 [Lf.sl a4 m15 m16, Lf.int IntKind.i64 (x1 + 1)] < F2 [Lf.sl a1 m2 m3, Lf.int
    IntKind.i64 x1]) ∧ ((↑ln : Int) ≤ x1 → ∀ (w8 : World), RowKit.Below w.heap.size w w8 → Kept [] w2 w8 → R (Ending.returned (Value.slice a1 m2 m3)) w8)) : Calls Try.prog 27
    #[Value.slice la ln lc] w R := calls_of_vc (pure := true) (wrapAt := []) (muts := []) (esc := []) (args := [SV.pv (PV.one (Lf.sl la ln lc))]) (vs := [Value.slice la ln lc])
    Try.func27 rfl rfl rfl (Eq.mp (by kernel_rfl) h) 
set_option maxRecDepth 100000 in
set_option maxHeartbeats 2000000 in
theorem vc29 (r0 : Int) (r1 : Int) (r2 : Int) (r3 : Int) (r4 : Int) (r5a : Option Addr) (r5n : Nat) (r5c : Nat) (la : Option Addr) (ln : Nat) (lc : Nat) (w : World) (R : Ending →
    World → Prop) (h : ∀ (m1 : Nat), w.heap.size ≤ m1 → (30000 < (↑ln : Int) → ∀ (w1 : World), RowKit.Below w.heap.size w w1 → Kept [m1] w w1 → R (Ending.returned (Value.int
    IntKind.i64 5)) w1) ∧ ((↑ln : Int) ≤ 30000 → ∃ (F1 : List Lf → World → Prop), ∃ (F2 : List Lf → Nat), (∀ (w2 : World), RowKit.Below w.heap.size w w2 → Kept [m1] w w2 → F1
    [Lf.int IntKind.i64 0, Lf.int IntKind.i64 0] w2) ∧ ∀ (x1 x2 : Int) (w3 : World), RowKit.Below w.heap.size w w3 → F1 [Lf.int IntKind.i64 x1, Lf.int IntKind.i64 x2] w3 → (x2 <
    (↑ln : Int) → ∃ (m2 : Nat), ∃ (m3 : Nat), la = some { block := m2, off := m3 } ∧ (0 ≤ x2 ∧ x2 < (↑ln : Int)) ∧ ∃ (x3 : Int), ∃ (x4 : Int), ∃ (a1 : Option Addr), ∃ (m4 : Nat), ∃
    (m5 : Nat), w3.cell? { block := m2, off := m3 + x2.toNat * 6 + 0 } = some (Value.int IntKind.i64 x3) ∧ w3.cell? { block := m2, off := m3 + x2.toNat * 6 + 0 + 1 } = some
    (Value.int IntKind.i64 x4) ∧ w3.cell? { block := m2, off := m3 + x2.toNat * 6 + 0 + 1 + 1 } = some (Value.slice a1 m4 m5) ∧ (m2 < w.heap.size ∨ m2 ≠ m1) ∧ ∀ (w4 : World),
    RowKit.Below w.heap.size w w4 → KeptIn [(0, w3.heap.size)] [m1] w3 w4 → Calls Try.prog 20 #[Value.agg #[Value.int IntKind.i64 r0, Value.int IntKind.i64 r1, Value.int
    IntKind.i64 r2, Value.int IntKind.i64 r3, Value.int IntKind.i64 r4, Value.slice r5a r5n r5c], Value.agg #[Value.int IntKind.i64 x3, Value.int IntKind.i64 x4, Value.slice a1 m4
    m5]] w4 fun (e1 : Ending) (w5 : World) => ∃ (t1 : Bool), e1 = Ending.returned (Value.bool t1) ∧ KeepX true w.heap.size [m1] (fun _ => False) w4 w5 ∧ ((!t1) = true → ∀ (w6 :
    World), RowKit.Below w.heap.size w w6 → Kept [m1] w5 w6 → R (Ending.returned (Value.int IntKind.i64 2)) w6) ∧ ((!t1) = false → ∃ (m6 : Nat), ∃ (m7 : Nat), la = some
    { block := m6, off := m7 } ∧ (0 ≤ x2 ∧ x2 < (↑ln : Int)) ∧ ∃ (x5 : Int), w5.cell? { block := m6, off := m7 + x2.toNat * 6 + 3 } = some (Value.int IntKind.i64 x5) ∧ (m6 <
    w.heap.size ∨ m6 ≠ m1) ∧ (x5 < 0 → ∀ (w7 : World), RowKit.Below w.heap.size w w7 → Kept [m1] w5 w7 → R (Ending.returned (Value.int IntKind.i64 2)) w7) ∧ (0 ≤ x5 → ∃ (m8 : Nat),
    ∃ (m9 : Nat), la = some { block := m8, off := m9 } ∧ (0 ≤ x2 ∧ x2 < (↑ln : Int)) ∧ ∃ (x6 : Int), w5.cell? { block := m8, off := m9 + x2.toNat * 6 + 3 } = some (Value.int
    IntKind.i64 x6) ∧ (m8 < w.heap.size ∨ m8 ≠ m1) ∧ (6 < x6 → ∀ (w8 : World), RowKit.Below w.heap.size w w8 → Kept [m1] w5 w8 → R (Ending.returned (Value.int IntKind.i64 2)) w8) ∧
    (x6 ≤ 6 → (-9223372036854775808 ≤ x2 + 1 ∧ x2 + 1 ≤ 9223372036854775807) ∧ ∀ (w9 : World), RowKit.Below w.heap.size w w9 → Kept [m1] w5 w9 → F1 [Lf.int IntKind.i64 x1, Lf.int
    IntKind.i64 (x2 + 1)] w9 ∧ F2 [Lf.int IntKind.i64 x1, Lf.int IntKind.i64 (x2 + 1)] < F2 [Lf.int IntKind.i64 x1, Lf.int IntKind.i64 x2])))) ∧ ((↑ln : Int) ≤ x2 → ∀ (w10 :
    World), RowKit.Below w.heap.size w w10 → Kept [m1] w3 w10 → R (Ending.returned (Value.int IntKind.i64 0)) w10))) : Calls Try.prog 29 #[Value.agg #[Value.int IntKind.i64 r0,
    Value.int IntKind.i64 r1, Value.int IntKind.i64 r2, Value.int IntKind.i64 r3, Value.int IntKind.i64 r4, Value.slice r5a r5n r5c], Value.slice la ln lc] w R := calls_of_vc (pure
    := true) (wrapAt := []) (muts := []) (esc := []) (args := [SV.pv (PV.agg [Lf.int IntKind.i64 r0, Lf.int IntKind.i64 r1, Lf.int IntKind.i64 r2, Lf.int IntKind.i64 r3, Lf.int
    IntKind.i64 r4, Lf.sl r5a r5n r5c]), SV.pv (PV.one (Lf.sl la ln lc))]) (vs := [Value.agg #[Value.int IntKind.i64 r0, Value.int IntKind.i64 r1, Value.int IntKind.i64 r2,
    Value.int IntKind.i64 r3, Value.int IntKind.i64 r4, Value.slice r5a r5n r5c], Value.slice la ln lc]) Try.func29 rfl rfl rfl (Eq.mp (by kernel_rfl) h) 
set_option maxRecDepth 100000 in
set_option maxHeartbeats 2000000 in
theorem vc30 (r0 : Int) (r1 : Int) (r2 : Int) (r3 : Int) (r4 : Int) (r5a : Option Addr) (r5n : Nat) (r5c : Nat) (la : Option Addr) (ln : Nat) (lc : Nat) (w : World) (R : Ending →
    World → Prop) (h : ∀ (m1 : Nat), w.heap.size ≤ m1 → ∃ (F1 : List Lf → World → Prop), ∃ (F2 : List Lf → Nat), (∀ (w1 : World), RowKit.Below w.heap.size w w1 → Kept [m1] w w1 →
    F1 [Lf.int IntKind.i64 0, Lf.int IntKind.i64 0] w1) ∧ ∀ (x1 x2 : Int) (w2 : World), RowKit.Below w.heap.size w w2 → F1 [Lf.int IntKind.i64 x1, Lf.int IntKind.i64 x2] w2 → (x2 <
    (↑ln : Int) → ∃ (m2 : Nat), ∃ (m3 : Nat), la = some { block := m2, off := m3 } ∧ (0 ≤ x2 ∧ x2 < (↑ln : Int)) ∧ ∃ (x3 : Int), ∃ (x4 : Int), ∃ (a1 : Option Addr), ∃ (m4 : Nat), ∃
    (m5 : Nat), ∃ (x5 : Int), ∃ (x6 : Int), ∃ (x7 : Int), w2.cell? { block := m2, off := m3 + x2.toNat * 6 } = some (Value.int IntKind.i64 x3) ∧ w2.cell?
    { block := m2, off := m3 + x2.toNat * 6 + 1 } = some (Value.int IntKind.i64 x4) ∧ w2.cell? { block := m2, off := m3 + x2.toNat * 6 + 1 + 1 } = some (Value.slice a1 m4 m5) ∧
    w2.cell? { block := m2, off := m3 + x2.toNat * 6 + 1 + 1 + 1 } = some (Value.int IntKind.i64 x5) ∧ w2.cell? { block := m2, off := m3 + x2.toNat * 6 + 1 + 1 + 1 + 1 } = some
    (Value.int IntKind.i64 x6) ∧ w2.cell? { block := m2, off := m3 + x2.toNat * 6 + 1 + 1 + 1 + 1 + 1 } = some (Value.int IntKind.i64 x7) ∧ (m2 < w.heap.size ∨ m2 ≠ m1) ∧ ∀ (w3 :
    World), RowKit.Below w.heap.size w w3 → KeptIn [(0, w2.heap.size)] [m1] w2 w3 → Calls Try.prog 59 #[Value.agg #[Value.int IntKind.i64 r0, Value.int IntKind.i64 r1, Value.int
    IntKind.i64 r2, Value.int IntKind.i64 r3, Value.int IntKind.i64 r4, Value.slice r5a r5n r5c], Value.slice la ln lc, Value.agg #[Value.int IntKind.i64 x3, Value.int IntKind.i64
    x4, Value.slice a1 m4 m5, Value.int IntKind.i64 x5, Value.int IntKind.i64 x6, Value.int IntKind.i64 x7]] w3 fun (e1 : Ending) (w4 : World) => ∃ (t1 : Bool), e1 =
    Ending.returned (Value.bool t1) ∧ KeepX true w.heap.size [m1] (fun _ => False) w3 w4 ∧ ((!t1) = true → ∀ (w5 : World), RowKit.Below w.heap.size w w5 → Kept [m1] w4 w5 → R
    (Ending.returned (Value.int IntKind.i64 x2)) w5) ∧ ((!t1) = false → (-9223372036854775808 ≤ x2 + 1 ∧ x2 + 1 ≤ 9223372036854775807) ∧ ∀ (w6 : World), RowKit.Below w.heap.size w
    w6 → Kept [m1] w4 w6 → F1 [Lf.int IntKind.i64 x1, Lf.int IntKind.i64 (x2 + 1)] w6 ∧ F2 [Lf.int IntKind.i64 x1, Lf.int IntKind.i64 (x2 + 1)] < F2 [Lf.int IntKind.i64 x1, Lf.int
    IntKind.i64 x2])) ∧ ((↑ln : Int) ≤ x2 → ∀ (w7 : World), RowKit.Below w.heap.size w w7 → Kept [m1] w2 w7 → R (Ending.returned (Value.int IntKind.i64 (-1))) w7)) : Calls Try.prog
    30 #[Value.agg #[Value.int IntKind.i64 r0, Value.int IntKind.i64 r1, Value.int IntKind.i64 r2, Value.int IntKind.i64 r3, Value.int IntKind.i64 r4, Value.slice r5a r5n r5c],
    Value.slice la ln lc] w R := calls_of_vc (pure := true) (wrapAt := []) (muts := []) (esc := []) (args := [SV.pv (PV.agg [Lf.int IntKind.i64 r0, Lf.int IntKind.i64 r1, Lf.int
    IntKind.i64 r2, Lf.int IntKind.i64 r3, Lf.int IntKind.i64 r4, Lf.sl r5a r5n r5c]), SV.pv (PV.one (Lf.sl la ln lc))]) (vs := [Value.agg #[Value.int IntKind.i64 r0, Value.int
    IntKind.i64 r1, Value.int IntKind.i64 r2, Value.int IntKind.i64 r3, Value.int IntKind.i64 r4, Value.slice r5a r5n r5c], Value.slice la ln lc]) Try.func30 rfl rfl rfl (Eq.mp (by
    kernel_rfl) h) 
set_option maxRecDepth 100000 in
set_option maxHeartbeats 2000000 in
theorem vc74 (c0 : Int) (c1 : Int) (c2a : Option Addr) (c2n : Nat) (c2c : Nat) (c3 : Int) (c4 : Int) (c5 : Int) (s0 : Int) (s1 : Int) (s2a : Option Addr) (s2n : Nat) (s2c : Nat) (w
    : World) (R : Ending → World → Prop) (h : ∀ (m1 : Nat), w.heap.size ≤ m1 → ∀ (m2 : Nat), w.heap.size ≤ m2 → (s0 < c0 → ∀ (w1 : World), RowKit.Below w.heap.size w w1 → Kept [m2,
    m1] w w1 → R (Ending.returned (Value.bool false)) w1) ∧ (c0 ≤ s0 → (c1 < s1 → ∀ (w2 : World), RowKit.Below w.heap.size w w2 → Kept [m2, m1] w w2 → R (Ending.returned
    (Value.bool false)) w2) ∧ (s1 ≤ c1 → ∃ (F1 : List Lf → World → Prop), ∃ (F2 : List Lf → Nat), (∀ (w3 : World), RowKit.Below w.heap.size w w3 → Kept [m2, m1] w w3 → F1 [Lf.bool
    false, Lf.int IntKind.i64 0] w3) ∧ ∀ (t1 : Bool) (x1 : Int) (w4 : World), RowKit.Below w.heap.size w w4 → F1 [Lf.bool t1, Lf.int IntKind.i64 x1] w4 → (x1 < (↑s2n : Int) → ∃ (m3
    : Nat), ∃ (m4 : Nat), s2a = some { block := m3, off := m4 } ∧ (0 ≤ x1 ∧ x1 < (↑s2n : Int)) ∧ ∃ (t2 : Bool), w4.cell? { block := m3, off := m4 + x1.toNat * 1 } = some
    (Value.bool t2) ∧ (m3 < w.heap.size ∨ m3 ≠ m2 ∧ m3 ≠ m1) ∧ (t2 = true → ∃ (m5 : Nat), ∃ (m6 : Nat), c2a = some { block := m5, off := m6 } ∧ (0 ≤ x1 ∧ x1 < (↑c2n : Int)) ∧ ∃ (t3
    : Bool), w4.cell? { block := m5, off := m6 + x1.toNat * 1 } = some (Value.bool t3) ∧ (m5 < w.heap.size ∨ m5 ≠ m2 ∧ m5 ≠ m1) ∧ ((!t3) = true → ∀ (w5 : World), RowKit.Below
    w.heap.size w w5 → Kept [m2, m1] w4 w5 → R (Ending.returned (Value.bool false)) w5) ∧ ((!t3) = false → (-9223372036854775808 ≤ x1 + 1 ∧ x1 + 1 ≤ 9223372036854775807) ∧ ∀ (w6 :
    World), RowKit.Below w.heap.size w w6 → Kept [m2, m1] w4 w6 → F1 [Lf.bool t1, Lf.int IntKind.i64 (x1 + 1)] w6 ∧ F2 [Lf.bool t1, Lf.int IntKind.i64 (x1 + 1)] < F2 [Lf.bool t1,
    Lf.int IntKind.i64 x1])) ∧ (t2 = false → (-9223372036854775808 ≤ x1 + 1 ∧ x1 + 1 ≤ 9223372036854775807) ∧ ∀ (w7 : World), RowKit.Below w.heap.size w w7 → Kept [m2, m1] w4 w7 →
    F1 [Lf.bool t1, Lf.int IntKind.i64 (x1 + 1)] w7 ∧ F2 [Lf.bool t1, Lf.int IntKind.i64 (x1 + 1)] < F2 [Lf.bool t1, Lf.int IntKind.i64 x1])) ∧ ((↑s2n : Int) ≤ x1 → ∀ (w8 : World),
    RowKit.Below w.heap.size w w8 → Kept [m2, m1] w4 w8 → R (Ending.returned (Value.bool true)) w8)))) : Calls Try.prog 74 #[Value.agg #[Value.int IntKind.i64 c0, Value.int
    IntKind.i64 c1, Value.slice c2a c2n c2c, Value.int IntKind.i64 c3, Value.int IntKind.i64 c4, Value.int IntKind.i64 c5], Value.agg #[Value.int IntKind.i64 s0, Value.int
    IntKind.i64 s1, Value.slice s2a s2n s2c]] w R := calls_of_vc (pure := true) (wrapAt := []) (muts := []) (esc := []) (args := [SV.pv (PV.agg [Lf.int IntKind.i64 c0, Lf.int
    IntKind.i64 c1, Lf.sl c2a c2n c2c, Lf.int IntKind.i64 c3, Lf.int IntKind.i64 c4, Lf.int IntKind.i64 c5]), SV.pv (PV.agg [Lf.int IntKind.i64 s0, Lf.int IntKind.i64 s1, Lf.sl s2a
    s2n s2c])]) (vs := [Value.agg #[Value.int IntKind.i64 c0, Value.int IntKind.i64 c1, Value.slice c2a c2n c2c, Value.int IntKind.i64 c3, Value.int IntKind.i64 c4, Value.int
    IntKind.i64 c5], Value.agg #[Value.int IntKind.i64 s0, Value.int IntKind.i64 s1, Value.slice s2a s2n s2c]]) Try.func74 rfl rfl rfl (Eq.mp (by kernel_rfl) h) 
set_option maxRecDepth 100000 in
set_option maxHeartbeats 2000000 in
theorem vc59 (r0 : Int) (r1 : Int) (r2 : Int) (r3 : Int) (r4 : Int) (r5a : Option Addr) (r5n : Nat) (r5c : Nat) (la : Option Addr) (ln : Nat) (lc : Nat) (c0 : Int) (c1 : Int) (c2a
    : Option Addr) (c2n : Nat) (c2c : Nat) (c3 : Int) (c4 : Int) (c5 : Int) (w : World) (R : Ending → World → Prop) (h : ∀ (m1 : Nat), w.heap.size ≤ m1 → ∀ (m2 : Nat), w.heap.size
    ≤ m2 → (c3 = 0 → ∀ (w1 : World), RowKit.Below w.heap.size w w1 → Kept [m2, m1] w w1 → RunsTo Try.prog ((eqGuard BinOp.eql 36 (Operand.tmp 18) (Operand.tmp 19) (Value.agg
    #[Value.int IntKind.i64 c4, Value.int IntKind.i64 c5]) (Value.agg #[Value.int IntKind.i64 0, Value.int IntKind.i64 (-1)])) >>= fun _ => binOp BinOp.eql 36 (Value.agg
    #[Value.int IntKind.i64 c4, Value.int IntKind.i64 c5]) (Value.agg #[Value.int IntKind.i64 0, Value.int IntKind.i64 (-1)])) w1 fun (v1 : Value) (w2 : World) => ∃ (t1 : Bool), v1
    = Value.bool t1 ∧ KeepX true w.heap.size [m2, m1] (fun _ => False) w1 w2 ∧ (t1 = true → ∀ (w3 : World), RowKit.Below w.heap.size w w3 → Kept [m2, m1] w2 w3 → Calls Try.prog 70
    #[Value.agg #[Value.int IntKind.i64 r0, Value.int IntKind.i64 r1, Value.int IntKind.i64 r2, Value.int IntKind.i64 r3, Value.int IntKind.i64 r4, Value.slice r5a r5n r5c],
    Value.agg #[Value.int IntKind.i64 c0, Value.int IntKind.i64 c1, Value.slice c2a c2n c2c]] w3 fun (e1 : Ending) (w4 : World) => ∃ (t2 : Bool), e1 = Ending.returned (Value.bool
    t2) ∧ KeepX true w.heap.size [m2, m1] (fun _ => False) w3 w4 ∧ ∀ (w5 : World), RowKit.Below w.heap.size w w5 → Kept [m2, m1] w4 w5 → R (Ending.returned (Value.bool t2)) w5) ∧
    (t1 = false → ∀ (w6 : World), RowKit.Below w.heap.size w w6 → Kept [m2, m1] w2 w6 → R (Ending.returned (Value.bool false)) w6)) ∧ (c3 ≠ 0 → ∀ (w7 : World), RowKit.Below
    w.heap.size w w7 → Kept [m2, m1] w w7 → Calls Try.prog 21 #[Value.agg #[Value.int IntKind.i64 r0, Value.int IntKind.i64 r1, Value.int IntKind.i64 r2, Value.int IntKind.i64 r3,
    Value.int IntKind.i64 r4, Value.slice r5a r5n r5c], Value.agg #[Value.int IntKind.i64 c0, Value.int IntKind.i64 c1, Value.slice c2a c2n c2c], Value.agg #[Value.int IntKind.i64
    c4, Value.int IntKind.i64 c5]] w7 fun (e2 : Ending) (w8 : World) => ∃ (x1 : Int), ∃ (x2 : Int), ∃ (t3 : Bool), e2 = Ending.returned (Value.tuple #[Value.agg #[Value.int
    IntKind.i64 x1, Value.int IntKind.i64 x2], Value.bool t3]) ∧ KeepX true w.heap.size [m2, m1] (fun _ => False) w7 w8 ∧ ∀ (m3 : Nat), w8.heap.size ≤ m3 → (-9223372036854775808 ≤
    x1 - r1 ∧ x1 - r1 ≤ 9223372036854775807) ∧ ∃ (F1 : List Lf → World → Prop), ∃ (F2 : List Lf → Nat), (∀ (w9 : World), RowKit.Below w.heap.size w w9 → Kept [m3, m2, m1] w8 w9 →
    F1 [Lf.bool t3, Lf.int IntKind.i64 (x1 - r1)] w9) ∧ ∀ (t4 : Bool) (x3 : Int) (w10 : World), RowKit.Below w.heap.size w w10 → F1 [Lf.bool t4, Lf.int IntKind.i64 x3] w10 → (t4 =
    true → (-9223372036854775808 ≤ x2 + r1 ∧ x2 + r1 ≤ 9223372036854775807) ∧ (x3 ≤ x2 + r1 → ∀ (w11 : World), RowKit.Below w.heap.size w w11 → Kept [m3, m2, m1] w10 w11 → Calls
    Try.prog 22 #[Value.agg #[Value.int IntKind.i64 r0, Value.int IntKind.i64 r1, Value.int IntKind.i64 r2, Value.int IntKind.i64 r3, Value.int IntKind.i64 r4, Value.slice r5a r5n
    r5c], Value.agg #[Value.int IntKind.i64 c0, Value.int IntKind.i64 c1, Value.slice c2a c2n c2c], Value.agg #[Value.int IntKind.i64 c4, Value.int IntKind.i64 c5], Value.agg
    #[Value.int IntKind.i64 x1, Value.int IntKind.i64 x2], Value.int IntKind.i64 x3] w11 fun (e3 : Ending) (w12 : World) => ∃ (x4 : Int), ∃ (x5 : Int), ∃ (a1 : Option Addr), ∃ (m4
    : Nat), ∃ (m5 : Nat), ∃ (t5 : Bool), e3 = Ending.returned (Value.tuple #[Value.agg #[Value.int IntKind.i64 x4, Value.int IntKind.i64 x5, Value.slice a1 m4 m5], Value.bool t5])
    ∧ KeepX true w.heap.size [m3, m2, m1] (fun _ => False) w11 w12 ∧ ∀ (m6 : Nat), w12.heap.size ≤ m6 → ∃ (F3 : List Lf → World → Prop), ∃ (F4 : List Lf → Nat), (∀ (w13 : World),
    RowKit.Below w.heap.size w w13 → Kept [m6, m3, m2, m1] w12 w13 → F3 [Lf.bool !t5, Lf.int IntKind.i64 0] w13) ∧ ∀ (t6 : Bool) (x6 : Int) (w14 : World), RowKit.Below w.heap.size
    w w14 → F3 [Lf.bool t6, Lf.int IntKind.i64 x6] w14 → (x6 < (↑ln : Int) → ((!t6) = true → ∃ (m7 : Nat), ∃ (m8 : Nat), la = some { block := m7, off := m8 } ∧ (0 ≤ x6 ∧ x6 < (↑ln
    : Int)) ∧ ∃ (x7 : Int), w14.cell? { block := m7, off := m8 + x6.toNat * 6 + 3 } = some (Value.int IntKind.i64 x7) ∧ (m7 < w.heap.size ∨ m7 ≠ m6 ∧ m7 ≠ m3 ∧ m7 ≠ m2 ∧ m7 ≠ m1) ∧
    (x7 < c3 → ∃ (m9 : Nat), ∃ (m10 : Nat), la = some { block := m9, off := m10 } ∧ (0 ≤ x6 ∧ x6 < (↑ln : Int)) ∧ ∃ (x8 : Int), ∃ (x9 : Int), ∃ (a2 : Option Addr), ∃ (m11 : Nat), ∃
    (m12 : Nat), ∃ (x10 : Int), ∃ (x11 : Int), ∃ (x12 : Int), w14.cell? { block := m9, off := m10 + x6.toNat * 6 } = some (Value.int IntKind.i64 x8) ∧ w14.cell?
    { block := m9, off := m10 + x6.toNat * 6 + 1 } = some (Value.int IntKind.i64 x9) ∧ w14.cell? { block := m9, off := m10 + x6.toNat * 6 + 1 + 1 } = some (Value.slice a2 m11 m12)
    ∧ w14.cell? { block := m9, off := m10 + x6.toNat * 6 + 1 + 1 + 1 } = some (Value.int IntKind.i64 x10) ∧ w14.cell? { block := m9, off := m10 + x6.toNat * 6 + 1 + 1 + 1 + 1 } =
    some (Value.int IntKind.i64 x11) ∧ w14.cell? { block := m9, off := m10 + x6.toNat * 6 + 1 + 1 + 1 + 1 + 1 } = some (Value.int IntKind.i64 x12) ∧ (m9 < w.heap.size ∨ m9 ≠ m6 ∧
    m9 ≠ m3 ∧ m9 ≠ m2 ∧ m9 ≠ m1) ∧ ∀ (w15 : World), RowKit.Below w.heap.size w w15 → KeptIn [(0, w14.heap.size)] [m6, m3, m2, m1] w14 w15 → Calls Try.prog 74 #[Value.agg
    #[Value.int IntKind.i64 x8, Value.int IntKind.i64 x9, Value.slice a2 m11 m12, Value.int IntKind.i64 x10, Value.int IntKind.i64 x11, Value.int IntKind.i64 x12], Value.agg
    #[Value.int IntKind.i64 x4, Value.int IntKind.i64 x5, Value.slice a1 m4 m5]] w15 fun (e4 : Ending) (w16 : World) => ∃ (t7 : Bool), e4 = Ending.returned (Value.bool t7) ∧ KeepX
    true w.heap.size [m6, m3, m2, m1] (fun _ => False) w15 w16 ∧ (-9223372036854775808 ≤ x6 + 1 ∧ x6 + 1 ≤ 9223372036854775807) ∧ ∀ (w17 : World), RowKit.Below w.heap.size w w17 →
    Kept [m6, m3, m2, m1] w16 w17 → F3 [Lf.bool t7, Lf.int IntKind.i64 (x6 + 1)] w17 ∧ F4 [Lf.bool t7, Lf.int IntKind.i64 (x6 + 1)] < F4 [Lf.bool t6, Lf.int IntKind.i64 x6]) ∧ (c3
    ≤ x7 → (-9223372036854775808 ≤ x6 + 1 ∧ x6 + 1 ≤ 9223372036854775807) ∧ ∀ (w18 : World), RowKit.Below w.heap.size w w18 → Kept [m6, m3, m2, m1] w14 w18 → F3 [Lf.bool false,
    Lf.int IntKind.i64 (x6 + 1)] w18 ∧ F4 [Lf.bool false, Lf.int IntKind.i64 (x6 + 1)] < F4 [Lf.bool t6, Lf.int IntKind.i64 x6])) ∧ ((!t6) = false → (-9223372036854775808 ≤ x3 + 1
    ∧ x3 + 1 ≤ 9223372036854775807) ∧ ∀ (w19 : World), RowKit.Below w.heap.size w w19 → Kept [m6, m3, m2, m1] w14 w19 → F1 [Lf.bool t6, Lf.int IntKind.i64 (x3 + 1)] w19 ∧ F2
    [Lf.bool t6, Lf.int IntKind.i64 (x3 + 1)] < F2 [Lf.bool t4, Lf.int IntKind.i64 x3])) ∧ ((↑ln : Int) ≤ x6 → (-9223372036854775808 ≤ x3 + 1 ∧ x3 + 1 ≤ 9223372036854775807) ∧ ∀
    (w20 : World), RowKit.Below w.heap.size w w20 → Kept [m6, m3, m2, m1] w14 w20 → F1 [Lf.bool t6, Lf.int IntKind.i64 (x3 + 1)] w20 ∧ F2 [Lf.bool t6, Lf.int IntKind.i64 (x3 + 1)]
    < F2 [Lf.bool t4, Lf.int IntKind.i64 x3])) ∧ (x2 + r1 < x3 → ∀ (w21 : World), RowKit.Below w.heap.size w w21 → Kept [m3, m2, m1] w10 w21 → R (Ending.returned (Value.bool t4))
    w21)) ∧ (t4 = false → ∀ (w22 : World), RowKit.Below w.heap.size w w22 → Kept [m3, m2, m1] w10 w22 → R (Ending.returned (Value.bool t4)) w22))) : Calls Try.prog 59 #[Value.agg
    #[Value.int IntKind.i64 r0, Value.int IntKind.i64 r1, Value.int IntKind.i64 r2, Value.int IntKind.i64 r3, Value.int IntKind.i64 r4, Value.slice r5a r5n r5c], Value.slice la ln
    lc, Value.agg #[Value.int IntKind.i64 c0, Value.int IntKind.i64 c1, Value.slice c2a c2n c2c, Value.int IntKind.i64 c3, Value.int IntKind.i64 c4, Value.int IntKind.i64 c5]] w R
    := calls_of_vc (pure := true) (wrapAt := []) (muts := []) (esc := []) (args := [SV.pv (PV.agg [Lf.int IntKind.i64 r0, Lf.int IntKind.i64 r1, Lf.int IntKind.i64 r2, Lf.int
    IntKind.i64 r3, Lf.int IntKind.i64 r4, Lf.sl r5a r5n r5c]), SV.pv (PV.one (Lf.sl la ln lc)), SV.pv (PV.agg [Lf.int IntKind.i64 c0, Lf.int IntKind.i64 c1, Lf.sl c2a c2n c2c,
    Lf.int IntKind.i64 c3, Lf.int IntKind.i64 c4, Lf.int IntKind.i64 c5])]) (vs := [Value.agg #[Value.int IntKind.i64 r0, Value.int IntKind.i64 r1, Value.int IntKind.i64 r2,
    Value.int IntKind.i64 r3, Value.int IntKind.i64 r4, Value.slice r5a r5n r5c], Value.slice la ln lc, Value.agg #[Value.int IntKind.i64 c0, Value.int IntKind.i64 c1, Value.slice
    c2a c2n c2c, Value.int IntKind.i64 c3, Value.int IntKind.i64 c4, Value.int IntKind.i64 c5]]) Try.func59 rfl rfl rfl (Eq.mp (by kernel_rfl) h) 
end Go.Proofs
end
section
/- The laws' copies of claims. -/
namespace Go.Proofs.R07
open Go.Vc Go.RowKit Go.Proofs

/-- The blocks of the claims' weights. -/
def ubs (l : List ClM) : List Nat := l.filterMap fun x => if x.1.st.used = [] then none else x.2.1.map Addr.block
theorem mem_ubs {l : List ClM} {n : Nat} : n ∈ ubs l ↔ ∃ x ∈ l, x.1.st.used ≠ [] ∧ ∃ ad, x.2.1 = some ad ∧ ad.block = n := by
  unfold ubs
  rw [List.mem_filterMap]
  refine exists_congr fun x => and_congr Iff.rfl ?_
  by_cases h : x.1.st.used = []
  · simp [h]
  · simp [h]
theorem bools_nil {l : List Bool} : bools l = [] ↔ l = [] := by simp [bools]

theorem chg_sub {bs cs : List Nat} {w w' : World} (h : Chg bs w w') (hs : ∀ x ∈ bs, x ∈ cs) : Chg cs w w' := h.mono fun x hx => .inl (hs x hx)
/-- Each claim's weights. -/
def UsedAt (lo : Nat) (w : World) (l : List ClM) : Prop := ∀ x ∈ l, Cells w x.2.1 (bools x.1.st.used) ∧ Rng lo w.heap.size (bools x.1.st.used) x.2.1
theorem cells_out {w w' : World} {a : Option Addr} {vs : List Value} {S : List Nat} (h : Cells w a vs) (hc : Chg S w w') (hs : ∀ b o, a = some ⟨b, o, none⟩ → vs ≠ [] → b ∉ S) : Cells w' a vs := fun i v hi => by
  obtain ⟨b, o, e, hcl⟩ := h i v hi
  exact ⟨b, o, e, hc.cell (hs b o e (fun h => by rw [h] at hi; simp at hi)) hcl⟩
theorem Rng.up {lo hi hi' : Nat} {vs : List Value} {a : Option Addr} (h : Rng lo hi vs a) (hh : hi ≤ hi') : Rng lo hi' vs a := h.imp id fun h b o e => ⟨(h b o e).1, by have := (h b o e).2; omega⟩
theorem Rng.down {lo lo' hi : Nat} {vs : List Value} {a : Option Addr} (h : Rng lo hi vs a) (hh : lo' ≤ lo) : Rng lo' hi vs a := h.imp id fun h b o e => ⟨by have := (h b o e).1; omega, (h b o e).2⟩
theorem UsedAt.chg {lo : Nat} {w w' : World} {l : List ClM} {S : List Nat} (h : UsedAt lo w l) (hc : Chg S w w') (hs : ∀ n ∈ ubs l, n ∉ S) : UsedAt lo w' l := fun x hx =>
  ⟨cells_out (h x hx).1 hc fun b o e hne => hs b (mem_ubs.2 ⟨x, hx, fun h => hne (bools_nil.2 h), _, e, rfl⟩), (h x hx).2.up hc.size⟩
theorem UsedAt.ub {lo : Nat} {w : World} {l : List ClM} (h : UsedAt lo w l) {n : Nat} (hn : n ∈ ubs l) : lo ≤ n ∧ n < w.heap.size := by
  obtain ⟨x, hx, hne, ⟨b, o, sp⟩, e, rfl⟩ := mem_ubs.1 hn
  have hne' : bools x.1.st.used ≠ [] := fun h => hne (bools_nil.1 h)
  obtain ⟨b', o', e', _⟩ := (h x hx).1 0 _ (List.getElem?_eq_getElem (List.length_pos_iff.2 hne'))
  rw [e] at e'
  simp only [Option.some.injEq, Addr.mk.injEq] at e'
  obtain ⟨rfl, rfl, rfl⟩ := e'
  rcases (h x hx).2 with h0 | h0
  · exact absurd h0 hne'
  · exact h0 b o e

def ClsPost (l : List ClM) (w : World) (e : Ending) (w' : World) : Prop := ∃ a c, ∃ l' : List ClM, e = .returned (.slice a l.length c) ∧ Below w.heap.size w w' ∧ l'.map (·.1) = l.map (·.1) ∧
  Cells w' a (l'.flatMap clV) ∧ Rng w.heap.size w'.heap.size (l'.flatMap clV) a ∧ UsedAt w.heap.size w' l'

theorem ClsPost.at {l' : List ClM} {w : World} {a : Option Addr} {lo : Nat} (h1 : Cells w a (l'.flatMap clV)) (h2 : UsedAt lo w l') : ClsAt w a l' := ⟨h1, fun x hx => (h2 x hx).1⟩

set_option maxHeartbeats 2000000 in
theorem claims_any {l : List ClM} {la : Option Addr} {lc : Nat} {w : World} (hl : ClsAt w la l) (hn : l.length ≤ 100000) (hu : ∀ x ∈ l, x.1.st.used.length ≤ 100000) : Calls Try.prog 27 #[.slice la l.length lc] w (ClsPost l w) := by
  refine vc27 _ _ _ w _ fun m1 h1 => ?_
  refine ⟨fun ls w' => match ls with | [.sl a' n c', .int _ x] => 0 ≤ x ∧ x ≤ l.length ∧ n = x.toNat ∧ ∃ l' : List ClM, l'.map (·.1) = (l.take x.toNat).map (·.1) ∧ RowE 56 6 w.heap.size (ubs l') a' n c' (l'.flatMap clV) w' ∧ UsedAt w.heap.size w' l' | _ => False,
    fun ls => match ls with | [_, .int _ x] => ((l.length : Int) - x).toNat | _ => 0, fun w1 hb hk _ => ⟨by omega, by omega, rfl, [], rfl, RowE.lit, fun x hx => by simp at hx⟩, ?_⟩
  rintro a1 n1 c1 x w2 hb2 ⟨h0, hx, rfl, l', hl', hrow, hused⟩
  refine ⟨fun hlt => ?_, fun hge w8 hb8 hk8 => ?_⟩
  · have hix : x.toNat < l.length := by omega
    have hget := getElem_of_lt hix
    generalize l[x.toNat] = cl at hget
    have hmem : cl ∈ l := List.mem_of_getElem? hget
    obtain ⟨p, q, rfl, d0⟩ := hl.row _ _ (cl_get hget (j := 0) (v := I cl.1.st.lo) rfl (by omega))
    have d1 := Cells.at hl.row (cl_get hget (j := 1) (v := I cl.1.st.hi) rfl (by omega))
    have d2 := Cells.at hl.row (cl_get hget (j := 2) (v := .slice cl.2.1 cl.1.st.used.length cl.2.2) rfl (by omega))
    have d3 := Cells.at hl.row (cl_get hget (j := 3) (v := I cl.1.visits) rfl (by omega))
    have d4 := Cells.at hl.row (cl_get hget (j := 4) (v := I cl.1.turns) rfl (by omega))
    have d5 := Cells.at hl.row (cl_get hget (j := 5) (v := I cl.1.weight) rfl (by omega))
    refine ⟨p, q, rfl, ⟨h0, hlt⟩, _, _, _, _, _, cell_at (cell_keep hb2 d0) (by omega), cell_at (cell_keep hb2 d1) (by omega), cell_at (cell_keep hb2 d2) (by omega), fun w3 hb3 hk3 => ?_⟩
    refine (state_any cl.1.st ((hl.used cl hmem).keep hb3) (hu cl hmem)).mono fun e w4 he => ?_
    obtain ⟨a3, c3, rfl, hb4, D4, _, N4⟩ := he
    have R4 := Rng.of D4 N4
    refine ⟨_, _, a3, _, c3, rfl, hb4, p, q, rfl, ⟨h0, hlt⟩, _, cell_at (cell_keep hb2 d3) (by omega), p, q, rfl, ⟨h0, hlt⟩, _, _, cell_at (cell_keep hb2 d4) (by omega), cell_at (cell_keep hb2 d5) (by omega), fun m14 g1 g2 w5 hb5 hk5 hc5 => ?_⟩
    have z3 := hk3.size
    have z4 := hb4.size
    have z5 := hk5.size
    have C5 : Chg [m14] w2 w5 := chg_in' (chg_sub (chg_in hk3) (by simp)) hb4 hk5
    have D5 := R4.kin D4 hk5 (by simp; omega) ⟨(w3.heap.size, w4.heap.size), by simp, Nat.le_refl _, Nat.le_refl _⟩
    have o14 := hk5.own m14 (by simp)
    let l2 : List ClM := l' ++ [(cl.1, a3, c3)]
    have U5' := hused.chg C5 (by
      intro n hn
      have := (hused.ub hn).2
      simp; omega)
    have U5 : UsedAt w.heap.size w5 l2 := fun y hy => by
      rcases List.mem_append.1 hy with hy | hy
      · exact U5' y hy
      · rw [List.mem_singleton.1 hy]
        exact ⟨D5, (R4.down (by have := hb3.size; omega)).up z5⟩
    have hub : ∀ n ∈ ubs l2, n ∈ ubs l' ∨ w2.heap.size ≤ n := fun n hn => by
      obtain ⟨y, hy, hne, ad, e, rfl⟩ := mem_ubs.1 hn
      rcases List.mem_append.1 hy with hy | hy
      · exact .inl (mem_ubs.2 ⟨y, hy, hne, ad, e, rfl⟩)
      · rw [List.mem_singleton.1 hy] at hne e
        right
        have hne' : bools cl.1.st.used ≠ [] := fun h => hne (bools_nil.1 h)
        obtain ⟨b', o', e', _⟩ := D5 0 _ (List.getElem?_eq_getElem (List.length_pos_iff.2 hne'))
        simp only at e
        rw [e] at e'
        obtain rfl := Option.some.inj e'
        rcases R4 with h | h
        · exact absurd h hne'
        · have := (h b' o' e).1
          simp only; omega
    have R2 : RowE 56 6 w.heap.size ([m14] ++ ubs l2) a1 x.toNat c1 (l'.flatMap clV) w2 := by
      have := hrow.grow (ms := m14 :: (ubs l2).filter fun n => decide (w2.heap.size ≤ n)) (by
        intro m hm
        rcases List.mem_cons.1 hm with rfl | hm
        · exact g1
        · simpa using (List.mem_filter.1 hm).2)
      refine this.less fun n hn => ?_
      rcases List.mem_append.1 hn with hn | hn
      · rw [List.mem_singleton.1 hn]; simp
      · rcases hub n hn with h | h
        · exact List.mem_append_right _ h
        · exact List.mem_append_left _ (List.mem_cons_of_mem _ (List.mem_filter.2 ⟨hn, by simpa using h⟩))
    have R5 := R2.chg C5 (by simp)
    refine append_rowE (P := Try.prog) (bytes := 64) (by kernel_rfl) (by omega) R5 (m := 1) (news := clV (cl.1, a3, c3)) (Cells.obj (vs := clV (cl.1, a3, c3)) hc5) rfl (by simp [clV]; exact ⟨rfl, rfl, rfl, rfl, rfl, rfl⟩) (by omega) (by omega) hb5.size (by
      intro n hn
      rcases List.mem_append.1 hn with hn | hn
      · rw [List.mem_singleton.1 hn]; exact o14
      · exact (U5.ub hn).2) (by omega) fun a4 c4 w6 R6 S cS hS => ?_
    have U6 := U5.chg cS fun n hn hh => (hS n hh).2 (List.mem_append_right _ hn)
    refine ⟨a4, _, c4, rfl, cS.own (fun b hb => ⟨hk5.own b hb, fun hh => (hS b hh).2 (List.mem_append_left _ hb)⟩) (by simp) (fun _ => ⟨hb5.size, fun b hb => (hS b hb).1⟩), by omega, fun w7 hb7 hk7 => ⟨⟨by omega, by omega, by omega, l2, ?_, ?_, U6.chg (Chg.kept hk7) ?_⟩, ?_⟩⟩
    · rw [show (x + 1).toNat = x.toNat + 1 by omega, List.take_add_one, List.map_append, List.map_append, hl', hget]; rfl
    · have := ((R6.chg (Chg.kept hk7) (by simp)).drop (ms := [m14]))
      rw [show l2.flatMap clV = l'.flatMap clV ++ clV (cl.1, a3, c3) by simp [l2, List.flatMap_append]]
      exact .inr this
    · intro n hn
      rcases hub n hn with h | h
      · have := (hused.ub h).2; simp; omega
      · obtain ⟨y, hy, hne, ad, e, rfl⟩ := mem_ubs.1 hn
        rcases List.mem_append.1 hy with hy | hy
        · have := (hused.ub (mem_ubs.2 ⟨y, hy, hne, ad, e, rfl⟩)).2; omega
        · rw [List.mem_singleton.1 hy] at hne e
          have hne' : bools cl.1.st.used ≠ [] := fun h => hne (bools_nil.1 h)
          obtain ⟨b', o', e', _⟩ := D5 0 _ (List.getElem?_eq_getElem (List.length_pos_iff.2 hne'))
          simp only at e
          rw [e] at e'
          obtain rfl := Option.some.inj e'
          rcases R4 with h | h
          · exact absurd h hne'
          · have := h b' o' e
            simp; omega
    · show ((l.length : Int) - (x + 1)).toNat < ((l.length : Int) - x).toNat
      omega
  · obtain rfl : x = l.length := by omega
    have R8 := hrow.chg (Chg.kept hk8) (by simp)
    have U8 := hused.chg (Chg.kept hk8) (by simp)
    refine ⟨a1, c1, l', by simp, hb8, by simpa using hl', R8.cells, ?_, U8⟩
    exact Rng.of R8.cells (by rcases R8.new with h | h; exact .inl h; exact .inr h)
end Go.Proofs.R07
end
section
/- The reference's proofs: Covers, Follows, Proves, Claims. -/
namespace Go.Proofs.R07
open Go.Vc Go.RowKit Go.Proofs

def coversR (c : Cl) (s : St) : Bool := decide (c.st.lo ≤ s.lo) && (decide (s.hi ≤ c.st.hi) && sub (setOf s.used) (setOf c.st.used))
theorem sub_iff {a b : List Bool} (h : a.length = b.length) : sub (setOf a) (setOf b) = true ↔ ∀ (i : Nat), a[i]? = some true → b[i]? = some true := by
  unfold sub
  rw [beq_iff_eq]
  have ha : ∀ i, (setOf a).testBit i = (a[i]? == some true) := fun i => by
    have := has_setTo (l := a) (i := i) (n := a.length)
    unfold has at this
    unfold setOf
    rw [this]
    by_cases hi : i < a.length
    · rw [decide_eq_true hi, Bool.true_and]
    · rw [decide_eq_false hi, Bool.false_and, List.getElem?_eq_none (by omega)]; rfl
  have hb : ∀ i, (setOf b).testBit i = (b[i]? == some true) := fun i => by
    have := has_setTo (l := b) (i := i) (n := b.length)
    unfold has at this
    unfold setOf
    rw [this]
    by_cases hi : i < b.length
    · rw [decide_eq_true hi, Bool.true_and]
    · rw [decide_eq_false hi, Bool.false_and, List.getElem?_eq_none (by omega)]; rfl
  constructor
  · intro h i hi
    have := congrArg (fun n => Nat.testBit n i) h
    simp only [Nat.testBit_and, ha, hb, hi] at this
    simpa using this
  · intro h
    apply Nat.eq_of_testBit_eq
    intro i
    rw [Nat.testBit_and, ha, hb]
    by_cases hi : a[i]? = some true
    · rw [hi, h i hi]; rfl
    · have : (a[i]? == some true) = false := by simpa using hi
      rw [this]; rfl

theorem covers_any (c : Cl) (s : St) {a b : Option Addr} {k d : Nat} {w : World} (hc : Cells w a (bools c.st.used)) (hs : Cells w b (bools s.used)) (hl : s.used.length = c.st.used.length) (hn : s.used.length ≤ 100000) :
    Calls Try.prog 74 #[ClV c a k, s.v b d] w (Pure w (.bool (coversR c s))) := by
  have hsub := sub_iff hl
  refine vc74 _ _ _ _ _ _ _ _ _ _ _ _ _ w _ fun m1 h1 m2 h2 => ⟨fun h w1 hb _ => ⟨?_, hb⟩, fun h0 => ⟨fun h w2 hb _ => ⟨?_, hb⟩, fun h3 => ?_⟩⟩
  · unfold coversR; rw [decide_eq_false (by omega)]; rfl
  · unfold coversR; rw [decide_eq_true h0, decide_eq_false (by omega)]; rfl
  have hval : coversR c s = sub (setOf s.used) (setOf c.st.used) := by unfold coversR; rw [decide_eq_true h0, decide_eq_true h3]; rfl
  rw [hval]
  refine ⟨fun ls _ => match ls with | [_, .int _ x] => 0 ≤ x ∧ x ≤ s.used.length ∧ ∀ j : Nat, (j : Int) < x → s.used[j]? = some true → c.st.used[j]? = some true | _ => False, fun ls => match ls with | [_, .int _ x] => ((s.used.length : Int) - x).toNat | _ => 0, fun w3 hb _ => ⟨by omega, by omega, fun j hj => by omega⟩, ?_⟩
  rintro t x w4 hb4 ⟨g0, gn, hj⟩
  refine ⟨fun hx => ?_, fun hx w8 hb8 _ => ⟨?_, hb8⟩⟩
  · have hix : x.toNat < s.used.length := by omega
    have hiy : x.toNat < c.st.used.length := by omega
    obtain ⟨p, q, rfl, c1⟩ := hs x.toNat _ (bools_get (getElem_of_lt hix))
    have nxt : ∀ {w' : World}, (s.used[x.toNat] = true → c.st.used[x.toNat] = true) → (0 ≤ x + 1 ∧ x + 1 ≤ s.used.length ∧ ∀ j : Nat, (j : Int) < x + 1 → s.used[j]? = some true → c.st.used[j]? = some true) := fun {_} h => ⟨by omega, by omega, fun j hjx hj1 => by
      by_cases e : (j : Int) < x
      · exact hj j e hj1
      · obtain rfl : j = x.toNat := by omega
        rw [getElem_of_lt hix] at hj1
        rw [getElem_of_lt hiy, h (Option.some.inj hj1)]⟩
    have hm : ((s.used.length : Int) - (x + 1)).toNat < ((s.used.length : Int) - x).toNat := by omega
    refine ⟨p, q, rfl, ⟨g0, hx⟩, s.used[x.toNat], cell_at (cell_keep hb4 c1) (by omega), .inl (cell_lt c1), fun ht => ?_, fun hf => ⟨by omega, fun w7 hb7 _ => ⟨nxt (w' := w7) fun h => (by rw [hf] at h; cases h), hm⟩⟩⟩
    obtain ⟨p', q', rfl, c2⟩ := hc x.toNat _ (bools_get (getElem_of_lt hiy))
    refine ⟨p', q', rfl, ⟨g0, by omega⟩, c.st.used[x.toNat], cell_at (cell_keep hb4 c2) (by omega), .inl (cell_lt c2), fun hn w5 hb5 _ => ⟨?_, hb5⟩, fun hn => ⟨by omega, fun w6 hb6 _ => ⟨nxt (w' := w6) fun _ => by simpa using hn, hm⟩⟩⟩
    have : sub (setOf s.used) (setOf c.st.used) = false := by
      rw [Bool.eq_false_iff]
      intro h
      have := hsub.1 h x.toNat (by rw [getElem_of_lt hix, ht])
      rw [getElem_of_lt hiy] at this
      rw [Option.some.inj this] at hn
      cases hn
    rw [this]
  · have : sub (setOf s.used) (setOf c.st.used) = true := hsub.2 fun i hi => by
      by_cases e : (i : Int) < x
      · exact hj i e hi
      · rw [List.getElem?_eq_none (by omega)] at hi; cases hi
    rw [this]

/-- A claim covers what remains. -/
def coversSp (c : Cl) (u : Nat) (sp : Sp) : Bool := decide (c.st.lo ≤ sp.1) && (decide (sp.2 ≤ c.st.hi) && sub u (setOf c.st.used))
def refFollows (r : Rules) (l : List Cl) (c : Cl) : Bool :=
  if c.visits = 0 then decide ((c.turns, c.weight) = (0, -1)) && (decide (-r.limit ≤ c.st.lo) && decide (c.st.hi ≤ r.limit))
  else match move r (c.st.lo, c.st.hi) (setOf c.st.used) (c.turns, c.weight) with
    | none => false
    | some (m, u) => seenAll r m fun sp => l.any fun x => decide (x.visits < c.visits) && coversSp x u sp

set_option maxHeartbeats 4000000 in
theorem refFollows_any {r : Rules} (hr : Good r) {a : Option Addr} {n : Nat} {w : World} (hc : Cells w a (spans r.ws)) {l : List ClM} {la : Option Addr} {lc : Nat} (hl : ClsAt w la l) (hlen : (l.length : Int) ≤ 1000000) (hok : ∀ x ∈ l, okCl r x.1)
    {c : Cl} (hco : okCl r c) {b : Option Addr} {k : Nat} (hu : Cells w b (bools c.st.used)) :
    Calls Try.prog 59 #[r.v a n, .slice la l.length lc, ClV c b k] w (Pure w (.bool (refFollows r (l.map (·.1)) c))) := by
  obtain ⟨hst, hv0, hv6⟩ := hco
  have hst' : startErr r c.st = 0 ∨ True := .inr trivial
  obtain ⟨hsp, hul3⟩ := okCl_facts hr ⟨hst, hv0, hv6⟩
  have hul : c.st.used.length = r.ws.length := by
    unfold okSt at hst; simp only [Bool.and_eq_true, beq_iff_eq] at hst; exact hst.2
  have herr := hr.2.2.1
  obtain ⟨q1, q2, q3⟩ := hsp
  simp only at q1 q2 q3
  refine vc59 _ _ _ _ _ _ _ _ _ _ _ _ _ _ _ _ _ _ _ w _ fun m1 h1 m2 h2 => ⟨fun hv w1 hb1 _ => ?_, fun hv w7 hb7 k7 => ?_⟩
  · have hval : refFollows r (l.map (·.1)) c = (decide ((c.turns, c.weight) = (0, -1)) && (decide (-r.limit ≤ c.st.lo) && decide (c.st.hi ≤ r.limit))) := by unfold refFollows; rw [if_pos hv]
    refine eql_act ⟨_, rfl, .all (.refl _ _), fun ht w3 hb3 _ => Pure.calls (good2_any hr c.st) fun w4 hb4 => ⟨_, rfl, .all hb4, fun w5 hb5 _ => ⟨?_, hb5⟩⟩, fun hf w6 hb6 _ => ⟨?_, hb6⟩⟩
    · rw [hval, ht, Bool.true_and]
    · rw [hval, hf]; rfl
  refine (image_any hr ⟨q1, q2, q3⟩ hul (hc.keep hb7) (hu.keep hb7) c.turns c.weight).mono fun e w8 he => ?_
  obtain ⟨lo, hi, rfl, b8, himg, n1, n2, n3, n4⟩ := he
  refine ⟨_, _, _, rfl, .all b8, fun m3 h3 => ⟨by omega, ?_⟩⟩
  cases hmv : move r (c.st.lo, c.st.hi) (setOf c.st.used) (c.turns, c.weight) with
  | none =>
    have hval : refFollows r (l.map (·.1)) c = false := by unfold refFollows; rw [if_neg hv, hmv]
    refine ⟨fun ls _ => match ls with | [.bool t, .int _ _] => t = false | _ => False, fun _ => 0, fun w9 hb9 _ => rfl, ?_⟩
    rintro t x w10 hb10 rfl
    exact ⟨fun h => (by cases h), fun _ w22 hb22 _ => ⟨by rw [hval], hb22⟩⟩
  | some q =>
    obtain ⟨q, mu⟩ := q
    obtain rfl : q = (lo, hi) := himg _ hmv
    have huu : setOf c.st.used < 8 := setOf_lt (by have := hr.1; omega)
    obtain ⟨hmu, p1, p2, p3⟩ := move_facts hr huu hmv
    simp only at p1 p2 p3
    let f (sp : Sp) : Bool := (l.map (·.1)).any fun x => decide (x.visits < c.visits) && coversSp x mu sp
    have hval : refFollows r (l.map (·.1)) c = seenAll r (lo, hi) f := by unfold refFollows; rw [if_neg hv, hmv]
    let good (i : Nat) : Bool := !decide ((nextSp r (lo, hi) (lo - r.err + i)).1 ≤ (nextSp r (lo, hi) (lo - r.err + i)).2) || f (nextSp r (lo, hi) (lo - r.err + i))
    have hz8 := b8.size
    refine ⟨fun ls w' => match ls with | [.bool t, .int _ z] => ∃ j : Nat, z = lo - r.err + j ∧ j ≤ (hi - lo + 2 * r.err + 1).toNat ∧ (t = true → ∀ i, i < j → good i = true) ∧ (t = false → seenAll r (lo, hi) f = false) ∧ m1 < w'.heap.size ∧ m2 < w'.heap.size ∧ m3 < w'.heap.size | _ => False, fun ls => match ls with | [_, .int _ z] => (hi + r.err + 1 - z).toNat | _ => 0,
      fun w9 hb9 k9 => ⟨0, by omega, by omega, fun _ i hi => by omega, fun h => (by cases h), k9.own m1 (by simp), k9.own m2 (by simp), k9.own m3 (by simp)⟩, ?_⟩
    rintro t z w10 hb10 ⟨j, rfl, hj, hgood, hbad, o1, o2, o3⟩
    refine ⟨fun ht => ⟨by omega, fun hz w11 hb11 k11 => ?_, fun hz w21 hb21 _ => ⟨?_, hb21⟩⟩, fun hf w22 hb22 _ => ⟨by rw [hval, hbad hf, hf], hb22⟩⟩
    · have hy := (move_next hr hul hmv).1
      refine (next_any r c.st (hu.keep hb11) (by have := hr.1; omega) c.turns c.weight hy (lo, hi) (lo - r.err + j) (by omega) (by omega) (by omega) (by omega)).mono fun e w12 he => ?_
      obtain ⟨a5, c5, rfl, b12, A12, _, N12⟩ := he
      have R12 := Rng.of A12 N12
      have z11 := k11.size
      have z12 := b12.size
      have u1 := k11.own m1 (by simp)
      have u2 := k11.own m2 (by simp)
      have u3 := k11.own m3 (by simp)
      obtain ⟨hset, hlenN⟩ := move_set hr hul hmv (lo, hi) (lo - r.err + j)
      have hnsp : nextSp r (lo, hi) (lo - r.err + j) = ((nextR r c.st c.weight (lo, hi) (lo - r.err + j)).lo, (nextR r c.st c.weight (lo, hi) (lo - r.err + j)).hi) := rfl
      have hcov : ∀ x : Cl, coversR x (nextR r c.st c.weight (lo, hi) (lo - r.err + j)) = coversSp x mu (nextSp r (lo, hi) (lo - r.err + j)) := fun x => by unfold coversR coversSp; rw [hset, hnsp]
      generalize nextR r c.st c.weight (lo, hi) (lo - r.err + j) = nx at *
      refine ⟨_, _, a5, _, c5, _, rfl, .all b12, fun m6 h6 => ?_⟩
      let g (x : ClM) : Bool := decide (x.1.visits < c.visits) && coversSp x.1 mu (nextSp r (lo, hi) (lo - r.err + j))
      have hgd : good j = (!decide (nx.lo ≤ nx.hi) || l.any g) := by
        show (_ || _) = _
        rw [hnsp]
        congr 1
        show (l.map _).any _ = _
        rw [List.any_map]
        refine List.any_congr rfl fun x => ?_
        show _ = (_ && _)
        rw [hnsp]; rfl
      refine ⟨fun ls w' => match ls with | [.bool t, .int _ x] => 0 ≤ x ∧ x ≤ l.length ∧ t = (!decide (nx.lo ≤ nx.hi) || (l.take x.toNat).any g) ∧ Cells w' a5 (bools nx.used) ∧ m1 < w'.heap.size ∧ m2 < w'.heap.size ∧ m3 < w'.heap.size ∧ m6 < w'.heap.size | _ => False, fun ls => match ls with | [_, .int _ x] => ((l.length : Int) - x).toNat | _ => 0,
        fun w13 hb13 k13 => ⟨by omega, by omega, by simp, R12.cells A12 (Chg.kept k13) (by simp; omega), k13.own m1 (by simp), k13.own m2 (by simp), k13.own m3 (by simp), k13.own m6 (by simp)⟩, ?_⟩
      rintro t6 x w14 hb14 ⟨g0, gn, ht6, A14, e1, e2, e3, e6⟩
      have back : ∀ {t' : Bool} {w' : World}, t' = good j → Kept [m6, m3, m2, m1] w14 w' → (∃ j' : Nat, lo - r.err + j + 1 = lo - r.err + j' ∧ j' ≤ (hi - lo + 2 * r.err + 1).toNat ∧ (t' = true → ∀ i, i < j' → good i = true) ∧ (t' = false → seenAll r (lo, hi) f = false) ∧ m1 < w'.heap.size ∧ m2 < w'.heap.size ∧ m3 < w'.heap.size) := fun {t' w'} ht' hk => ⟨j + 1, by omega, by omega, fun h i hi => by
          by_cases e : i < j
          · exact hgood ht i e
          · obtain rfl : i = j := by omega
            rw [← ht']; exact h, fun h => (by
          rw [Bool.eq_false_iff]
          intro hs
          have := (List.all_eq_true.1 hs) j (List.mem_range.2 (by simp only; omega))
          have hgj : good j = true := this
          rw [← ht', h] at hgj
          cases hgj), hk.own m1 (by simp), hk.own m2 (by simp), hk.own m3 (by simp)⟩
      have hmeas : (hi + r.err + 1 - (lo - r.err + j + 1)).toNat < (hi + r.err + 1 - (lo - r.err + j)).toNat := by omega
      refine ⟨fun hx => ⟨fun hnt => ?_, fun hnt => ⟨by omega, fun w19 hb19 k19 => ⟨back ?_ k19, hmeas⟩⟩⟩, fun hx => ⟨by omega, fun w20 hb20 k20 => ⟨back ?_ k20, hmeas⟩⟩⟩
      · have hix : x.toNat < l.length := by omega
        have hget := getElem_of_lt hix
        have hnt' : (!decide (nx.lo ≤ nx.hi) || (l.take x.toNat).any g) = false := by rw [← ht6]; simpa using hnt
        have htake : ∀ y, l[x.toNat]? = some y → (!decide (nx.lo ≤ nx.hi) || (l.take (x + 1).toNat).any g) = g y := fun y hy => by
          rw [show (x + 1).toNat = x.toNat + 1 by omega, List.take_add_one, List.any_append, ← Bool.or_assoc, hnt', hy]
          simp
        generalize hcl : l[x.toNat] = cl at hget
        have hmem : cl ∈ l := List.mem_of_getElem? hget
        obtain ⟨p, q, rfl, d0⟩ := hl.row _ _ (cl_get hget (j := 0) (v := I cl.1.st.lo) rfl (by omega))
        have d1 := Cells.at hl.row (cl_get hget (j := 1) (v := I cl.1.st.hi) rfl (by omega))
        have d2 := Cells.at hl.row (cl_get hget (j := 2) (v := .slice cl.2.1 cl.1.st.used.length cl.2.2) rfl (by omega))
        have d3 := Cells.at hl.row (cl_get hget (j := 3) (v := I cl.1.visits) rfl (by omega))
        have d4 := Cells.at hl.row (cl_get hget (j := 4) (v := I cl.1.turns) rfl (by omega))
        have d5 := Cells.at hl.row (cl_get hget (j := 5) (v := I cl.1.weight) rfl (by omega))
        have hx2 : ((l.length : Int) - (x + 1)).toNat < ((l.length : Int) - x).toNat := by omega
        refine ⟨p, q, rfl, ⟨g0, hx⟩, _, cell_at (cell_keep hb14 d3) (by omega), .inl (cell_lt d3), fun hlt => ?_, fun hge => ⟨by omega, fun w18 hb18 k18 => ⟨⟨by omega, by omega, ?_, R12.cells A14 (Chg.kept k18) (by simp; omega), k18.own m1 (by simp), k18.own m2 (by simp), k18.own m3 (by simp), k18.own m6 (by simp)⟩, hx2⟩⟩⟩
        · refine ⟨p, q, rfl, ⟨g0, hx⟩, _, _, _, _, _, _, _, _, cell_at (cell_keep hb14 d0) (by omega), cell_at (cell_keep hb14 d1) (by omega), cell_at (cell_keep hb14 d2) (by omega), cell_at (cell_keep hb14 d3) (by omega), cell_at (cell_keep hb14 d4) (by omega), cell_at (cell_keep hb14 d5) (by omega), .inl (cell_lt d3), fun w15 hb15 k15 => ?_⟩
          have A15 := R12.cells A14 (chg_in k15) (by simp; omega)
          have hokx := hok cl hmem
          have hlx : cl.1.st.used.length = r.ws.length := by
            have := hokx.1; unfold okSt at this; simp only [Bool.and_eq_true, beq_iff_eq] at this; exact this.2
          have y1 := k15.own m1 (by simp)
          have y2 := k15.own m2 (by simp)
          have y3 := k15.own m3 (by simp)
          have y6 := k15.own m6 (by simp)
          refine Pure.calls (covers_any cl.1 nx ((hl.used cl hmem).keep hb15) A15 (by rw [hlenN, hul, hlx]) (by rw [hlenN]; have := hr.1; omega)) fun w16 hb16 => ⟨_, rfl, .all hb16, by omega, fun w17 hb17 k17 => ⟨⟨by omega, by omega, ?_, R12.cells (A15.keep hb16) (Chg.kept k17) (by simp; omega), k17.own m1 (by simp), k17.own m2 (by simp), k17.own m3 (by simp), k17.own m6 (by simp)⟩, hx2⟩⟩
          rw [htake _ hget, hcov]
          show _ = (_ && _)
          rw [decide_eq_true hlt, Bool.true_and]
        · rw [htake _ hget]
          show _ = (_ && _)
          rw [decide_eq_false (by omega)]; rfl
      · rw [hgd, ht6]
        have : (!decide (nx.lo ≤ nx.hi) || (l.take x.toNat).any g) = true := by rw [← ht6]; simpa using hnt
        rw [this]
        symm
        rcases Bool.or_eq_true_iff.1 this with h | h
        · rw [h]; rfl
        · obtain ⟨y, hy, hgy⟩ := List.any_eq_true.1 h
          rw [List.any_eq_true.2 ⟨y, List.mem_of_mem_take hy, hgy⟩, Bool.or_true]
      · rw [hgd, ht6, List.take_of_length_le (by omega)]
    · rw [hval, ht]
      have : seenAll r (lo, hi) f = true := List.all_eq_true.2 fun i hi' => hgood ht i (by have := List.mem_range.1 hi'; simp only at this; omega)
      rw [this]
end Go.Proofs.R07
end
section
/- What the program's proofs and the reference's say: the same. -/
namespace Go.Proofs.R07
open Go.Vc Go.RowKit Go.Proofs

theorem upd_le {c : Cl} {k : Int × Int} {u : Nat} {x t b : Int} : b ≤ upd c k u x t ↔ b ≤ t ∨ ((c.visits ≤ k.1 ∧ sub u (setOf c.st.used) = true ∧ c.st.lo = x) ∧ b ≤ c.st.hi) := by
  unfold upd
  split
  · rename_i h
    constructor
    · intro hb
      by_cases hbt : b ≤ t
      · exact .inl hbt
      · exact .inr ⟨h, by omega⟩
    · rintro (h | ⟨_, h⟩) <;> omega
  · rename_i h
    exact ⟨.inl, fun hh => hh.elim id fun hh => absurd hh.1 h⟩
theorem fold_upd_le {k : Int × Int} {u : Nat} {x b : Int} : ∀ {l : List Cl} {t : Int}, b ≤ l.foldl (fun t c => upd c k u x t) t ↔ b ≤ t ∨ ∃ c ∈ l, (c.visits ≤ k.1 ∧ sub u (setOf c.st.used) = true ∧ c.st.lo = x) ∧ b ≤ c.st.hi
  | [], t => by simp
  | c :: l, t => by
    rw [List.foldl_cons, fold_upd_le, upd_le, or_assoc]
    simp
theorem preMax_le {g : Int → Int} {b : Int} : ∀ {n : Nat}, b ≤ preMax g n ↔ ∃ i : Nat, i ≤ n ∧ b ≤ g (-300 + (i : Int))
  | 0 => by
    unfold preMax
    constructor
    · intro h; exact ⟨0, Nat.le_refl _, by simpa using h⟩
    · rintro ⟨i, hi, h⟩
      obtain rfl : i = 0 := by omega
      simpa using h
  | n + 1 => by
    unfold preMax
    rw [show (b ≤ max (g (-300 + ((n + 1 : Nat) : Int))) (preMax g n)) ↔ (b ≤ g (-300 + ((n + 1 : Nat) : Int)) ∨ b ≤ preMax g n) by omega, preMax_le]
    constructor
    · rintro (h | ⟨i, hi, h⟩)
      · exact ⟨n + 1, Nat.le_refl _, h⟩
      · exact ⟨i, by omega, h⟩
    · rintro ⟨i, hi, h⟩
      by_cases e : i = n + 1
      · subst e; exact .inl h
      · exact .inr ⟨i, by omega, h⟩
theorem reachV_le {l : List Cl} {v : Int} {u : Nat} {x b : Int} (h1 : -300 ≤ x) (hb : x ≤ b) (hlo : ∀ c ∈ l, -300 ≤ c.st.lo) :
    b ≤ reachV l (v, (u : Int)) x ↔ ∃ c ∈ l, c.visits ≤ v ∧ sub u (setOf c.st.used) = true ∧ c.st.lo ≤ x ∧ b ≤ c.st.hi := by
  unfold reachV
  rw [preMax_le]
  constructor
  · rintro ⟨i, hi, h⟩
    unfold reachB at h
    rw [fold_upd_le] at h
    rcases h with h | ⟨c, hc, ⟨g1, g2, g3⟩, g4⟩
    · omega
    · exact ⟨c, hc, g1, by simpa using g2, by omega, g4⟩
  · rintro ⟨c, hc, g1, g2, g3, g4⟩
    have := hlo c hc
    refine ⟨(c.st.lo + 300).toNat, by omega, ?_⟩
    unfold reachB
    rw [fold_upd_le]
    exact .inr ⟨c, hc, ⟨g1, by simpa using g2, by omega⟩, g4⟩

theorem seen_windows {e : Int} (he : 0 ≤ e) {lo hi : Int} (hlh : lo ≤ hi) {Q : Int → Int → Prop} (hQ : ∀ a b a' b', a ≤ a' → b' ≤ b → Q a b → Q a' b') :
    (∀ seen : Int, lo - e ≤ seen → seen ≤ hi + e → max lo (seen - e) ≤ min hi (seen + e) → Q (max lo (seen - e)) (min hi (seen + e))) ↔
    ∀ f : Int, lo ≤ f → f ≤ max lo (hi - 2 * e) → Q f (min hi (f + 2 * e)) := by
  constructor
  · intro h f h1 h2
    have := h (f + e) (by omega) (by omega) (by omega)
    rwa [show max lo (f + e - e) = f by omega, show min hi (f + e + e) = min hi (f + 2 * e) by congr 1; omega] at this
  · intro h seen h1 h2 h3
    by_cases hc : max lo (seen - e) ≤ max lo (hi - 2 * e)
    · exact hQ _ _ _ _ (Int.le_refl _) (by omega) (h _ (by omega) hc)
    · exact hQ _ _ _ _ (by omega) (by omega) (h (max lo (hi - 2 * e)) (by omega) (by omega))

theorem follows_eq {r : Rules} (hr : Good r) {l : List Cl} (hok : ∀ c ∈ l, okCl r c) {c : Cl} (hc : okCl r c) : refFollows r l c = followsR r l c := by
  have herr := hr.2.2.1
  have hlim := hr.2.1
  have hlo : ∀ x ∈ l, okSp (x.st.lo, x.st.hi) := fun x hx => (okCl_facts hr (hok x hx)).1
  obtain ⟨hsp, hul⟩ := okCl_facts hr hc
  obtain ⟨q1, q2, q3⟩ := hsp
  simp only at q1 q2 q3
  unfold refFollows followsR
  split
  · congr 1
    unfold goodTo
    by_cases h : -r.limit ≤ c.st.lo
    · by_cases h2 : c.st.lo ≤ r.limit
      · rw [decide_eq_true h, if_pos ⟨h, h2⟩, Bool.true_and]
      · rw [decide_eq_true h, if_neg (fun hh => h2 hh.2), Bool.true_and, decide_eq_false (by omega), decide_eq_false (by omega)]
    · rw [decide_eq_false h, if_neg (fun hh => h hh.1), Bool.false_and, decide_eq_false (by omega)]
  · cases hm : move r (c.st.lo, c.st.hi) (setOf c.st.used) (c.turns, c.weight) with
    | none => rfl
    | some q =>
      obtain ⟨⟨lo, hi⟩, u⟩ := q
      have huu : setOf c.st.used < 8 := setOf_lt hul
      obtain ⟨_, p1, p2, p3⟩ := move_facts hr huu hm
      simp only at p1 p2 p3
      simp only
      rw [Bool.eq_iff_iff, seenAll_iff]
      have hQ := seen_windows (e := r.err) herr.1 p2 (Q := fun a b => ∃ x ∈ l, x.visits ≤ c.visits - 1 ∧ sub u (setOf x.st.used) = true ∧ x.st.lo ≤ a ∧ b ≤ x.st.hi) fun a b a' b' h1 h2 ⟨x, hx, g1, g2, g3, g4⟩ => ⟨x, hx, g1, g2, by omega, by omega⟩
      have e1 : ∀ sp : Sp, (l.any fun x => decide (x.visits < c.visits) && coversSp x u sp) = true ↔ ∃ x ∈ l, x.visits ≤ c.visits - 1 ∧ sub u (setOf x.st.used) = true ∧ x.st.lo ≤ sp.1 ∧ sp.2 ≤ x.st.hi := fun sp => by
        rw [List.any_eq_true]
        refine exists_congr fun x => and_congr Iff.rfl ?_
        unfold coversSp
        simp only [Bool.and_eq_true, decide_eq_true_eq]
        constructor
        · rintro ⟨g1, g2, g3, g4⟩; exact ⟨by omega, g4, g2, g3⟩
        · rintro ⟨g1, g2, g3, g4⟩; exact ⟨by omega, g3, g4, g2⟩
      simp only [e1]
      refine hQ.trans ?_
      rw [List.all_eq_true]
      constructor
      · intro h i hi'
        have hi2 := List.mem_range.1 hi'
        rw [decide_eq_true_eq, reachV_le (by omega) (by omega) fun x hx => (hlo x hx).1]
        have := h (lo + i) (by omega) (by omega)
        exact this
      · intro h f h1 h2
        have := h (f - lo).toNat (List.mem_range.2 (by omega))
        rw [decide_eq_true_eq, reachV_le (by omega) (by omega) fun x hx => (hlo x hx).1] at this
        rw [show lo + ((f - lo).toNat : Int) = f by omega] at this
        exact this
end Go.Proofs.R07
end
section
/- Claims that prove: what holds of a list that is made as the program makes it (plain). -/
namespace Go.Proofs.R07
open Go.Vc Go.RowKit Go.Proofs

/-- A claim's key: a span, and the weights that are used. -/
abbrev Key := Sp × Nat
def usedL (r : Rules) (u : Nat) : List Bool := (List.range r.ws.length).map (has u)
theorem usedL_len (r : Rules) (u : Nat) : (usedL r u).length = r.ws.length := by simp [usedL]
def clOf (r : Rules) (k : Key) (v : Int) (a : Int × Int) : Cl := ⟨⟨k.1.1, k.1.2, usedL r k.2⟩, v, a.1, a.2⟩
theorem used_all : ∀ n : Fin 4, ∀ u : Fin 8, u.val < 2 ^ n.val → setOf ((List.range n.val).map (has u.val)) = u.val := by decide +kernel
theorem setOf_usedL {r : Rules} (hr : Good r) {u : Nat} (hu : u < two r) : setOf (usedL r u) = u := by
  have h := hr.1
  have h8 := two_le hr
  exact used_all ⟨r.ws.length, by omega⟩ ⟨u, by omega⟩ hu
theorem usedL_setOf {r : Rules} {l : List Bool} (h : l.length = r.ws.length) : usedL r (setOf l) = l := by
  apply List.ext_getElem
  · rw [usedL_len, h]
  · intro i h1 h2
    simp only [usedL, List.getElem_map, List.getElem_range]
    exact has_setOf h2

/-- What a claim needs, said of the claims there are. -/
def Sat (r : Rules) (M : List Cl) (c : Cl) : Prop :=
  (c.visits = 0 ∧ (c.turns, c.weight) = (0, -1) ∧ c.st.hi ≤ goodTo r c.st.lo) ∨
  (c.visits ≠ 0 ∧ ∃ m u, move r (c.st.lo, c.st.hi) (setOf c.st.used) (c.turns, c.weight) = some (m, u) ∧ ∀ f : Int, m.1 ≤ f → f ≤ max m.1 (m.2 - 2 * r.err) → ∃ c' ∈ M, c'.visits ≤ c.visits - 1 ∧ sub u (setOf c'.st.used) = true ∧ c'.st.lo ≤ f ∧ min m.2 (f + 2 * r.err) ≤ c'.st.hi)
theorem Sat.mono {r : Rules} {M M' : List Cl} {c : Cl} (h : Sat r M c) (hM : ∀ x ∈ M, x ∈ M') : Sat r M' c := by
  rcases h with h | ⟨h0, m, u, h1, h2⟩
  · exact .inl h
  · exact .inr ⟨h0, m, u, h1, fun f a b => let ⟨x, hx, q⟩ := h2 f a b; ⟨x, hM x hx, q⟩⟩
theorem sat_iff {r : Rules} (hr : Good r) {l : List Cl} (hok : ∀ c ∈ l, okCl r c) {c : Cl} (hc : okCl r c) : followsR r l c = true ↔ Sat r l c := by
  have hlo : ∀ x ∈ l, -300 ≤ x.st.lo := fun x hx => (okCl_facts hr (hok x hx)).1.1
  obtain ⟨hsp, hul⟩ := okCl_facts hr hc
  have herr := hr.2.2.1
  unfold followsR Sat
  split
  · rename_i h0
    simp [h0]
  · rename_i h0
    cases hm : move r (c.st.lo, c.st.hi) (setOf c.st.used) (c.turns, c.weight) with
    | none => simp [h0]
    | some q =>
      obtain ⟨⟨lo, hi⟩, u⟩ := q
      obtain ⟨_, p1, p2, p3⟩ := move_facts hr (setOf_lt hul) hm
      simp only at p1 p2 p3
      simp only [h0, false_and, false_or, ne_eq, not_false_eq_true, true_and, Option.some.injEq, Prod.mk.injEq, List.all_eq_true, decide_eq_true_eq]
      constructor
      · intro h
        refine ⟨(lo, hi), u, ⟨rfl, rfl⟩, fun f h1 h2 => ?_⟩
        simp only at h1 h2 ⊢
        have := h (f - lo).toNat (List.mem_range.2 (by omega))
        rw [reachV_le (by omega) (by omega) hlo, show lo + ((f - lo).toNat : Int) = f by omega] at this
        exact this
      · rintro ⟨⟨a, b⟩, u', ⟨⟨rfl, rfl⟩, rfl⟩, h⟩ i hi'
        have hi2 := List.mem_range.1 hi'
        rw [reachV_le (by omega) (by omega) hlo]
        exact h (lo + i) (by simp only; omega) (by simp only; omega)

end Go.Proofs.R07
end
section
/- What the making of claims keeps (plain). -/
namespace Go.Proofs.R07
open Go.Vc Go.RowKit Go.Proofs

def IsCl (r : Rules) (k : Key) (m : Nat) (c : Cl) : Prop := ∃ a, c = clOf r k m a
def GoodKey (r : Rules) (k : Key) : Prop := okSp k.1 ∧ k.2 < two r
def LoopKey (r : Rules) (k : Key) : Prop := ∃ v, v < 6 ∧ k.1.2 = stateV r v k.2 k.1.1

theorem clOf_ok {r : Rules} {k : Key} {m : Nat} {a : Int × Int} (hk : GoodKey r k) (hm : m < 7) : okCl r (clOf r k m a) := by
  obtain ⟨⟨h1, h2, h3⟩, _⟩ := hk
  refine ⟨?_, by simp only [clOf]; omega, by simp only [clOf]; omega⟩
  simp only [okSt, clOf, usedL_len, beq_self_eq_true, Bool.and_true]
  exact (isSpan_iff _ _ _).2 ⟨h1, h2, h3⟩

/-- How keys and claims grow. -/
structure Grown (r : Rules) (n : Nat) (K : List Key) (L : List Cl) (K2 : List Key) (L2 : List Cl) : Prop where
  nod : (K ++ K2).Nodup
  len : L2.length = K2.length
  keys : ∀ k ∈ K2, GoodKey r k ∧ ∃ m, few r k.2 k.1 = some m ∧ m ≤ n ∧ ∃ c ∈ L2, IsCl r k m c
  ok : ∀ c ∈ L2, okCl r c ∧ Sat r (L ++ L2) c
theorem Grown.nil {r : Rules} {n : Nat} {K : List Key} {L : List Cl} (h : K.Nodup) : Grown r n K L [] [] := ⟨by simpa using h, rfl, by simp, by simp⟩
theorem Grown.trans {r : Rules} {n m : Nat} {K K2 K3 : List Key} {L L2 L3 : List Cl} (h1 : Grown r n K L K2 L2) (h2 : Grown r m (K ++ K2) (L ++ L2) K3 L3) (hm : m ≤ n) : Grown r n K L (K2 ++ K3) (L2 ++ L3) := by
  refine ⟨by rw [← List.append_assoc]; exact h2.nod, by rw [List.length_append, List.length_append, h1.len, h2.len], fun k hk => ?_, fun c hc => ?_⟩
  · rcases List.mem_append.1 hk with hk | hk
    · obtain ⟨g, j, e1, e2, c, hc, e3⟩ := h1.keys k hk
      exact ⟨g, j, e1, e2, c, List.mem_append_left _ hc, e3⟩
    · obtain ⟨g, j, e1, e2, c, hc, e3⟩ := h2.keys k hk
      exact ⟨g, j, e1, by omega, c, List.mem_append_right _ hc, e3⟩
  · rcases List.mem_append.1 hc with hc | hc
    · obtain ⟨g1, g2⟩ := h1.ok c hc
      exact ⟨g1, g2.mono fun x hx => by rw [← List.append_assoc]; exact List.mem_append_left _ hx⟩
    · obtain ⟨g1, g2⟩ := h2.ok c hc
      exact ⟨g1, g2.mono fun x hx => by rw [← List.append_assoc]; exact hx⟩

/-- All keys there are, and claims for those that need no more visits. -/
def Known (r : Rules) (n : Nat) (K : List Key) (L : List Cl) : Prop := ∀ k ∈ K, ∀ m, few r k.2 k.1 = some m → m ≤ n → ∃ c ∈ L, IsCl r k m c

/-- What is left behind when a key was added. -/
def Added (r : Rules) (n : Nat) (k : Key) (K : List Key) (L : List Cl) (K2 : List Key) (L2 : List Cl) : Prop :=
  Grown r n K L K2 L2 ∧ (∃ c ∈ L ++ L2, IsCl r k n c) ∧ (∀ k' ∈ K2, k' = k ∨ LoopKey r k') ∧ (k ∉ K → ∃ c, L2.head? = some c ∧ IsCl r k n c)

/-- What claims cover, up to a rate. -/
def Cov (r : Rules) (n : Nat) (img : Sp) (u : Nat) (M : List Cl) (f : Int) : Prop := ∀ g : Int, img.1 ≤ g → g < f → g ≤ max img.1 (img.2 - 2 * r.err) → ∃ c ∈ M, c.visits ≤ n ∧ sub u (setOf c.st.used) = true ∧ c.st.lo ≤ g ∧ min img.2 (g + 2 * r.err) ≤ c.st.hi
theorem Cov.mono {r : Rules} {n : Nat} {img : Sp} {u : Nat} {M M' : List Cl} {f : Int} (h : Cov r n img u M f) (hM : ∀ x ∈ M, x ∈ M') : Cov r n img u M' f := fun g a b c => let ⟨x, hx, q⟩ := h g a b c; ⟨x, hM x hx, q⟩
theorem sub_self {u : Nat} : sub u u = true := by simp [sub]
theorem Cov.step {r : Rules} (hr : Good r) {n : Nat} {img : Sp} {u : Nat} (hu : u < two r) {M : List Cl} {f to : Int} (h : Cov r n img u M f) {c : Cl} (hc : c ∈ M) {m : Nat} (hm : m ≤ n) (hcl : IsCl r ((f, to), u) m c) (hto : min img.2 (f + 2 * r.err) ≤ to) :
    Cov r n img u M (max f (to - 2 * r.err) + 1) ∧ (img.2 ≤ to → ∀ f', Cov r n img u M f') := by
  obtain ⟨a, rfl⟩ := hcl
  have hs : sub u (setOf (clOf r ((f, to), u) m a).st.used) = true := by
    show sub u (setOf (usedL r u)) = true
    rw [setOf_usedL hr hu]; exact sub_self
  have herr := hr.2.2.1
  constructor
  · intro g h1 h2 h3
    by_cases hg : g < f
    · exact h g h1 hg h3
    · refine ⟨_, hc, by simp only [clOf]; omega, hs, by simp only [clOf]; omega, ?_⟩
      simp only [clOf]
      by_cases e : g = f
      · subst e; exact hto
      · omega
  · intro hall f' g h1 h2 h3
    by_cases hg : g < f
    · exact h g h1 hg h3
    · exact ⟨_, hc, by simp only [clOf]; omega, hs, by simp only [clOf]; omega, by simp only [clOf]; omega⟩

/-- The windows of the image of the first act. -/
theorem act_windows {r : Rules} (hr : Good r) {n u : Nat} (hu : u < 8) {s : Sp} (hs : okSp s) (h : few r u s = some (n + 1)) : ∃ a img u', firstAct r n u s = some a ∧ move r s u a = some (img, u') ∧ okSp img ∧
    ∀ f : Int, img.1 ≤ f → f ≤ max img.1 (img.2 - 2 * r.err) → min img.2 (f + 2 * r.err) ≤ stateV r n u' f := by
  obtain ⟨a, img, u', h1, h2, h3⟩ := act_of_few hr hu hs h
  obtain ⟨_, p1, p2, p3⟩ := move_facts hr hu h2
  have herr := hr.2.2.1
  refine ⟨a, img, u', h1, h2, ⟨p1, p2, p3⟩, fun f q1 q2 => ?_⟩
  have hw := h3 (min (f + r.err) (img.2 + r.err)) (by omega) (by omega) (by omega)
  by_cases hc : f + 2 * r.err ≤ img.2
  · rw [show max img.1 (min (f + r.err) (img.2 + r.err) - r.err) = f by omega, show min img.2 (min (f + r.err) (img.2 + r.err) + r.err) = min img.2 (f + 2 * r.err) by omega] at hw
    exact (enough_iff hr _ _ _ ⟨by show -300 ≤ f; omega, by show f ≤ min img.2 (f + 2 * r.err); omega, by show min img.2 (f + 2 * r.err) ≤ 300; omega⟩).1 hw
  · rw [show max img.1 (min (f + r.err) (img.2 + r.err) - r.err) = f by omega, show min img.2 (min (f + r.err) (img.2 + r.err) + r.err) = min img.2 (f + 2 * r.err) by omega] at hw
    exact (enough_iff hr _ _ _ ⟨by show -300 ≤ f; omega, by show f ≤ min img.2 (f + 2 * r.err); omega, by show min img.2 (f + 2 * r.err) ≤ 300; omega⟩).1 hw

/-- A key whose claim says no visit. -/
theorem added_zero {r : Rules} {k : Key} {K : List Key} {L : List Cl} (hK : K.Nodup) (hn : k ∉ K) (hk : GoodKey r k) (h0 : few r k.2 k.1 = some 0) (hg : k.1.2 ≤ goodTo r k.1.1) : Added r 0 k K L [k] [clOf r k (0 : Nat) (0, -1)] := by
  refine ⟨⟨?_, rfl, fun k' hk' => ?_, fun c hc => ?_⟩, ⟨_, List.mem_append_right _ (List.mem_singleton_self _), _, rfl⟩, fun k' hk' => .inl (List.mem_singleton.1 hk'), fun _ => ⟨_, rfl, _, rfl⟩⟩
  · rw [List.nodup_append]
    exact ⟨hK, by simp, fun x hx y hy e => hn (by rw [List.mem_singleton] at hy; rw [← hy, ← e]; exact hx)⟩
  · rw [List.mem_singleton] at hk'; subst hk'
    exact ⟨hk, 0, h0, Nat.le_refl _, _, List.mem_singleton_self _, _, rfl⟩
  · rw [List.mem_singleton] at hc; subst hc
    exact ⟨clOf_ok hk (by omega), .inl ⟨rfl, rfl, hg⟩⟩

/-- A key whose claim needs others: these were made behind it. -/
theorem added_more {r : Rules} (hr : Good r) {k : Key} {n : Nat} {K K3 : List Key} {L L3 : List Cl} (hn : k ∉ K) (hk : GoodKey r k) (h0 : few r k.2 k.1 = some (n + 1)) {a : Int × Int} {img : Sp} {u : Nat} (hm : move r k.1 k.2 a = some (img, u))
    (hG : Grown r n (K ++ [k]) (L ++ [clOf r k (n + 1 : Nat) a]) K3 L3) (hl : ∀ k' ∈ K3, LoopKey r k') (hc : ∀ f, Cov r n img u ((L ++ [clOf r k (n + 1 : Nat) a]) ++ L3) f) : Added r (n + 1) k K L (k :: K3) (clOf r k (n + 1 : Nat) a :: L3) := by
  have h7 := few_lt h0
  refine ⟨⟨?_, ?_, fun k' hk' => ?_, fun c hc' => ?_⟩, ⟨_, List.mem_append_right _ List.mem_cons_self, _, rfl⟩, fun k' hk' => ?_, fun _ => ⟨_, rfl, _, rfl⟩⟩
  · have := hG.nod
    rw [List.append_assoc] at this
    exact this
  · simp [hG.len]
  · rcases List.mem_cons.1 hk' with rfl | hk'
    · exact ⟨hk, n + 1, h0, Nat.le_refl _, _, List.mem_cons_self, _, rfl⟩
    · obtain ⟨g, j, e1, e2, c, hc, e3⟩ := hG.keys k' hk'
      exact ⟨g, j, e1, by omega, c, List.mem_cons_of_mem _ hc, e3⟩
  · rcases List.mem_cons.1 hc' with rfl | hc'
    · refine ⟨clOf_ok hk h7, .inr ⟨by simp only [clOf]; omega, img, u, ?_, fun f f1 f2 => ?_⟩⟩
      · simp only [clOf, setOf_usedL hr hk.2]
        exact hm
      · obtain ⟨x, hx, q1, q2, q3, q4⟩ := hc (f + 1) f f1 (by omega) f2
        exact ⟨x, by simpa using hx, by simp only [clOf]; omega, q2, q3, q4⟩
    · obtain ⟨g1, g2⟩ := hG.ok c hc'
      exact ⟨g1, g2.mono fun x hx => by simpa using hx⟩
  · rcases List.mem_cons.1 hk' with rfl | hk'
    · exact .inl rfl
    · exact .inr (hl k' hk')
theorem nodup_le {α : Type} [DecidableEq α] : ∀ {l m : List α}, l.Nodup → (∀ x ∈ l, x ∈ m) → l.length ≤ m.length
  | [], m, _, _ => by simp
  | x :: l, m, h, hs => by
    have h1 := List.nodup_cons.1 h
    have hx := hs x List.mem_cons_self
    have := nodup_le (m := m.erase x) h1.2 fun y hy => (List.mem_erase_of_ne (fun e => h1.1 (by rw [← e]; exact hy))).2 (hs y (List.mem_cons_of_mem _ hy))
    rw [List.length_erase_of_mem hx] at this
    have := List.length_pos_of_mem hx
    simp only [List.length_cons]; omega
def allKeys (r : Rules) (k : Key) : List Key := k :: (List.range 6).flatMap fun v => (List.range 8).flatMap fun u => (List.range 601).map fun (i : Nat) => (((i : Int) - 300, stateV r v u ((i : Int) - 300)), u)
theorem allKeys_len (r : Rules) (k : Key) : (allKeys r k).length = 28849 := by
  simp only [allKeys, List.length_cons, List.length_flatMap, List.length_map, List.length_range, List.map_const', List.sum_replicate_nat]
/-- There are not too many claims. -/
theorem added_few {r : Rules} (hr : Good r) {n : Nat} {k : Key} {K2 : List Key} {L2 : List Cl} (h : Added r n k [] [] K2 L2) : L2.length ≤ 30000 := by
  obtain ⟨G, _, hl, _⟩ := h
  rw [G.len]
  have := nodup_le (m := allKeys r k) (by simpa using G.nod) fun x hx => by
    rcases hl x hx with rfl | ⟨v, hv, e⟩
    · exact List.mem_cons_self
    · obtain ⟨⟨⟨g1, g2, g3⟩, gu⟩, _⟩ := G.keys x hx
      have := two_le hr
      refine List.mem_cons_of_mem _ (List.mem_flatMap.2 ⟨v, List.mem_range.2 hv, List.mem_flatMap.2 ⟨x.2, List.mem_range.2 (by omega), List.mem_map.2 ⟨(x.1.1 + 300).toNat, List.mem_range.2 (by omega), ?_⟩⟩⟩)
      rw [show ((x.1.1 + 300).toNat : Int) - 300 = x.1.1 by omega, ← e]
  rw [allKeys_len] at this
  omega
end Go.Proofs.R07
end
section
/- The conditions of the functions, printed by program; each is what the generator reckons (kernel_rfl). -/
namespace Go.Proofs
open Go.Vc
set_option maxRecDepth 100000 in
set_option maxHeartbeats 2000000 in
theorem vc37 (r0 : Int) (r1 : Int) (r2 : Int) (r3 : Int) (r4 : Int) (r5a : Option Addr) (r5n : Nat) (r5c : Nat) (x0 : Int) (x1 : Int) (x2a : Option Addr) (x2n : Nat) (x2c : Nat) (w
    : World) (R : Ending → World → Prop) (h : ∀ (m1 : Nat), w.heap.size ≤ m1 → ∀ (m2 : Nat), w.heap.size ≤ m2 → ∀ (w1 : World), RowKit.Below w.heap.size w w1 → Kept [m2, m1] w w1 →
    Calls Try.prog 45 #[Value.agg #[Value.int IntKind.i64 r0, Value.int IntKind.i64 r1, Value.int IntKind.i64 r2, Value.int IntKind.i64 r3, Value.int IntKind.i64 r4, Value.slice
    r5a r5n r5c], Value.agg #[Value.int IntKind.i64 x0, Value.int IntKind.i64 x1, Value.slice x2a x2n x2c]] w1 fun (e1 : Ending) (w2 : World) => ∃ (a1 : Option Addr), ∃ (x1_1 :
    Int), e1 = Ending.returned (Value.tuple #[Value.pointer a1, Value.int IntKind.i64 x1_1]) ∧ KeepX true w.heap.size [m2, m1] (fun _ => False) w1 w2 ∧ (x1_1 ≠ 0 → ∀ (w3 : World),
    RowKit.Below w.heap.size w w3 → Kept [m2, m1] w2 w3 → R (Ending.returned (Value.tuple #[Value.slice none 0 0, Value.int IntKind.i64 x1_1])) w3) ∧ (x1_1 = 0 → ∀ (w4 : World),
    RowKit.Below w.heap.size w w4 → Kept [m2, m1] w2 w4 → Calls Try.prog 47 #[Value.slice x2a x2n x2c] w4 fun (e2 : Ending) (w5 : World) => ∃ (x2 : Int), e2 = Ending.returned
    (Value.int IntKind.i64 x2) ∧ KeepX true w.heap.size [m2, m1] (fun _ => False) w4 w5 ∧ ∀ (w6 : World), RowKit.Below w.heap.size w w6 → Kept [m2, m1] w5 w6 → Calls Try.prog 50
    #[Value.pointer a1, Value.agg #[Value.int IntKind.i64 x0, Value.int IntKind.i64 x1], Value.int IntKind.i64 x2] w6 fun (e3 : Ending) (w7 : World) => ∃ (x3 : Int), ∃ (t1 : Bool),
    e3 = Ending.returned (Value.tuple #[Value.int IntKind.i64 x3, Value.bool t1]) ∧ KeepX true w.heap.size [m2, m1] (fun _ => False) w6 w7 ∧ ((!t1) = true → ∀ (w8 : World),
    RowKit.Below w.heap.size w w8 → Kept [m2, m1] w7 w8 → R (Ending.returned (Value.tuple #[Value.slice none 0 0, Value.int IntKind.i64 7])) w8) ∧ ((!t1) = false → ∀ (w9 : World),
    RowKit.Below w.heap.size w w9 → Kept [m2, m1] w7 w9 → RunsTo Try.prog (Instr.makeMap 117 none) w9 fun (v1 : Value) (w10 : World) => ∃ (m6 : Nat), v1 = Value.map (some m6) ∧
    KeepX true w.heap.size [m2, m1] (fun _ => False) w9 w10 ∧ ∀ (w11 : World), RowKit.Below w.heap.size w w11 → Kept [m2, m1] w10 w11 → ∀ (m8 : Nat) (w12 : World), m8 =
    w11.heap.size → w12 = w11.alloc (Obj.cells #[Value.pointer a1, Value.slice none 0 0, Value.map (some m6)] 119) → ∀ (w13 : World), RowKit.Below w.heap.size w w13 → Kept [m2, m1]
    w12 w13 → Calls Try.prog 60 #[Value.pointer (some { block := m8, off := 0 }), Value.agg #[Value.int IntKind.i64 x0, Value.int IntKind.i64 x1], Value.int IntKind.i64 x2] w13 fun
    (e4 : Ending) (w14 : World) => e4 = Ending.returned (Value.tuple #[]) ∧ KeepX true w.heap.size [m2, m1] (fun _ => False) w13 w14 ∧ ∃ (a2 : Option Addr), ∃ (m10 : Nat), ∃ (m11 :
    Nat), w14.cell? { block := m8, off := 0 + 1 } = some (Value.slice a2 m10 m11) ∧ (m8 < w.heap.size ∨ m8 ≠ m2 ∧ m8 ≠ m1) ∧ ∀ (w15 : World), RowKit.Below w.heap.size w w15 → Kept
    [m2, m1] w14 w15 → R (Ending.returned (Value.tuple #[Value.slice a2 m10 m11, Value.int IntKind.i64 0])) w15))) : Calls Try.prog 37 #[Value.agg #[Value.int IntKind.i64 r0,
    Value.int IntKind.i64 r1, Value.int IntKind.i64 r2, Value.int IntKind.i64 r3, Value.int IntKind.i64 r4, Value.slice r5a r5n r5c], Value.agg #[Value.int IntKind.i64 x0,
    Value.int IntKind.i64 x1, Value.slice x2a x2n x2c]] w R := calls_of_vc (pure := true) (wrapAt := []) (muts := []) (esc := [37]) (args := [SV.pv (PV.agg [Lf.int IntKind.i64 r0,
    Lf.int IntKind.i64 r1, Lf.int IntKind.i64 r2, Lf.int IntKind.i64 r3, Lf.int IntKind.i64 r4, Lf.sl r5a r5n r5c]), SV.pv (PV.agg [Lf.int IntKind.i64 x0, Lf.int IntKind.i64 x1,
    Lf.sl x2a x2n x2c])]) (vs := [Value.agg #[Value.int IntKind.i64 r0, Value.int IntKind.i64 r1, Value.int IntKind.i64 r2, Value.int IntKind.i64 r3, Value.int IntKind.i64 r4,
    Value.slice r5a r5n r5c], Value.agg #[Value.int IntKind.i64 x0, Value.int IntKind.i64 x1, Value.slice x2a x2n x2c]]) Try.func37 rfl rfl rfl (Eq.mp (by kernel_rfl) h) 
set_option maxRecDepth 100000 in
set_option maxHeartbeats 2000000 in
theorem vc60 (pb : Nat) (po : Nat) (rate0 : Int) (rate1 : Int) (used : Int) (w : World) (R : Ending → World → Prop) (h : ∀ (m1 : Nat), w.heap.size ≤ m1 → ∀ (m2 : Nat), w.heap.size
    ≤ m2 → ∃ (m3 : Nat), w.cell? { block := pb, off := po + 2 } = some (Value.map (some m3)) ∧ (pb < w.heap.size ∨ pb ≠ m2 ∧ pb ≠ m1) ∧ ∀ (w1 : World), KeptIn [(0, w.heap.size)]
    [m2, m1] w w1 → RunsTo Try.prog (Instr.lookup 117 (Value.map (some m3)) (Value.agg #[Value.int IntKind.i64 rate0, Value.int IntKind.i64 rate1, Value.int IntKind.i64 used])
    false) w1 fun (v1 : Value) (w2 : World) => ∃ (t1 : Bool), v1 = Value.bool t1 ∧ KeepX false w.heap.size [m2, m1] (fun _ => False) w1 w2 ∧ (t1 = true → ∀ (w3 : World), Kept [m2,
    m1] w2 w3 → R (Ending.returned (Value.tuple #[])) w3) ∧ (t1 = false → ∃ (m5 : Nat), w2.cell? { block := pb, off := po + 2 } = some (Value.map (some m5)) ∧ (pb < w.heap.size ∨
    pb ≠ m2 ∧ pb ≠ m1) ∧ ∀ (w4 : World), KeptIn [(0, w2.heap.size)] [m2, m1] w2 w4 → RunsTo Try.prog ((Instr.mapUpdate 117 (Value.map (some m5)) (Value.agg #[Value.int IntKind.i64
    rate0, Value.int IntKind.i64 rate1, Value.int IntKind.i64 used]) (Value.bool true)) >>= fun _ => pure (Value.tuple #[])) w4 fun (v2 : Value) (w5 : World) => KeepX false
    w.heap.size [m2, m1] (fun _ => False) w4 w5 ∧ ∃ (a1 : Option Addr), w5.cell? { block := pb, off := po + 0 } = some (Value.pointer a1) ∧ (pb < w.heap.size ∨ pb ≠ m2 ∧ pb ≠ m1) ∧
    ∀ (w6 : World), KeptIn [(0, w5.heap.size)] [m2, m1] w5 w6 → Calls Try.prog 50 #[Value.pointer a1, Value.agg #[Value.int IntKind.i64 rate0, Value.int IntKind.i64 rate1],
    Value.int IntKind.i64 used] w6 fun (e1 : Ending) (w7 : World) => ∃ (x1 : Int), ∃ (t2 : Bool), e1 = Ending.returned (Value.tuple #[Value.int IntKind.i64 x1, Value.bool t2]) ∧
    KeepX false w.heap.size [m2, m1] (fun _ => False) w6 w7 ∧ ∃ (a2 : Option Addr), w7.cell? { block := pb, off := po + 0 } = some (Value.pointer a2) ∧ (pb < w.heap.size ∨ pb ≠ m2
    ∧ pb ≠ m1) ∧ ∀ (w8 : World), KeptIn [(0, w7.heap.size)] [m2, m1] w7 w8 → Calls Try.prog 75 #[Value.pointer a2, Value.int IntKind.i64 used] w8 fun (e2 : Ending) (w9 : World) =>
    ∃ (a3 : Option Addr), ∃ (m8 : Nat), ∃ (m9 : Nat), e2 = Ending.returned (Value.slice a3 m8 m9) ∧ (KeepX false w.heap.size [m2, m1] (fun (m10 : Nat) => False ∨ w7.heap.size ≤ m10
    ∧ m10 < w8.heap.size) w8 w9 ∧ ∀ (m11 : Nat), (∃ (y2 : Array Value), ∃ (m12 : Nat), ∃ (y3 : Nat × Nat), w8.heap[m11]? = some (Obj.cells y2 m12 y3)) → w9.heap[m11]? =
    w8.heap[m11]?) ∧ ∀ (m16 : Nat), w7.heap.size ≤ m16 → m16 < w8.heap.size ∨ w9.heap.size ≤ m16 → (x1 = 0 → ∃ (a4 : Option Addr), ∃ (m17 : Nat), ∃ (m18 : Nat), w9.cell?
    { block := pb, off := po + 1 } = some (Value.slice a4 m17 m18) ∧ (pb < w.heap.size ∨ pb ≠ m16 ∧ pb ≠ m2 ∧ pb ≠ m1) ∧ ∀ (m19 : Nat), w9.heap.size ≤ m19 → ∀ (w10 : World), KeptIn
    [(0, w9.heap.size)] [m19, m16, m2, m1] w9 w10 → w10.heap[m19]? = some (Obj.cells #[Value.int IntKind.i64 rate0, Value.int IntKind.i64 rate1, Value.slice a3 m8 m9, Value.int
    IntKind.i64 x1, Value.int IntKind.i64 0, Value.int IntKind.i64 (-1)] 56) → RunsTo Try.prog (Builtin.append_ #[54, 54] 54 #[Value.slice a4 m17 m18, Value.slice (some
    { block := m19, off := 0 }) 1 1]) w10 fun (v3 : Value) (w11 : World) => ∃ (a5 : Option Addr), ∃ (m21 : Nat), ∃ (m22 : Nat), v3 = Value.slice a5 m21 m22 ∧ KeepX false
    w.heap.size [m19, m16, m2, m1] (fun _ => False) w10 w11 ∧ ∀ (w12 : World), KeptIn [(0, w11.heap.size)] [m19, m16, m2, m1] w11 w12 → RunsTo Try.prog ((Instr.storeAt 54
    (Value.pointer (some { block := pb, off := po + 1 })) (Value.slice a5 m21 m22)) >>= fun _ => pure (Value.tuple #[])) w12 fun (v4 : Value) (w13 : World) => KeepX false
    w.heap.size [m19, m16, m2, m1] (fun _ => False) w12 w13 ∧ ∀ (w14 : World), Kept [m19, m16, m2, m1] w13 w14 → R (Ending.returned (Value.tuple #[])) w14) ∧ (x1 ≠ 0 → ∃ (a6 :
    Option Addr), w9.cell? { block := pb, off := po + 0 } = some (Value.pointer a6) ∧ (pb < w.heap.size ∨ pb ≠ m16 ∧ pb ≠ m2 ∧ pb ≠ m1) ∧ ∀ (w15 : World), KeptIn [(0,
    w9.heap.size)] [m16, m2, m1] w9 w15 → Calls Try.prog 51 #[Value.pointer a6, Value.agg #[Value.int IntKind.i64 rate0, Value.int IntKind.i64 rate1], Value.agg #[Value.int
    IntKind.i64 x1, Value.int IntKind.i64 used]] w15 fun (e3 : Ending) (w16 : World) => ∃ (x2 : Int), ∃ (x3 : Int), ∃ (x4 : Int), ∃ (x5 : Int), ∃ (x6 : Int), e3 = Ending.returned
    (Value.tuple #[Value.agg #[Value.int IntKind.i64 x2, Value.int IntKind.i64 x3], Value.agg #[Value.int IntKind.i64 x4, Value.int IntKind.i64 x5, Value.int IntKind.i64 x6]]) ∧
    (KeepX false w.heap.size [m16, m2, m1] (fun (m25 : Nat) => False ∨ w9.heap.size ≤ m25 ∧ m25 < w15.heap.size) w15 w16 ∧ ∀ (m26 : Nat), (∃ (y9 : Array Value), ∃ (m27 : Nat), ∃
    (y10 : Nat × Nat), w15.heap[m26]? = some (Obj.cells y9 m27 y10)) → w16.heap[m26]? = w15.heap[m26]?) ∧ ∀ (m31 : Nat), w9.heap.size ≤ m31 → m31 < w15.heap.size ∨ w16.heap.size ≤
    m31 → ∀ (m32 : Nat), w9.heap.size ≤ m32 → m32 < w15.heap.size ∨ w16.heap.size ≤ m32 → ∃ (a7 : Option Addr), ∃ (m33 : Nat), ∃ (m34 : Nat), w16.cell?
    { block := pb, off := po + 1 } = some (Value.slice a7 m33 m34) ∧ (pb < w.heap.size ∨ pb ≠ m32 ∧ pb ≠ m31 ∧ pb ≠ m16 ∧ pb ≠ m2 ∧ pb ≠ m1) ∧ ∀ (m35 : Nat), w16.heap.size ≤ m35 →
    ∀ (w17 : World), KeptIn [(0, w16.heap.size)] [m35, m32, m31, m16, m2, m1] w16 w17 → w17.heap[m35]? = some (Obj.cells #[Value.int IntKind.i64 rate0, Value.int IntKind.i64 rate1,
    Value.slice a3 m8 m9, Value.int IntKind.i64 x1, Value.int IntKind.i64 x2, Value.int IntKind.i64 x3] 56) → RunsTo Try.prog (Builtin.append_ #[54, 54] 54 #[Value.slice a7 m33
    m34, Value.slice (some { block := m35, off := 0 }) 1 1]) w17 fun (v5 : Value) (w18 : World) => ∃ (a8 : Option Addr), ∃ (m37 : Nat), ∃ (m38 : Nat), v5 = Value.slice a8 m37 m38 ∧
    KeepX false w.heap.size [m35, m32, m31, m16, m2, m1] (fun _ => False) w17 w18 ∧ ∀ (w19 : World), KeptIn [(0, w18.heap.size)] [m35, m32, m31, m16, m2, m1] w18 w19 → RunsTo
    Try.prog ((Instr.storeAt 54 (Value.pointer (some { block := pb, off := po + 1 })) (Value.slice a8 m37 m38)) >>= fun _ => pure (Value.tuple #[])) w19 fun (v6 : Value) (w20 :
    World) => KeepX false w.heap.size [m35, m32, m31, m16, m2, m1] (fun _ => False) w19 w20 ∧ ∃ (a9 : Option Addr), w20.cell? { block := pb, off := po + 0 } = some (Value.pointer
    a9) ∧ (pb < w.heap.size ∨ pb ≠ m35 ∧ pb ≠ m32 ∧ pb ≠ m31 ∧ pb ≠ m16 ∧ pb ≠ m2 ∧ pb ≠ m1) ∧ (-9223372036854775808 ≤ x1 - 1 ∧ x1 - (1 : Int) ≤ 9223372036854775807) ∧ ∀ (w21 :
    World), KeptIn [(0, w20.heap.size)] [m35, m32, m31, m16, m2, m1] w20 w21 → Calls Try.prog 67 #[Value.pointer a9, Value.agg #[Value.int IntKind.i64 (x1 - 1), Value.int
    IntKind.i64 x6]] w21 fun (e4 : Ending) (w22 : World) => ∃ (a10 : Option Addr), e4 = Ending.returned (Value.pointer a10) ∧ KeepX false w.heap.size [m35, m32, m31, m16, m2, m1]
    (fun _ => False) w21 w22 ∧ ∃ (m42 : Nat), ∃ (m43 : Nat), a10 = some { block := m42, off := m43 } ∧ True ∧ ∃ (F1 : List Lf → World → Prop), ∃ (F2 : List Lf → Nat), (∀ (w24 :
    World), Kept [m35, m32, m31, m16, m2, m1] w22 w24 → F1 [Lf.int IntKind.i64 x4] w24) ∧ ∀ (x7 : Int) (w25 : World), F1 [Lf.int IntKind.i64 x7] w25 → ∃ (a11 : Option Addr),
    w25.cell? { block := pb, off := po + 0 } = some (Value.pointer a11) ∧ (pb < w.heap.size ∨ pb ≠ m35 ∧ pb ≠ m32 ∧ pb ≠ m31 ∧ pb ≠ m16 ∧ pb ≠ m2 ∧ pb ≠ m1) ∧ ∀ (w26 : World),
    KeptIn [(0, w25.heap.size)] [m35, m32, m31, m16, m2, m1] w25 w26 → Calls Try.prog 73 #[Value.pointer a11] w26 fun (e5 : Ending) (w27 : World) => ∃ (x8 : Int), e5 =
    Ending.returned (Value.int IntKind.i64 x8) ∧ KeepX false w.heap.size [m35, m32, m31, m16, m2, m1] (fun _ => False) w26 w27 ∧ (-9223372036854775808 ≤ x5 - x8 ∧ x5 - x8 ≤
    9223372036854775807) ∧ (x7 ≤ max x4 (x5 - x8) → ∀ (w28 : World), Kept [m35, m32, m31, m16, m2, m1] w27 w28 → Calls Try.prog 68 #[Value.pointer (some
    { block := m42, off := m43 + 0 }), Value.int IntKind.i64 x7] w28 fun (e6 : Ending) (w29 : World) => ∃ (a12 : Option Addr), e6 = Ending.returned (Value.pointer a12) ∧ KeepX
    false w.heap.size [m35, m32, m31, m16, m2, m1] (fun _ => False) w28 w29 ∧ ∃ (m46 : Nat), ∃ (m47 : Nat), a12 = some { block := m46, off := m47 } ∧ True ∧ ∃ (x9 : Int), w29.cell?
    { block := m46, off := m47 } = some (Value.int IntKind.i64 x9) ∧ (m46 < w.heap.size ∨ m46 ≠ m35 ∧ m46 ≠ m32 ∧ m46 ≠ m31 ∧ m46 ≠ m16 ∧ m46 ≠ m2 ∧ m46 ≠ m1) ∧ ∀ (w30 : World),
    Kept [m35, m32, m31, m16, m2, m1] w29 w30 → Calls Try.prog 60 #[Value.pointer (some { block := pb, off := po }), Value.agg #[Value.int IntKind.i64 x7, Value.int IntKind.i64
    x9], Value.int IntKind.i64 x6] w30 fun (e7 : Ending) (w31 : World) => e7 = Ending.returned (Value.tuple #[]) ∧ KeepX false w.heap.size [m35, m32, m31, m16, m2, m1] (fun _ =>
    False) w30 w31 ∧ (x5 ≤ x9 → ∀ (w32 : World), Kept [m35, m32, m31, m16, m2, m1] w31 w32 → R (Ending.returned (Value.tuple #[])) w32) ∧ (x9 < x5 → ∃ (a13 : Option Addr),
    w31.cell? { block := pb, off := po + 0 } = some (Value.pointer a13) ∧ (pb < w.heap.size ∨ pb ≠ m35 ∧ pb ≠ m32 ∧ pb ≠ m31 ∧ pb ≠ m16 ∧ pb ≠ m2 ∧ pb ≠ m1) ∧ ∀ (w33 : World), Kept
    [m35, m32, m31, m16, m2, m1] w31 w33 → Calls Try.prog 73 #[Value.pointer a13] w33 fun (e8 : Ending) (w34 : World) => ∃ (x10 : Int), e8 = Ending.returned (Value.int IntKind.i64
    x10) ∧ KeepX false w.heap.size [m35, m32, m31, m16, m2, m1] (fun _ => False) w33 w34 ∧ (-9223372036854775808 ≤ x9 - x10 ∧ x9 - x10 ≤ 9223372036854775807) ∧
    (-9223372036854775808 ≤ max x7 (x9 - x10) + 1 ∧ max x7 (x9 - x10) + (1 : Int) ≤ 9223372036854775807) ∧ ∀ (w35 : World), Kept [m35, m32, m31, m16, m2, m1] w34 w35 → F1 [Lf.int
    IntKind.i64 (max x7 (x9 - x10) + 1)] w35 ∧ F2 [Lf.int IntKind.i64 (max x7 (x9 - x10) + 1)] < F2 [Lf.int IntKind.i64 x7])) ∧ (max x4 (x5 - x8) < x7 → ∀ (w36 : World), Kept [m35,
    m32, m31, m16, m2, m1] w27 w36 → R (Ending.returned (Value.tuple #[])) w36)))) : Calls Try.prog 60 #[Value.pointer (some { block := pb, off := po }), Value.agg #[Value.int
    IntKind.i64 rate0, Value.int IntKind.i64 rate1], Value.int IntKind.i64 used] w R := calls_of_vcj (pure := false) (wrapAt := []) (muts := []) (esc := []) (joins := [(5000000,
    [])]) (args := [SV.pv (PV.one (Lf.ptr pb po)), SV.pv (PV.agg [Lf.int IntKind.i64 rate0, Lf.int IntKind.i64 rate1]), SV.pv (PV.one (Lf.int IntKind.i64 used))]) (vs :=
    [Value.pointer (some { block := pb, off := po }), Value.agg #[Value.int IntKind.i64 rate0, Value.int IntKind.i64 rate1], Value.int IntKind.i64 used]) Try.func60 rfl rfl rfl
    (Eq.mp (by kernel_rfl) h) 
set_option maxRecDepth 100000 in
set_option maxHeartbeats 2000000 in
theorem vc75 (sb : Nat) (so : Nat) (of : Int) (w : World) (R : Ending → World → Prop) (h : ∃ (a1 : Option Addr), ∃ (m1 : Nat), ∃ (m2 : Nat), w.cell?
    { block := sb, off := so + 0 + 5 } = some (Value.slice a1 m1 m2) ∧ ∃ (F1 : List Lf → World → Prop), ∃ (F2 : List Lf → Nat), (∀ (w2 : World), RowKit.Below w.heap.size w w2 →
    Kept [] w w2 → F1 [Lf.sl none 0 0, Lf.int IntKind.i64 0] w2) ∧ ∀ (a2 : Option Addr) (m3 m4 : Nat) (x1 : Int) (w3 : World), RowKit.Below w.heap.size w w3 → F1 [Lf.sl a2 m3 m4,
    Lf.int IntKind.i64 x1] w3 → (x1 < (↑m1 : Int) → ∀ (w4 : World), RowKit.Below w.heap.size w w4 → Kept [] w3 w4 → Calls Try.prog 48 #[Value.int IntKind.i64 of, Value.int
    IntKind.i64 x1] w4 fun (e1 : Ending) (w5 : World) => ∃ (t1 : Bool), e1 = Ending.returned (Value.bool t1) ∧ KeepX true w.heap.size [] (fun _ => False) w4 w5 ∧ ∀ (m6 : Nat),
    w5.heap.size ≤ m6 → ∀ (w6 : World), RowKit.Below w.heap.size w w6 → Kept [m6] w5 w6 → w6.heap[m6]? = some (Obj.cells #[Value.bool t1] 4) → RunsTo Try.prog (Builtin.append_
    #[27, 27] 27 #[Value.slice a2 m3 m4, Value.slice (some { block := m6, off := 0 }) 1 1]) w6 fun (v1 : Value) (w7 : World) => ∃ (a3 : Option Addr), ∃ (m8 : Nat), ∃ (m9 : Nat), v1
    = Value.slice a3 m8 m9 ∧ KeepX true w.heap.size [m6] (fun _ => False) w6 w7 ∧ (-9223372036854775808 ≤ x1 + 1 ∧ x1 + (1 : Int) ≤ 9223372036854775807) ∧ ∀ (w8 : World),
    RowKit.Below w.heap.size w w8 → Kept [m6] w7 w8 → F1 [Lf.sl a3 m8 m9, Lf.int IntKind.i64 (x1 + 1)] w8 ∧ F2 [Lf.sl a3 m8 m9, Lf.int IntKind.i64 (x1 + 1)] < F2 [Lf.sl a2 m3 m4,
    Lf.int IntKind.i64 x1]) ∧ ((↑m1 : Int) ≤ x1 → ∀ (w9 : World), RowKit.Below w.heap.size w w9 → Kept [] w3 w9 → R (Ending.returned (Value.slice a2 m3 m4)) w9)) : Calls Try.prog
    75 #[Value.pointer (some { block := sb, off := so }), Value.int IntKind.i64 of] w R := calls_of_vc (pure := true) (wrapAt := []) (muts := []) (esc := []) (args := [SV.pv
    (PV.one (Lf.ptr sb so)), SV.pv (PV.one (Lf.int IntKind.i64 of))]) (vs := [Value.pointer (some { block := sb, off := so }), Value.int IntKind.i64 of]) Try.func75 rfl rfl rfl
    (Eq.mp (by kernel_rfl) h) 
end Go.Proofs
end
section
/- Claims in memory: the map of the keys, the row of the claims. -/
namespace Go.Proofs.R07
open Go.Vc Go.RowKit Go.Proofs

theorem eq_span9 (a b c d : Int) (w : World) : (Op.equalIn 9999 23 (.agg #[I a, I b]) (.agg #[I c, I d])).run Try.prog w = .ok (decide ((a, b) = (c, d))) w := by
  have hS : Try.prog.underlying 23 = some (.struct (Try.prog.fieldsOf 23)) := by kernel_rfl
  show (Op.equalIn (9998 + 1) 23 _ _).run _ _ = _
  have hp : Try.prog.stoodInHeld 23 = false := by kernel_rfl
  rw [run_equalIn_agg w 9998 23 _ _ hS hp]
  simp only [Program.fieldsOf, Try.underlying23]
  have p1 : ∀ (x y : Int), (part 3 #[I x, I y] 0).run Try.prog w = .ok (I x) w := fun _ _ => by kernel_rfl
  have p2 : ∀ (x y : Int), (part 3 #[I x, I y] 1).run Try.prog w = .ok (I y) w := fun _ _ => by kernel_rfl
  have u3 : Try.prog.underlying 3 = some (.int .i64) := by kernel_rfl
  have q1 : ∀ x y : Int, (Op.equalIn 9998 3 (I x) (I y)).run Try.prog w = .ok (x == y) w := fun x y => run_equalIn_int w 9997 3 _ _ _ _ u3
  by_cases h1 : a = c <;> by_cases h2 : b = d <;> simp [Op.eqFields, p1, p2, q1, h1, h2, Sem.run_bind, Sem.run_pure]
theorem eq_known (a b c a' b' c' : Int) (w : World) : (Op.equal 146 (.agg #[I a, I b, I c]) (.agg #[I a', I b', I c'])).run Try.prog w = .ok (decide (((a, b), c) = ((a', b'), c'))) w := by
  have hS : Try.prog.underlying 146 = some (.struct (Try.prog.fieldsOf 146)) := by kernel_rfl
  show (Op.equalIn (9999 + 1) 146 _ _).run _ _ = _
  have hp : Try.prog.stoodInHeld 146 = false := by kernel_rfl
  rw [run_equalIn_agg w 9999 146 _ _ hS hp]
  simp only [Program.fieldsOf, Try.underlying146]
  have p1 : ∀ (x y z : Int), (part 23 #[I x, I y, I z] 0).run Try.prog w = .ok (.agg #[I x, I y]) w := fun _ _ _ => by kernel_rfl
  have p2 : ∀ (x y z : Int), (part 90 #[I x, I y, I z] 2).run Try.prog w = .ok (I z) w := fun _ _ _ => by kernel_rfl
  have u3 : Try.prog.underlying 90 = some (.int .i64) := by kernel_rfl
  have q1 : ∀ x y : Int, (Op.equalIn 9999 90 (I x) (I y)).run Try.prog w = .ok (x == y) w := fun x y => run_equalIn_int w 9998 90 _ _ _ _ u3
  by_cases h1 : a = a' <;> by_cases h2 : b = b' <;> by_cases h3 : c = c' <;> simp [Op.eqFields, p1, p2, q1, eq_span9, h1, h2, h3, Sem.run_bind, Sem.run_pure]
def encN (k : Key) : Value := .agg #[I k.1.1, I k.1.2, I (k.2 : Nat)]
theorem keyN : KeyLaw Try.prog 146 encN where
  st := ⟨Try.prog.fieldsOf 146, by kernel_rfl⟩
  chk := fun b k w => by
    cases b <;> kernel_rfl
  eq := fun k k' w => by
    obtain ⟨⟨a, b⟩, c⟩ := k
    obtain ⟨⟨a', b'⟩, c'⟩ := k'
    refine (eq_known _ _ _ _ _ _ w).trans ?_
    congr 1
    simp only [decide_eq_decide, Prod.mk.injEq]
    omega

/-- The block of a slice. -/
def blk (a : Option Addr) : List Nat := match a with | some ad => [ad.block] | none => []

theorem append_own {P : Program} {t ty e : TypeId} {size B bytes : Nat} {a : Option Addr} {n c : Nat} {xs : List Value} {w : World} (hE : elemB P t e size bytes = true) (hsz : 0 < size) (h : Row e size B [] a n c xs w) {b o m cc : Nat} {news : List Value} (hc : Cells w (some ⟨b, o, none⟩) news)
    (hl : news.length = m * size) (h1 : ∀ u ∈ news, u.oneCell' = true) (hn1 : n + m ≤ 140737488355328) (hn : (n + m) * bytes ≤ 140737488355328) (hB : B ≤ w.heap.size) {R : Value → World → Prop}
    (hR : ∀ a' c' w', Row e size B [] a' (n + m) c' (xs ++ news) w' → Chg (blk a) w w' → (∀ g ∈ blk a', g ∈ blk a ∨ w.heap.size ≤ g) → R (.slice a' (n + m) c') w') :
    RunsTo P (Builtin.append_ #[t, t] ty #[.slice a n c, .slice (some ⟨b, o, none⟩) m cc]) w R := by
  refine append_row hE hsz (ns := (List.range w.heap.size).filter fun k => decide (k ∉ blk a)) ⟨h.own, fun b' o' ha hm => ?_⟩ hc hl h1 hn1 hn hB (fun x hx => List.mem_range.1 (List.mem_filter.1 hx).1) fun a' c' w' hrow S cS hS => ?_
  · have := of_decide_eq_true (List.mem_filter.1 hm).2
    exact this (by rw [ha]; simp [blk])
  · have key : ∀ g, g ∉ (List.range w.heap.size).filter (fun k => decide (k ∉ blk a)) → g ∈ blk a ∨ w.heap.size ≤ g := fun g hg => by
      by_cases hlt : g < w.heap.size
      · refine .inl ?_
        by_cases hb : g ∈ blk a
        · exact hb
        · exact absurd (List.mem_filter.2 ⟨List.mem_range.2 hlt, decide_eq_true hb⟩) hg
      · exact .inr (by omega)
    refine hR a' c' w' ⟨hrow.own, fun _ _ _ hm => by cases hm⟩ ⟨cS.os, cS.tape, cS.output, cS.size, fun k hk hn => cS.keep k hk fun hm => ?_⟩ fun g hg => key g fun hm => ?_
    · rcases key k (hS k hm).2 with h | h
      · exact hn h
      · omega
    · cases a' with
      | none => simp [blk] at hg
      | some ad =>
        simp only [blk, List.mem_singleton] at hg
        rcases hrow.own.2 with ⟨he, _⟩ | ⟨g', cap, cur, he, _⟩
        · cases he
        · simp only [Value.slice.injEq, Option.some.injEq] at he
          obtain ⟨rfl, _⟩ := he
          simp only at hg
          subst hg
          exact hrow.ns _ _ rfl hm
end Go.Proofs.R07
end
section
/- A proof that is made: the state of function 60. -/
namespace Go.Proofs.R07
open Go.Vc Go.RowKit Go.Proofs

def ub (U : List (Option Addr × List Bool)) : List Nat := U.flatMap fun y => blk y.1
theorem mem_blk {a : Option Addr} {b o : Nat} (h : a = some ⟨b, o, none⟩) : b ∈ blk a := by rw [h]; simp [blk]
def hdV (sb pm : Nat) (hd : Option Addr × Nat × Nat) : List Value := [.pointer (some ⟨sb, 0, none⟩), .slice hd.1 hd.2.1 hd.2.2, .map (some pm)]

/-- What a proof holds: its shop, its keys, its claims (and the lists of weights that were made for them); ns are blocks of others. -/
structure PI (r : Rules) (a : Option Addr) (c sb tm pb pm B : Nat) (K : List Key) (L : List ClM) (U : List (Option Addr × List Bool)) (la : Option Addr) (lc : Nat) (hd : Option Addr × Nat × Nat) (ns : List Nat) (w : World) : Prop where
  inv : Inv r a c sb tm [] (pb :: pm :: (blk la ++ (ub U ++ ns))) w
  pbh : w.heap[pb]? = some (.cells (hdV sb pm hd).toArray 119 (0, 0))
  map : MapIs w pm encN (K.map fun k => (k, Value.bool true))
  row : Row 56 6 B [] la L.length lc (L.flatMap clV) w
  sub : ∀ x ∈ L, (x.2.1, x.1.st.used) ∈ U
  used : ∀ y ∈ U, Cells w y.1 (bools y.2)
  pd : pb ≠ pm ∧ pb ∉ blk la ∧ pm ∉ blk la
  ud : ∀ n ∈ ub U, n ≠ pb ∧ n ≠ pm ∧ n ∉ blk la
  ul : ∀ n ∈ ub U, n < w.heap.size
  nd : ∀ n ∈ ns, n ≠ pb ∧ n ≠ pm ∧ n ∉ blk la ∧ n ∉ ub U
  low : B ≤ tm ∧ B ≤ pb ∧ B ≤ pm ∧ B ≤ w.heap.size
  ulo : ∀ n ∈ ub U, B ≤ n
section
variable {r : Rules} {a : Option Addr} {c sb tm pb pm B : Nat} {K : List Key} {L : List ClM} {U : List (Option Addr × List Bool)} {la : Option Addr} {lc : Nat} {hd : Option Addr × Nat × Nat} {ns : List Nat} {w w' : World}
theorem PI.pb_lt (h : PI r a c sb tm pb pm B K L U la lc hd ns w) : pb < w.heap.size := lt_of_some h.pbh
theorem PI.pm_lt (h : PI r a c sb tm pb pm B K L U la lc hd ns w) : pm < w.heap.size := h.map.lt
theorem PI.la_lt (h : PI r a c sb tm pb pm B K L U la lc hd ns w) : ∀ n ∈ blk la, n < w.heap.size := fun n hn => by
  rcases h.row.own.2 with ⟨he, _⟩ | ⟨g, cap, cur, he, _, hg, _⟩
  · simp only [Value.slice.injEq] at he; rw [he.1] at hn; simp [blk] at hn
  · simp only [Value.slice.injEq] at he
    rw [he.1] at hn
    simp only [blk, List.mem_singleton] at hn
    subst hn; exact lt_of_some hg
theorem PI.la_low (h : PI r a c sb tm pb pm B K L U la lc hd ns w) : ∀ n ∈ blk la, B ≤ n := fun n hn => by
  rcases h.row.own.2 with ⟨he, _⟩ | ⟨g, cap, cur, he, hB, _⟩
  · simp only [Value.slice.injEq] at he; rw [he.1] at hn; simp [blk] at hn
  · simp only [Value.slice.injEq] at he
    rw [he.1] at hn
    simp only [blk, List.mem_singleton] at hn
    subst hn; exact hB
theorem cells_blk {vs : List Value} {a : Option Addr} {S : List Nat} (h : Cells w a vs) (hc : Chg S w w') (hs : ∀ n ∈ blk a, n ∉ S) : Cells w' a vs := fun i v hi => by
  obtain ⟨b, o, e, hcell⟩ := h i v hi
  exact ⟨b, o, e, hc.cell (hs b (mem_blk e)) hcell⟩
/-- Blocks of others have changed. -/
theorem PI.chg {S : List Nat} (h : PI r a c sb tm pb pm B K L U la lc hd ns w) (hc : Chg S w w') (hs : ∀ x ∈ S, x ∈ ns) : PI r a c sb tm pb pm B K L U la lc hd ns w' :=
  ⟨h.inv.chg hc fun x hx => by simp [hs x hx], (hc.keep pb h.pb_lt fun hm => (h.nd _ (hs _ hm)).1 rfl).trans h.pbh, h.map.keep (hc.keep pm h.pm_lt fun hm => (h.nd _ (hs _ hm)).2.1 rfl),
   h.row.of fun b o e => hc.keep b (h.la_lt b (mem_blk e)) fun hm => (h.nd _ (hs _ hm)).2.2.1 (mem_blk e), h.sub, fun y hy => cells_blk (h.used y hy) hc fun n hn hm => (h.nd _ (hs _ hm)).2.2.2 (List.mem_flatMap.2 ⟨y, hy, hn⟩),
   h.pd, h.ud, fun n hn => Nat.lt_of_lt_of_le (h.ul n hn) hc.size, h.nd, ⟨h.low.1, h.low.2.1, h.low.2.2.1, Nat.le_trans h.low.2.2.2 hc.size⟩, h.ulo⟩
theorem PI.below (h : PI r a c sb tm pb pm B K L U la lc hd ns w) (hb : Below w.heap.size w w') : PI r a c sb tm pb pm B K L U la lc hd ns w' := h.chg (S := []) (Chg.of_below hb) (by simp)
theorem PI.more {ns' : List Nat} (h : PI r a c sb tm pb pm B K L U la lc hd ns w) (hn : ∀ n ∈ ns', n ∈ ns ∨ w.heap.size ≤ n) : PI r a c sb tm pb pm B K L U la lc hd ns' w :=
  ⟨h.inv.more fun n hm => by
    simp only [List.mem_cons, List.mem_append] at hm ⊢
    rcases hm with hm | hm | hm | hm | hm
    · exact .inl (.inl hm)
    · exact .inl (.inr (.inl hm))
    · exact .inl (.inr (.inr (.inl hm)))
    · exact .inl (.inr (.inr (.inr (.inl hm))))
    · exact (hn n hm).imp (fun h => .inr (.inr (.inr (.inr h)))) id, h.pbh, h.map, h.row, h.sub, h.used, h.pd, h.ud, h.ul, fun n hm => by
    rcases hn n hm with h1 | h1
    · exact h.nd n h1
    · have := h.pb_lt; have := h.pm_lt
      exact ⟨by omega, by omega, fun hh => by have := h.la_lt n hh; omega, fun hh => by have := h.ul n hh; omega⟩, h.low, h.ulo⟩
theorem PI.grow {ms : List Nat} (h : PI r a c sb tm pb pm B K L U la lc hd ns w) (hm : ∀ n ∈ ms, w.heap.size ≤ n) : PI r a c sb tm pb pm B K L U la lc hd (ms ++ ns) w := h.more fun n hn => (List.mem_append.1 hn).symm.imp id (hm n)
theorem PI.drop {ms : List Nat} (h : PI r a c sb tm pb pm B K L U la lc hd (ms ++ ns) w) : PI r a c sb tm pb pm B K L U la lc hd ns w := h.more fun n hn => .inl (List.mem_append_right _ hn)
/-- The shop's tables have changed. -/
theorem PI.tabs (h : PI r a c sb tm pb pm B K L U la lc hd ns w) (hc : Chg [tm] w w') (hI : Inv r a c sb tm [] (pb :: pm :: (blk la ++ (ub U ++ ns))) w') : PI r a c sb tm pb pm B K L U la lc hd ns w' := by
  have ht := h.inv.tmn
  simp only [List.mem_cons, List.mem_append, not_or] at ht
  have hne : ∀ {n}, n ≠ tm → n ∉ [tm] := fun h => by simpa using h
  exact ⟨hI, (hc.keep pb h.pb_lt (hne fun e => ht.1 e.symm)).trans h.pbh, h.map.keep (hc.keep pm h.pm_lt (hne fun e => ht.2.1 e.symm)),
   h.row.of fun b o e => hc.keep b (h.la_lt b (mem_blk e)) (hne fun e' => ht.2.2.1 (e' ▸ mem_blk e)), h.sub, fun y hy => cells_blk (h.used y hy) hc fun n hn => hne fun e' => ht.2.2.2.1 (e' ▸ List.mem_flatMap.2 ⟨y, hy, hn⟩),
   h.pd, h.ud, fun n hn => Nat.lt_of_lt_of_le (h.ul n hn) hc.size, h.nd, ⟨h.low.1, h.low.2.1, h.low.2.2.1, Nat.le_trans h.low.2.2.2 hc.size⟩, h.ulo⟩
theorem PI.all_lt (h : PI r a c sb tm pb pm B K L U la lc hd ns w) (hns : ∀ n ∈ ns, n < w.heap.size) : ∀ n ∈ pb :: pm :: (blk la ++ (ub U ++ ns)), n < w.heap.size := fun n hn => by
  simp only [List.mem_cons, List.mem_append] at hn
  rcases hn with rfl | rfl | hn | hn | hn
  · exact h.pb_lt
  · exact h.pm_lt
  · exact h.la_lt n hn
  · exact h.ul n hn
  · exact hns n hn
theorem PI.cell (h : PI r a c sb tm pb pm B K L U la lc hd ns w) {i : Nat} {v : Value} (hv : (hdV sb pm hd)[i]? = some v) : w.cell? ⟨pb, 0 + i, none⟩ = some v := by
  rw [Nat.zero_add]; exact cell_obj h.pbh hv
theorem look_keys' {T : Type} [DecidableEq T] {l : List T} {k : T} : ((l.map fun k => (k, Value.bool true)).lookup k) = if k ∈ l then some (.bool true) else none := by
  induction l with
  | nil => rfl
  | cons x l ih =>
    simp only [List.map_cons, List.lookup]
    by_cases e : k = x
    · subst e; simp
    · have : (k == x) = false := by simpa using e
      rw [this, ih]
      simp [e]
theorem PI.has (h : PI r a c sb tm pb pm B K L U la lc hd ns w) (k : Key) {R : Value → World → Prop} (hR : R (.bool (decide (k ∈ K))) w) : RunsTo Try.prog (Instr.lookup 117 (.map (some pm)) (encN k) false) w R := by
  have hr := (run_lookup_map keyN (mt := 117) (vt := 4) (by kernel_rfl) h.map k (z := .bool false) (by kernel_rfl)).2
  refine ⟨_, w, hr, ?_⟩
  rw [look_keys']
  by_cases e : k ∈ K
  · rw [if_pos e]; rw [decide_eq_true e] at hR; exact hR
  · rw [if_neg e]; rw [decide_eq_false e] at hR; exact hR
theorem PI.put (h : PI r a c sb tm pb pm B K L U la lc hd ns w) {k : Key} (hk : k ∉ K) {R : Value → World → Prop} (hR : ∀ w', PI r a c sb tm pb pm B (K ++ [k]) L U la lc hd ns w' → Chg [pm] w w' → R (.tuple #[]) w') : RunsTo Try.prog ((Instr.mapUpdate 117 (.map (some pm)) (encN k) (.bool true)) >>= fun _ => pure (Value.tuple #[])) w R := by
  obtain ⟨o, hr, hm⟩ := run_update_map keyN (mt := 117) (vt := 4) (by kernel_rfl) h.map k (.bool true) (by rw [look_keys', if_neg hk])
  have hc : Chg [pm] w (w.putObj pm o) := ⟨rfl, rfl, rfl, by simp [World.putObj], fun j hj hn => World.putObj_heap_other (by simpa using hn)⟩
  refine ⟨.tuple #[], w.putObj pm o, by simp only [Sem.run_bind, hr, Result.andThen_ok, Sem.run_pure], hR _ ?_ hc⟩
  have hne : ∀ {n}, n ≠ pm → n ∉ [pm] := fun h => by simpa using h
  exact ⟨h.inv.chg hc (by simp), (hc.keep pb h.pb_lt (hne h.pd.1)).trans h.pbh, by simpa using hm,
   h.row.of fun b o e => hc.keep b (h.la_lt b (mem_blk e)) (hne fun e' => h.pd.2.2 (e' ▸ mem_blk e)), h.sub, fun y hy => cells_blk (h.used y hy) hc fun n hn => hne (h.ud n (List.mem_flatMap.2 ⟨y, hy, hn⟩)).2.1,
   h.pd, h.ud, fun n hn => Nat.lt_of_lt_of_le (h.ul n hn) hc.size, h.nd, ⟨h.low.1, h.low.2.1, h.low.2.2.1, Nat.le_trans h.low.2.2.2 hc.size⟩, h.ulo⟩
/-- A list of weights that was made anew. -/
theorem PI.mint (h : PI r a c sb tm pb pm B K L U la lc hd ns w) (hb : Below w.heap.size w w') {ua : Option Addr} {l : List Bool} (hu : Cells w' ua (bools l)) (hn : ∀ n ∈ blk ua, w.heap.size ≤ n ∧ n < w'.heap.size) (hns : ∀ n ∈ ns, n < w.heap.size ∨ w'.heap.size ≤ n) : PI r a c sb tm pb pm B K L ((ua, l) :: U) la lc hd ns w' := by
  have H := h.below hb
  have hI : Inv r a c sb tm [] (pb :: pm :: (blk la ++ (ub ((ua, l) :: U) ++ ns))) w := h.inv.more fun n hm => by
    simp only [List.mem_cons, List.mem_append, ub, List.flatMap_cons] at hm ⊢
    rcases hm with hm | hm | hm | (hm | hm) | hm
    · exact .inl (.inl hm)
    · exact .inl (.inr (.inl hm))
    · exact .inl (.inr (.inr (.inl hm)))
    · exact .inr (hn n hm).1
    · exact .inl (.inr (.inr (.inr (.inl hm))))
    · exact .inl (.inr (.inr (.inr (.inr hm))))
  have new : ∀ n ∈ ub ((ua, l) :: U), n ∈ blk ua ∨ n ∈ ub U := fun n hn => by simpa [ub] using hn
  have p1 := h.pb_lt; have p2 := h.pm_lt
  refine ⟨hI.below hb, H.pbh, H.map, H.row, fun x hx => List.mem_cons_of_mem _ (H.sub x hx), fun y hy => ?_, H.pd, fun n hm => ?_, fun n hm => ?_, fun n hm => ?_, H.low, fun n hm => (new n hm).elim (fun h1 => by have := hn n h1; have := h.low.2.2.2; omega) (h.ulo n)⟩
  · rcases List.mem_cons.1 hy with rfl | hy
    · exact hu
    · exact H.used y hy
  · rcases new n hm with h1 | h1
    · have := hn n h1
      exact ⟨by omega, by omega, fun hh => by have := h.la_lt n hh; omega⟩
    · exact H.ud n h1
  · rcases new n hm with h1 | h1
    · exact (hn n h1).2
    · exact H.ul n h1
  · obtain ⟨g1, g2, g3, g4⟩ := H.nd n hm
    refine ⟨g1, g2, g3, fun hh => ?_⟩
    rcases new n hh with h1 | h1
    · have := hn n h1; rcases hns n hm with h2 | h2 <;> omega
    · exact g4 h1
theorem flat_snoc (L : List ClM) (x : ClM) : (L ++ [x]).flatMap clV = L.flatMap clV ++ clV x := by simp
/-- One claim more. -/
theorem PI.append (h : PI r a c sb tm pb pm B K L U la lc hd ns w) {x : ClM} (hx : (x.2.1, x.1.st.used) ∈ U) (hns : ∀ n ∈ ns, n < w.heap.size) (hlen : L.length ≤ 100000) {b cc : Nat} (hc : Cells w (some ⟨b, 0, none⟩) (clV x)) {R : Value → World → Prop}
    (hR : ∀ la' lc' w', PI r a c sb tm pb pm B K (L ++ [x]) U la' lc' hd ns w' → Chg (blk la) w w' → (∀ g ∈ blk la', g ∈ blk la ∨ w.heap.size ≤ g) → R (.slice la' (L.length + 1) lc') w') :
    RunsTo Try.prog (Builtin.append_ #[54, 54] 54 #[.slice la L.length lc, .slice (some ⟨b, 0, none⟩) 1 cc]) w R := by
  refine append_own (bytes := 64) (by kernel_rfl) (by omega) h.row hc (by simp [clV]) (by simp [clV, Value.oneCell']) (by omega) (by omega) h.low.2.2.2 fun la' lc' w' hrow hcg hnew => ?_
  refine hR la' lc' w' ⟨?_, (hcg.keep pb h.pb_lt h.pd.2.1).trans h.pbh, h.map.keep (hcg.keep pm h.pm_lt h.pd.2.2), by rw [flat_snoc, List.length_append]; exact hrow, fun y hy => ?_, fun y hy => cells_blk (h.used y hy) hcg fun n hn => (h.ud n (List.mem_flatMap.2 ⟨y, hy, hn⟩)).2.2, ?_, fun n hn => ?_, fun n hn => Nat.lt_of_lt_of_le (h.ul n hn) hcg.size, fun n hn => ?_, ⟨h.low.1, h.low.2.1, h.low.2.2.1, Nat.le_trans h.low.2.2.2 hcg.size⟩, h.ulo⟩ hcg hnew
  · have hI : Inv r a c sb tm [] (pb :: pm :: ((blk la ++ blk la') ++ (ub U ++ ns))) w := h.inv.more fun n hm => by
      simp only [List.mem_cons, List.mem_append] at hm ⊢
      rcases hm with hm | hm | (hm | hm) | hm
      · exact .inl (.inl hm)
      · exact .inl (.inr (.inl hm))
      · exact .inl (.inr (.inr (.inl hm)))
      · exact (hnew n hm).imp (fun h => .inr (.inr (.inl h))) id
      · exact .inl (.inr (.inr (.inr hm)))
    exact (hI.chg hcg fun n hn => by simp [hn]).less fun n hn => by
      simp only [List.mem_cons, List.mem_append] at hn ⊢
      rcases hn with hn | hn | hn | hn
      · exact .inl hn
      · exact .inr (.inl hn)
      · exact .inr (.inr (.inl (.inr hn)))
      · exact .inr (.inr (.inr hn))
  · rcases List.mem_append.1 hy with hy | hy
    · exact h.sub y hy
    · rw [List.mem_singleton.1 hy]; exact hx
  · have p1 := h.pb_lt; have p2 := h.pm_lt
    exact ⟨h.pd.1, fun hh => (hnew _ hh).elim h.pd.2.1 (by omega), fun hh => (hnew _ hh).elim h.pd.2.2 (by omega)⟩
  · obtain ⟨g1, g2, g3⟩ := h.ud n hn
    have := h.ul n hn
    exact ⟨g1, g2, fun hh => (hnew _ hh).elim g3 (by omega)⟩
  · obtain ⟨g1, g2, g3, g4⟩ := h.nd n hn
    have := hns n hn
    exact ⟨g1, g2, fun hh => (hnew _ hh).elim g3 (by omega), g4⟩
/-- The row's head is written. -/
theorem PI.store (h : PI r a c sb tm pb pm B K L U la lc hd ns w) {off : Nat} (ho : off = 1) {x : Option Addr × Nat × Nat} {R : Value → World → Prop} (hR : ∀ w', PI r a c sb tm pb pm B K L U la lc x ns w' → Chg [pb] w w' → R (.tuple #[]) w') :
    RunsTo Try.prog ((Instr.storeAt 54 (.pointer (some ⟨pb, off, none⟩)) (.slice x.1 x.2.1 x.2.2)) >>= fun _ => pure (Value.tuple #[])) w R := by
  subst ho
  refine obj_store (cs := hdV sb pm hd) (vs := [.slice x.1 x.2.1 x.2.2]) h.pbh (by kernel_rfl) (by kernel_rfl) (by simp [hdV]) rfl (by simp; trivial) fun w' hh hc => hR w' ?_ hc
  have hne : ∀ {n}, n ≠ pb → n ∉ [pb] := fun h => by simpa using h
  exact ⟨h.inv.chg hc (by simp), hh, h.map.keep (hc.keep pm h.pm_lt (hne fun e => h.pd.1 e.symm)),
   h.row.of fun b o e => hc.keep b (h.la_lt b (mem_blk e)) (hne fun e' => h.pd.2.1 (e' ▸ mem_blk e)), h.sub, fun y hy => cells_blk (h.used y hy) hc fun n hn => hne (h.ud n (List.mem_flatMap.2 ⟨y, hy, hn⟩)).1,
   h.pd, h.ud, fun n hn => Nat.lt_of_lt_of_le (h.ul n hn) hc.size, h.nd, ⟨h.low.1, h.low.2.1, h.low.2.2.1, Nat.le_trans h.low.2.2.2 hc.size⟩, h.ulo⟩
end
end Go.Proofs.R07
end
section
/- Functions 75 (used) and 60 (add): walked. -/
namespace Go.Proofs.R07
open Go.Vc Go.RowKit Go.Proofs

def UsedPost (l : List Bool) (w : World) (e : Ending) (w' : World) : Prop := ∃ a c, e = .returned (.slice a l.length c) ∧ Below w.heap.size w w' ∧ Cells w' a (bools l) ∧ ∀ n ∈ blk a, w.heap.size ≤ n ∧ n < w'.heap.size
theorem used_any {r : Rules} (hr : Good r) {a : Option Addr} {c sb tm : Nat} {w : World} (h : ShopAt r a c sb tm w) {u : Nat} (hu : u < 8) : Calls Try.prog 75 #[.pointer (some ⟨sb, 0, none⟩), I u] w (UsedPost (usedL r u) w) := by
  have h3 := hr.1
  refine vc75 _ _ _ w _ ⟨_, _, _, h.cell (i := 5) rfl, fun ls w' => match ls with | [.sl a' n' c', .int _ x] => 0 ≤ x ∧ x ≤ r.ws.length ∧ n' = x.toNat ∧ Row 4 1 w.heap.size [] a' n' c' (bools ((List.range x.toNat).map (has u))) w' | _ => False,
    fun ls => match ls with | [_, .int _ x] => (r.ws.length - x).toNat | _ => 0, fun w2 hb2 hk2 => ⟨by omega, by omega, rfl, Row.nil⟩, ?_⟩
  rintro a' n' c' x w3 hb3 ⟨h0, hn, rfl, hrow⟩
  refine ⟨fun hx w4 hb4 hk4 => ?_, fun hx w9 hb9 hk9 => ?_⟩
  · have hxn : x = (x.toNat : Int) := by omega
    have hhas := has_any hu (i := x.toNat) (by omega) w4
    rw [← hxn] at hhas
    refine Pure.calls hhas fun w5 hb5 => ⟨_, rfl, .all hb5, fun m6 h6 w6 hb6 hk6 hc6 => ?_⟩
    have R6 := (((hrow.chg (Chg.kept hk4) fun b hb => hb).below hb5).grow (ms := [m6]) (by simpa using h6)).chg (Chg.kept hk6) fun b hb => by simpa using hb
    refine append_row (P := Try.prog) (bytes := 1) (by kernel_rfl) (by omega) R6 (m := 1) (news := bools [has u x.toNat]) (Cells.obj (vs := [.bool _]) hc6) rfl (by simp [bools]; rfl) (by omega) (by omega) hb6.size (by simpa using hk6.own) fun a2 c2 w7 R7 S cS hS => ?_
    refine ⟨a2, _, c2, rfl, cS.own (fun b hb => ⟨hk6.own b hb, fun hh => (hS b hh).2 (by simpa using hb)⟩) (by simp) (fun _ => ⟨hb6.size, fun b hb => (hS b hb).1⟩), by omega, fun w8 hb8 hk8 => ⟨⟨by omega, by omega, by omega, ?_⟩, ?_⟩⟩
    · have R8 := (R7.chg (Chg.kept hk8) fun b hb => by simpa using hb).less (ns' := []) (by simp)
      rw [show (x + 1).toNat = x.toNat + 1 by omega, List.range_succ, List.map_append]
      simpa [bools] using R8
    · show ((r.ws.length : Int) - (x + 1)).toNat < ((r.ws.length : Int) - x).toNat
      omega
  · have hxl : x.toNat = r.ws.length := by omega
    have R9 := hrow.chg (Chg.kept hk9) fun b hb => hb
    refine ⟨a', c', by rw [usedL_len, hxl], hb9, by have := R9.cells; rw [hxl] at this; exact this, fun n hn => ?_⟩
    cases a' with
    | none => simp [blk] at hn
    | some ad =>
      simp only [blk, List.mem_singleton] at hn
      subst hn
      rcases R9.own.2 with ⟨he, _⟩ | ⟨g, cap, cur, he, _⟩
      · cases he
      · simp only [Value.slice.injEq, Option.some.injEq] at he
        obtain ⟨rfl, _⟩ := he
        exact R9.lt _ _ rfl

/-- What has been built, as lists without memory. -/
def plainL (L : List ClM) : List Cl := L.map (·.1)
theorem plainL_append (L L' : List ClM) : plainL (L ++ L') = plainL L ++ plainL L' := by simp [plainL]
def Keys (r : Rules) (k0 : Key) (K : List Key) : Prop := ∀ x ∈ K, x = k0 ∨ (GoodKey r x ∧ LoopKey r x)
theorem keys_few {r : Rules} (hr : Good r) {k0 : Key} {K : List Key} (hn : K.Nodup) (h : Keys r k0 K) : K.length ≤ 28849 := by
  have := nodup_le (m := allKeys r k0) hn fun x hx => by
    rcases h x hx with rfl | ⟨⟨⟨g1, g2, g3⟩, gu⟩, v, hv, e⟩
    · exact List.mem_cons_self
    · have := two_le hr
      refine List.mem_cons_of_mem _ (List.mem_flatMap.2 ⟨v, List.mem_range.2 hv, List.mem_flatMap.2 ⟨x.2, List.mem_range.2 (by omega), List.mem_map.2 ⟨(x.1.1 + 300).toNat, List.mem_range.2 (by omega), ?_⟩⟩⟩)
      rw [show ((x.1.1 + 300).toNat : Int) - 300 = x.1.1 by omega, ← e]
  rw [allKeys_len] at this
  exact this
def Add2Post (r : Rules) (a : Option Addr) (c sb tm pb pm B : Nat) (n : Nat) (k : Key) (K : List Key) (L : List ClM) (la : Option Addr) (ns : List Nat) (w : World) (e : Ending) (w' : World) : Prop :=
  e = .returned (.tuple #[]) ∧ ∃ K2 L2 U2 la2 lc2, Chg (tm :: pb :: pm :: blk la) w w' ∧ (∀ g ∈ blk la2, g ∈ blk la ∨ w.heap.size ≤ g) ∧ PI r a c sb tm pb pm B (K ++ K2) (L ++ L2) U2 la2 lc2 (la2, (L ++ L2).length, lc2) ns w' ∧ Added r n k K (plainL L) K2 (plainL L2)
def Add2Ok (r : Rules) (n : Nat) : Prop := ∀ (a : Option Addr) (c sb tm pb pm B : Nat) (k0 k : Key) (K : List Key) (L : List ClM) (U : List (Option Addr × List Bool)) (la : Option Addr) (lc : Nat) (ns : List Nat) (w : World),
  GoodKey r k → few r k.2 k.1 = some n → K.Nodup → Keys r k0 K → (k = k0 ∨ LoopKey r k) → L.length ≤ K.length → Known r n K (plainL L) → PI r a c sb tm pb pm B K L U la lc (la, L.length, lc) ns w → (∀ x ∈ ns, x < w.heap.size) →
  Calls Try.prog 60 #[.pointer (some ⟨pb, 0, none⟩), .agg #[I k.1.1, I k.1.2], I k.2] w (Add2Post r a c sb tm pb pm B n k K L la ns w)
end Go.Proofs.R07
end
section
/- Function 60 (add): walked. -/
namespace Go.Proofs.R07
open Go.Vc Go.RowKit Go.Proofs

/-- Between two claims. -/
structure AddLoop (r : Rules) (a : Option Addr) (c sb tm pb pm B : Nat) (K1 : List Key) (L1 : List ClM) (la : Option Addr) (NS : List Nat) (w0 : World) (v : Nat) (img : Sp) (mu tb : Nat) (f : Int)
    (K3 : List Key) (L3 : List ClM) (U3 : List (Option Addr × List Bool)) (la3 : Option Addr) (lc3 : Nat) (w : World) : Prop where
  pi : PI r a c sb tm pb pm B (K1 ++ K3) (L1 ++ L3) U3 la3 lc3 (la3, (L1 ++ L3).length, lc3) NS w
  chg : Chg (tm :: pb :: pm :: blk la) w0 w
  new : ∀ g ∈ blk la3, g ∈ blk la ∨ w0.heap.size ≤ g
  own : ∀ n ∈ NS, n < w.heap.size
  gr : Grown r v K1 (plainL L1) K3 (plainL L3)
  lk : ∀ k' ∈ K3, LoopKey r k'
  cov : Cov r v img mu (plainL (L1 ++ L3)) f
  tab : FullT w tb (stateV r v mu) (imageV r v mu)
  tbn : tb ∉ pb :: pm :: blk la3 ∧ tb ∉ NS
  lo : img.1 ≤ f
section
variable {r : Rules} {a : Option Addr} {c sb tm pb pm B : Nat} {K1 : List Key} {L1 : List ClM} {la : Option Addr} {NS : List Nat} {w0 : World} {v : Nat} {img : Sp} {mu tb : Nat} {f : Int}
    {K3 : List Key} {L3 : List ClM} {U3 : List (Option Addr × List Bool)} {la3 : Option Addr} {lc3 : Nat} {w w' : World}
theorem AddLoop.step {S : List Nat} (h : AddLoop r a c sb tm pb pm B K1 L1 la NS w0 v img mu tb f K3 L3 U3 la3 lc3 w) (hc : Chg S w w') (hs : ∀ x ∈ S, x ∈ NS ∧ w0.heap.size ≤ x) : AddLoop r a c sb tm pb pm B K1 L1 la NS w0 v img mu tb f K3 L3 U3 la3 lc3 w' :=
  ⟨h.pi.chg hc fun x hx => (hs x hx).1, R07.Chg.snoc h.chg hc fun x hx => .inr (hs x hx).2, h.new, fun n hn => Nat.lt_of_lt_of_le (h.own n hn) hc.size, h.gr, h.lk, h.cov, h.tab.chg hc fun hm => h.tbn.2 (hs _ hm).1, h.tbn, h.lo⟩
theorem AddLoop.below (h : AddLoop r a c sb tm pb pm B K1 L1 la NS w0 v img mu tb f K3 L3 U3 la3 lc3 w) (hb : Below w.heap.size w w') : AddLoop r a c sb tm pb pm B K1 L1 la NS w0 v img mu tb f K3 L3 U3 la3 lc3 w' := h.step (S := []) (Chg.of_below hb) (by simp)
end

set_option maxRecDepth 100000 in
set_option maxHeartbeats 8000000 in
theorem add2_step {r : Rules} (hr : Good r) (n : Nat) (ih : ∀ m, m < n → Add2Ok r m) : Add2Ok r n := by
  intro a c sb tm pb pm B k0 k K L U la lc ns w hk hf hnd hkeys hk0 hLK hkn hP hns
  obtain ⟨⟨lo, hi⟩, u⟩ := k
  have hk' := hk
  obtain ⟨⟨hs1, hs2, hs3⟩, hu⟩ := hk'
  have h28 := two_le hr
  simp only at hs1 hs2 hs3 hu hf
  have hu8 : u < 8 := by omega
  have h7 := few_lt hf
  have hpb := hP.pb_lt
  have hpm := hP.pm_lt
  have htm := hP.inv.tm_lt
  have hlen : L.length ≤ 28849 := Nat.le_trans hLK (keys_few hr hnd hkeys)
  show Calls Try.prog 60 #[.pointer (some ⟨pb, 0, none⟩), .agg #[I lo, I hi], I u] w _
  refine vc60 _ _ _ _ _ w _ fun m1 h1 m2 h2 => ⟨pm, hP.cell (i := 2) rfl, .inl hpb, fun w1 hk1 => ?_⟩
  have s1 := hk1.size
  have o1 := hk1.own
  have P1 := (hP.grow (ms := [m2, m1]) (by simp; omega)).chg (chg_in hk1) fun x hx => List.mem_append_left _ hx
  have N1 : ∀ x ∈ [m2, m1] ++ ns, x < w1.heap.size := fun x hx => by
    rcases List.mem_append.1 hx with hx | hx
    · exact o1 x hx
    · have := hns x hx; omega
  have C1 : Chg (tm :: pb :: pm :: blk la) w w1 := R07.Chg.snoc (.refl _ _) (chg_in hk1) (by simp; omega)
  refine P1.has ((lo, hi), u) ⟨_, rfl, .all (Below.refl _ _), fun ht w3 hk3 => ?_, fun ht => ?_⟩
  · have hmem := of_decide_eq_true ht
    have P3 := (P1.chg (Chg.kept hk3) fun x hx => List.mem_append_left _ hx).drop (ms := [m2, m1])
    refine ⟨rfl, [], [], U, la, lc, R07.Chg.snoc C1 (Chg.kept hk3) (by simp; omega), fun g hg => .inl hg, by simpa using P3, Grown.nil hnd, ?_, by simp, fun hno => absurd hmem hno⟩
    obtain ⟨cl, hcl, hc2⟩ := hkn _ hmem n hf (Nat.le_refl _)
    exact ⟨cl, by simpa [plainL] using hcl, hc2⟩
  have hnk : ((lo, hi), u) ∉ K := of_decide_eq_false ht
  refine ⟨pm, P1.cell (i := 2) rfl, .inl hpb, fun w4 hk4 => ?_⟩
  have s4 := hk4.size
  have o4 := hk4.own
  have P4 := P1.chg (chg_in hk4) fun x hx => List.mem_append_left _ hx
  have C4 := R07.Chg.snoc C1 (chg_in hk4) (by simp; omega)
  refine P4.put hnk fun w5 P5 c5 => ⟨c5.own (fun b hb => ⟨o4 b hb, by simp at hb ⊢; omega⟩) (by simp) (by simp), _, P5.cell (i := 0) rfl, .inl hpb, fun w6 hk6 => ?_⟩
  have s5 := c5.size
  have s6 := hk6.size
  have o6 := hk6.own
  have P6 := P5.chg (chg_in hk6) fun x hx => List.mem_append_left _ hx
  have C6 := R07.Chg.snoc (R07.Chg.snoc C4 c5 (by simp)) (chg_in hk6) (by simp; omega)
  have N6 : ∀ x ∈ [m2, m1] ++ ns, x < w6.heap.size := fun x hx => by have := N1 x hx; omega
  refine (few_any hr hu8 P6.inv (P6.all_lt N6) (s := (lo, hi)) ⟨hs1, hs2, hs3⟩).mono fun e w7 he => ?_
  obtain ⟨rfl, c7, I7⟩ := he
  rw [hf, Option.getD_some]
  have P7 := P6.tabs c7 I7
  have C7 := R07.Chg.snoc C6 c7 (by simp)
  have s7 := c7.size
  refine ⟨_, _, rfl, c7.own (fun b hb => ⟨o6 b hb, by simp at hb ⊢; omega⟩) (by simp) (by simp), _, P7.cell (i := 0) rfl, .inl hpb, fun w8 hk8 => ?_⟩
  have s8 := hk8.size
  have o8 := hk8.own
  have P8 := P7.chg (chg_in hk8) fun x hx => List.mem_append_left _ hx
  refine (used_any hr P8.inv.shop hu8).mono fun e w9 he => ?_
  obtain ⟨ua, uc, rfl, b9, hu9, hn9⟩ := he
  have s9 := b9.size
  refine ⟨ua, _, uc, rfl, ⟨.all b9, fun m hm => b9.block m (by obtain ⟨_, _, _, hm⟩ := hm; exact lt_of_some hm)⟩, fun m16 g1 g2 => ?_⟩
  have Q8 := (P7.grow (ms := [m16]) (by simpa using g1)).chg (chg_in hk8) fun x hx => List.mem_append_right _ (List.mem_append_left _ hx)
  have P9 := Q8.mint b9 hu9 hn9 fun x hx => by
    rcases List.mem_append.1 hx with hx | hx
    · rw [List.mem_singleton.1 hx]; exact g2
    · have := N6 x hx; exact .inl (by omega)
  have C9 : Chg (tm :: pb :: pm :: blk la) w w9 := R07.Chg.snoc (R07.Chg.snoc C7 (chg_in hk8) (by simp; omega)) (.of_below (S := []) b9) (by simp)
  have hUm : ∀ (v : Int) (x : Int × Int) (q : Nat), (((clOf r ((lo, hi), u) v x, ua, uc) : ClM).2.1, ((clOf r ((lo, hi), u) v x, ua, uc) : ClM).1.st.used) ∈ (ua, usedL r u) :: U := fun _ _ _ => List.mem_cons_self
  refine ⟨fun hz => ?_, fun hz => ?_⟩
  · -- no visit
    have hz0 : n = 0 := by simpa using hz
    subst hz0
    refine ⟨_, _, _, P9.cell (i := 1) rfl, .inl hpb, fun m19 g3 w10 hk10 hc10 => ?_⟩
    have s10 := hk10.size
    have o10 := hk10.own
    have P10 := (P9.grow (ms := [m19]) (by simpa using g3)).chg (chg_in hk10) fun x hx => by
      simp only [List.mem_cons, List.not_mem_nil, or_false] at hx
      simp only [List.mem_append, List.mem_cons, List.not_mem_nil, or_false]
      omega
    have N10 : ∀ x ∈ [m19] ++ ([m16] ++ ([m2, m1] ++ ns)), x < w10.heap.size := fun x hx => by
      simp only [List.mem_append] at hx
      rcases hx with hx | hx | hx | hx
      · exact o10 x (by simp at hx ⊢; omega)
      · exact o10 x (by simp at hx ⊢; omega)
      · exact o10 x (by simp at hx ⊢; omega)
      · have := hns x hx; omega
    have C10 := R07.Chg.snoc C9 (chg_in hk10) (by simp; omega)
    refine P10.append (x := (clOf r ((lo, hi), u) (0 : Nat) (0, -1), ua, uc)) (hUm _ _ 0) N10 (by omega) (Cells.obj hc10) fun la' lc' w11 P11 c11 hnew => ?_
    have s11 := c11.size
    have nla : ∀ b ∈ [m19, m16, m2, m1], b < w10.heap.size ∧ b ∉ blk la := fun b hb => ⟨o10 b hb, (P10.nd b (by simp at hb ⊢; omega)).2.2.1⟩
    refine ⟨la', _, lc', rfl, c11.own nla (by simp) (by simp), fun w12 hk12 => ?_⟩
    have o12 := hk12.own
    have s12 := hk12.size
    have P12 := P11.chg (chg_in hk12) fun x hx => by
      simp only [List.mem_cons, List.not_mem_nil, or_false] at hx
      simp only [List.mem_append, List.mem_cons, List.not_mem_nil, or_false]
      omega
    refine P12.store (off := 0 + 1) rfl (x := (la', L.length + 1, lc')) fun w13 P13 c13 => ⟨c13.own (fun b hb => ⟨o12 b hb, by simp at hb ⊢; omega⟩) (by simp) (by simp), fun w14 hk14 => ?_⟩
    have P14 := P13.chg (Chg.kept hk14) fun x hx => by
      simp only [List.mem_cons, List.not_mem_nil, or_false] at hx
      simp only [List.mem_append, List.mem_cons, List.not_mem_nil, or_false]
      omega
    have P14' := ((P14.drop (ms := [m19])).drop (ms := [m16])).drop (ms := [m2, m1])
    have hg : hi ≤ goodTo r lo := by
      have h := hf
      unfold few at h
      have h := List.find?_some h
      exact of_decide_eq_true h
    refine ⟨rfl, [((lo, hi), u)], [(clOf r ((lo, hi), u) (0 : Nat) (0, -1), ua, uc)], _, la', lc', ?_, fun g hg => (hnew g hg).imp id fun h => by omega, by simpa using P14', added_zero hnd hnk hk hf hg⟩
    exact R07.Chg.snoc (R07.Chg.snoc (R07.Chg.snoc (R07.Chg.snoc C10 c11 (fun x hx => .inl (by simp [hx]))) (chg_in hk12) (by simp; omega)) c13 (by simp)) (Chg.kept hk14) (by simp; omega)
  -- some visits
  have hz0 : n ≠ 0 := by simpa using hz
  obtain ⟨v, rfl⟩ : ∃ v, n = v + 1 := ⟨n - 1, by omega⟩
  obtain ⟨act, img, mu, hfa, hmv, himg, hwin⟩ := act_windows hr hu8 (s := (lo, hi)) ⟨hs1, hs2, hs3⟩ hf
  have hmu := move_used hr hu hmv
  have hmu8 : mu < 8 := by omega
  obtain ⟨i1, i2, i3⟩ := himg
  have herr := hr.2.2.1
  refine ⟨_, P9.cell (i := 0) rfl, .inl hpb, fun w15 hk15 => ?_⟩
  have s15 := hk15.size
  have o15 := hk15.own
  have P15 := (P9.grow (ms := List.range' w9.heap.size (w15.heap.size - w9.heap.size)) (fun x hx => (List.mem_range'_1.1 hx).1)).chg (chg_in hk15) fun x hx => by
    simp only [List.mem_cons, List.not_mem_nil, or_false] at hx
    simp only [List.mem_append, List.mem_cons, List.not_mem_nil, or_false]
    omega
  have C15 := R07.Chg.snoc C9 (chg_in hk15) (by simp; omega)
  have N15 : ∀ x ∈ List.range' w9.heap.size (w15.heap.size - w9.heap.size) ++ ([m16] ++ ([m2, m1] ++ ns)), x < w15.heap.size := fun x hx => by
    simp only [List.mem_append] at hx
    rcases hx with hx | hx | hx | hx
    · have := (List.mem_range'_1.1 hx).2; omega
    · exact o15 x (by simp at hx ⊢; omega)
    · exact o15 x (by simp at hx ⊢; omega)
    · have := hns x hx; omega
  have hact := act_any hr hu8 P15.inv (P15.all_lt N15) (s := (lo, hi)) ⟨hs1, hs2, hs3⟩ (v := v) (by omega)
  rw [show ((v : Int) + 1) = ((v + 1 : Nat) : Int) by omega] at hact
  refine hact.mono fun e w16 he => ?_
  obtain ⟨act', img', mu', rfl, c16, I16, hm16⟩ := he
  rw [hfa] at hm16
  obtain ⟨hae, hm16⟩ := hm16
  subst act'
  rw [hmv] at hm16
  obtain ⟨e16, e17⟩ : img = img' ∧ mu = mu' := by simpa using hm16
  subst img'
  subst mu'
  have P16 := P15.tabs c16 I16
  have C16 := R07.Chg.snoc C15 c16 (by simp)
  have s16 := c16.size
  obtain ⟨es, cl, hmap⟩ := P15.inv.tm_map
  refine ⟨_, _, _, _, _, rfl, ⟨c16.own (fun b hb => ⟨o15 b hb, by simp at hb ⊢; omega⟩) (fun b hb => by
      rcases hb with hb | hb
      · exact hb.elim
      · exact ⟨by omega, by simp; omega⟩) (by simp), fun m hm => c16.keep m (by obtain ⟨_, _, _, hm⟩ := hm; exact lt_of_some hm) (by
      obtain ⟨_, _, _, hm⟩ := hm
      intro hh
      rw [List.mem_singleton.1 hh, hmap] at hm
      cases hm)⟩, fun m31 g3 g4 m32 g5 g6 => ⟨_, _, _, P16.cell (i := 1) rfl, .inl hpb, fun m35 g7 w17 hk17 hc17 => ?_⟩⟩
  have s17 := hk17.size
  have o17 := hk17.own
  have M16 : PI r a c sb tm pb pm B (K ++ [((lo, hi), u)]) L ((ua, usedL r u) :: U) la lc (la, L.length, lc) ([m35, m32, m31, m16, m2, m1] ++ ns) w16 := P16.more fun x hx => by
    simp only [List.mem_append, List.mem_cons, List.not_mem_nil, or_false] at hx ⊢
    rcases hx with (rfl | rfl | rfl | rfl | rfl | rfl) | hx
    · exact .inr g7
    · rcases g6 with g | g
      · exact .inl (.inl (List.mem_range'_1.2 (by omega)))
      · exact .inr g
    · rcases g4 with g | g
      · exact .inl (.inl (List.mem_range'_1.2 (by omega)))
      · exact .inr g
    · exact .inl (.inr (.inl rfl))
    · exact .inl (.inr (.inr (.inl (.inl rfl))))
    · exact .inl (.inr (.inr (.inl (.inr rfl))))
    · exact .inl (.inr (.inr (.inr hx)))
  obtain ⟨NS, hNS⟩ : ∃ NS, NS = [m35, m32, m31, m16, m2, m1] ++ ns := ⟨_, rfl⟩
  rw [← hNS] at M16
  have hM : ∀ b ∈ [m35, m32, m31, m16, m2, m1], b ∈ NS ∧ w.heap.size ≤ b := fun b hb => ⟨by rw [hNS]; exact List.mem_append_left _ hb, by simp at hb; omega⟩
  have ownNS : ∀ {w' : World}, w.heap.size ≤ w'.heap.size → (∀ b ∈ [m35, m32, m31, m16, m2, m1], b < w'.heap.size) → ∀ x ∈ NS, x < w'.heap.size := fun hsz ho x hx => by
    rw [hNS] at hx
    rcases List.mem_append.1 hx with hx | hx
    · exact ho x hx
    · have := hns x hx; omega
  have P17 := M16.chg (chg_in hk17) fun x hx => (hM x hx).1
  have N17 := ownNS (by omega) o17
  have C17 := R07.Chg.snoc C16 (chg_in hk17) fun x hx => .inr (hM x hx).2
  refine P17.append (x := (clOf r ((lo, hi), u) (v + 1 : Nat) act, ua, uc)) (hUm _ _ 0) N17 (by omega) (Cells.obj hc17) fun la' lc' w18 P18 c18 hnew => ?_
  have s18 := c18.size
  refine ⟨la', _, lc', rfl, c18.own (fun b hb => ⟨o17 b hb, (P17.nd b (hM b hb).1).2.2.1⟩) (by simp) (by simp), fun w19 hk19 => ?_⟩
  have s19 := hk19.size
  have o19 := hk19.own
  have P19 := P18.chg (chg_in hk19) fun x hx => (hM x hx).1
  have C19 := R07.Chg.snoc (R07.Chg.snoc C17 c18 (fun x hx => .inl (by simp [hx]))) (chg_in hk19) fun x hx => .inr (hM x hx).2
  refine P19.store (off := 0 + 1) rfl (x := (la', L.length + 1, lc')) fun w20 P20 c20 => ⟨c20.own (fun b hb => ⟨o19 b hb, fun hh => (P19.nd b (hM b hb).1).1 (List.mem_singleton.1 hh)⟩) (by simp) (by simp), _, P20.cell (i := 0) rfl, .inl hpb, by omega, fun w21 hk21 => ?_⟩
  have s20 := c20.size
  have s21 := hk21.size
  have o21 := hk21.own
  have P21 := P20.chg (chg_in hk21) fun x hx => (hM x hx).1
  have C21 := R07.Chg.snoc (R07.Chg.snoc C19 c20 (by simp)) (chg_in hk21) fun x hx => .inr (hM x hx).2
  have N21 := ownNS (by omega) o21
  rw [show (((v + 1 : Nat) : Int) - 1) = (v : Int) by omega]
  refine (table_any hr v (by omega) a c sb tm [] _ mu w21 (by simp) hmu8 P21.inv (P21.all_lt N21)).mono fun e w22 he => ?_
  obtain ⟨tb, rfl, c22, I22, htb, hF⟩ := he
  have s22 := c22.size
  have P22 := P21.tabs c22 I22
  have C22 := R07.Chg.snoc C21 c22 (by simp)
  simp only [List.mem_cons, List.mem_append, not_or] at htb
  have ownNe : ∀ {K' : List Key} {L' : List ClM} {U' : List (Option Addr × List Bool)} {la'' : Option Addr} {lc'' : Nat} {hd : Option Addr × Nat × Nat} {w' : World}, PI r a c sb tm pb pm B K' L' U' la'' lc'' hd NS w' → ∀ b ∈ [m35, m32, m31, m16, m2, m1], b ∉ tm :: pb :: pm :: blk la'' := fun Q b hb hh => by
    obtain ⟨q1, q2, q3, _⟩ := Q.nd b (hM b hb).1
    simp only [List.mem_cons] at hh
    rcases hh with hh | hh | hh | hh
    · exact Q.inv.tmn (by rw [← hh]; simp [(hM b hb).1])
    · exact q1 hh
    · exact q2 hh
    · exact q3 hh
  refine ⟨_, rfl, c22.own (fun b hb => ⟨o21 b hb, fun hh => ownNe P21 b hb (by rw [List.mem_singleton.1 hh]; simp)⟩) (by simp) (by simp), tb, 0, rfl, trivial,
    fun ls w' => match ls with | [.int _ f] => ∃ K3 L3 U3 la3 lc3, AddLoop r a c sb tm pb pm B (K ++ [((lo, hi), u)]) (L ++ [(clOf r ((lo, hi), u) (v + 1 : Nat) act, ua, uc)]) la NS w v img mu tb f K3 L3 U3 la3 lc3 w' | _ => False,
    fun ls => match ls with | [.int _ f] => (302 - f).toNat | _ => 0, fun w24 hk24 => ?_, ?_⟩
  · have hnd1 : (K ++ [((lo, hi), u)]).Nodup := by
      rw [List.nodup_append]
      exact ⟨hnd, by simp, fun x hx y hy e => hnk (by rw [List.mem_singleton] at hy; rw [← hy, ← e]; exact hx)⟩
    have A22 : AddLoop r a c sb tm pb pm B (K ++ [((lo, hi), u)]) (L ++ [(clOf r ((lo, hi), u) (v + 1 : Nat) act, ua, uc)]) la NS w v img mu tb img.1 [] [] ((ua, usedL r u) :: U) la' lc' w22 :=
      ⟨by simpa using P22, C22, fun g hg => (hnew g hg).imp id fun h => by omega, fun x hx => by have := N21 x hx; omega, Grown.nil hnd1, by simp, fun g q1 q2 => by omega, hF, ⟨by simp only [List.mem_cons, not_or]; exact ⟨htb.1, htb.2.1, htb.2.2.1⟩, htb.2.2.2.2⟩, Int.le_refl _⟩
    exact ⟨[], [], _, la', lc', A22.step (Chg.kept hk24) hM⟩
  rintro f w25 ⟨K3, L3, U3, la3, lc3, A⟩
  -- the end of the way
  have finish : ∀ {K5 : List Key} {L5 : List ClM} {U5 : List (Option Addr × List Bool)} {la5 : Option Addr} {lc5 : Nat} {w' : World}, PI r a c sb tm pb pm B ((K ++ [((lo, hi), u)]) ++ K5) ((L ++ [(clOf r ((lo, hi), u) (v + 1 : Nat) act, ua, uc)]) ++ L5) U5 la5 lc5 (la5, ((L ++ [(clOf r ((lo, hi), u) (v + 1 : Nat) act, ua, uc)]) ++ L5).length, lc5) NS w' →
      Chg (tm :: pb :: pm :: blk la) w w' → (∀ g ∈ blk la5, g ∈ blk la ∨ w.heap.size ≤ g) → Grown r v (K ++ [((lo, hi), u)]) (plainL (L ++ [(clOf r ((lo, hi), u) (v + 1 : Nat) act, ua, uc)])) K5 (plainL L5) → (∀ k' ∈ K5, LoopKey r k') → (∀ g, Cov r v img mu (plainL ((L ++ [(clOf r ((lo, hi), u) (v + 1 : Nat) act, ua, uc)]) ++ L5)) g) →
      Add2Post r a c sb tm pb pm B (v + 1) ((lo, hi), u) K L la ns w (.returned (.tuple #[])) w' := fun {K5 L5 U5 la5 lc5 w'} Q q1 q2 q3 q4 q5 => by
    rw [hNS] at Q
    refine ⟨rfl, ((lo, hi), u) :: K5, (clOf r ((lo, hi), u) (v + 1 : Nat) act, ua, uc) :: L5, U5, la5, lc5, q1, q2, by simpa using Q.drop (ms := [m35, m32, m31, m16, m2, m1]), ?_⟩
    refine added_more hr hnk hk hf hmv (by simpa [plainL] using q3) q4 fun g => by simpa [plainL] using q5 g
  refine ⟨_, A.pi.cell (i := 0) rfl, .inl hpb, fun w26 hk26 => ?_⟩
  have A26 := A.step (chg_in hk26) hM
  refine Pure.calls (window_any hr A26.pi.inv.shop) fun w27 b27 => ⟨_, rfl, .all b27, by omega, fun hle w28 hk28 => ?_, fun hgt w36 hk36 => ?_⟩
  · have A28 := (A26.below b27).step (Chg.kept hk28) hM
    have hlo := A.lo
    have hf3 : f ≤ 300 := by omega
    refine Pure.calls (at_any (by omega) hf3 w28) fun w29 b29 => ⟨_, rfl, .all b29, tb, _, rfl, trivial, stateV r v mu f, ?_, .inr ?_, fun w30 hk30 => ?_⟩
    · have := (A28.below b29).tab.st (x := f) (by omega) hf3
      simpa using this
    · have := A28.tbn.2
      rw [hNS] at this
      simp only [List.mem_append, List.mem_cons, List.not_mem_nil, or_false, not_or] at this
      exact ⟨this.1.1, this.1.2.1, this.1.2.2.1, this.1.2.2.2.1, this.1.2.2.2.2.1, this.1.2.2.2.2.2⟩
    have A30 := (A28.below b29).step (Chg.kept hk30) hM
    have hto := hwin f hlo hle
    have hst := stateV_bound hr (v := v) (u := mu) (x := f) (by omega) hf3
    obtain ⟨to, hto'⟩ : ∃ to, to = stateV r v mu f := ⟨_, rfl⟩
    rw [← hto'] at hto hst ⊢
    have hsp : okSp (f, to) := ⟨by show -300 ≤ f; omega, by show f ≤ to; omega, hst.2⟩
    obtain ⟨m, hmv', hfm⟩ := few_le hr (n := v) (u := mu) (by omega) hsp ((enough_iff hr _ _ _ hsp).2 (by simp only; omega))
    have hlk : LoopKey r ((f, to), mu) := ⟨v, by omega, hto'⟩
    have gk : GoodKey r ((f, to), mu) := ⟨hsp, hmu⟩
    have hlen1 := A30.gr.len
    have hlenA : ((L ++ [(clOf r ((lo, hi), u) (v + 1 : Nat) act, ua, uc)]) ++ L3).length ≤ ((K ++ [((lo, hi), u)]) ++ K3).length := by
      have : L3.length = K3.length := by simpa [plainL] using hlen1
      simp only [List.length_append, List.length_cons, List.length_nil]; omega
    have hkeysA : Keys r k0 ((K ++ [((lo, hi), u)]) ++ K3) := fun x hx => by
      rcases List.mem_append.1 hx with hx | hx
      · rcases List.mem_append.1 hx with hx | hx
        · exact hkeys x hx
        · rw [List.mem_singleton.1 hx]
          exact hk0.imp id fun h => ⟨hk, h⟩
      · exact .inr ⟨(A30.gr.keys x hx).1, A30.lk x hx⟩
    have hknA : Known r m ((K ++ [((lo, hi), u)]) ++ K3) (plainL ((L ++ [(clOf r ((lo, hi), u) (v + 1 : Nat) act, ua, uc)]) ++ L3)) := fun x hx j hj hjm => by
      rcases List.mem_append.1 hx with hx | hx
      · rcases List.mem_append.1 hx with hx | hx
        · obtain ⟨cl, hcl, e⟩ := hkn x hx j hj (by omega)
          exact ⟨cl, by rw [plainL_append, plainL_append]; exact List.mem_append_left _ (List.mem_append_left _ hcl), e⟩
        · rw [List.mem_singleton.1 hx] at hj
          simp only at hj
          rw [hf] at hj
          simp only [Option.some.injEq] at hj
          omega
      · obtain ⟨_, j', e1, e2, cl, hcl, e3⟩ := A30.gr.keys x hx
        rw [hj] at e1
        simp only [Option.some.injEq] at e1
        subst e1
        exact ⟨cl, by rw [plainL_append]; exact List.mem_append_right _ hcl, e3⟩
    refine (ih m (by omega) a c sb tm pb pm B k0 ((f, to), mu) _ _ U3 la3 lc3 NS w30 gk hfm A30.gr.nod hkeysA (.inr hlk) hlenA hknA A30.pi A30.own).mono fun e w31 he => ?_
    obtain ⟨rfl, K4, L4, U4, la4, lc4, c31, new4, P31, G4, hcl4, hlk4, _⟩ := he
    have s31 := c31.size
    have o30 := hk30.own
    have C31 : Chg (tm :: pb :: pm :: blk la) w w31 := R07.Chg.snoc A30.chg c31 fun x hx => by
      simp only [List.mem_cons] at hx ⊢
      rcases hx with hx | hx | hx | hx
      · exact .inl (.inl hx)
      · exact .inl (.inr (.inl hx))
      · exact .inl (.inr (.inr (.inl hx)))
      · exact (A30.new x hx).imp (fun h => .inr (.inr (.inr h))) id
    have G34 := A30.gr.trans (by rw [← plainL_append]; exact G4) hmv'
    have new34 : ∀ g ∈ blk la4, g ∈ blk la ∨ w.heap.size ≤ g := fun g hg => by
      rcases new4 g hg with h | h
      · exact A30.new g h
      · have := A30.chg.size; exact .inr (by omega)
    have lk34 : ∀ k' ∈ K3 ++ K4, LoopKey r k' := fun k' hk' => by
      rcases List.mem_append.1 hk' with h | h
      · exact A30.lk k' h
      · rcases hlk4 k' h with rfl | h
        · exact hlk
        · exact h
    obtain ⟨cl, hclm, hcle⟩ := hcl4
    rw [← plainL_append] at hclm
    obtain ⟨cov1, cov2⟩ := Cov.step hr hmu (A30.cov.mono (M' := plainL (((L ++ [(clOf r ((lo, hi), u) (v + 1 : Nat) act, ua, uc)]) ++ L3) ++ L4)) fun x hx => by rw [plainL_append]; exact List.mem_append_left _ hx) hclm hmv' hcle hto
    have P31' := P31
    rw [List.append_assoc (K ++ [((lo, hi), u)]), List.append_assoc (L ++ [(clOf r ((lo, hi), u) (v + 1 : Nat) act, ua, uc)])] at P31'
    rw [List.append_assoc (L ++ [(clOf r ((lo, hi), u) (v + 1 : Nat) act, ua, uc)])] at cov1 cov2
    have T31 : FullT w31 tb (stateV r v mu) (imageV r v mu) := A30.tab.chg c31 fun hh => by
      rcases List.mem_cons.1 hh with hh | hh
      · exact tab_ne A30.pi.inv A30.tab hh
      · exact A30.tbn.1 hh
    have A31 : AddLoop r a c sb tm pb pm B (K ++ [((lo, hi), u)]) (L ++ [(clOf r ((lo, hi), u) (v + 1 : Nat) act, ua, uc)]) la NS w v img mu tb (max f (to - 2 * r.err) + 1) (K3 ++ K4) (L3 ++ L4) U4 la4 lc4 w31 :=
      ⟨P31', C31, new34, fun x hx => by have := A30.own x hx; omega, by rw [show plainL (L3 ++ L4) = plainL L3 ++ plainL L4 from plainL_append _ _]; exact G34, lk34, cov1, T31, ⟨fun hh => by
        simp only [List.mem_cons] at hh
        have h1 := A30.tbn.1
        simp only [List.mem_cons, not_or] at h1
        rcases hh with hh | hh | hh
        · exact h1.1 hh
        · exact h1.2.1 hh
        · rcases new4 tb hh with h | h
          · exact h1.2.2 h
          · have := A30.tab.lt; omega, A30.tbn.2⟩, by omega⟩
    refine ⟨rfl, c31.own (fun b hb => ⟨o30 b hb, ownNe A30.pi b hb⟩) (by simp) (by simp), fun hge w32 hk32 => ?_, fun hlt => ⟨_, A31.pi.cell (i := 0) rfl, .inl hpb, fun w33 hk33 => ?_⟩⟩
    · have A32 := A31.step (Chg.kept hk32) hM
      exact finish A32.pi A32.chg A32.new A32.gr A32.lk (cov2 hge)
    · have A33 := A31.step (Chg.kept hk33) hM
      refine Pure.calls (window_any hr A33.pi.inv.shop) fun w34 b34 => ⟨_, rfl, .all b34, by omega, by omega, fun w35 hk35 => ⟨⟨_, _, _, _, _, (A33.below b34).step (Chg.kept hk35) hM⟩, ?_⟩⟩
      show (302 - (max f (to - 2 * r.err) + 1)).toNat < (302 - f).toNat
      omega
  · have A36 := (A26.below b27).step (Chg.kept hk36) hM
    exact finish A36.pi A36.chg A36.new A36.gr A36.lk fun f' g q1 _ q3 => A36.cov g q1 (by omega) q3
theorem add2_any {r : Rules} (hr : Good r) (n : Nat) : Add2Ok r n := by
  induction n using Nat.strongRecOn with
  | _ n ih => exact add2_step hr n ih
end Go.Proofs.R07
end
section
/- Function 37 (Proof): walked. -/
namespace Go.Proofs.R07
open Go.Vc Go.RowKit Go.Proofs

/-- Claims in memory between two places. -/
structure ClsIn (lo hi : Nat) (w : World) (la : Option Addr) (L : List ClM) : Prop where
  row : Cells w la (L.flatMap clV)
  used : ∀ x ∈ L, Cells w x.2.1 (bools x.1.st.used)
  rb : ∀ n ∈ blk la, lo ≤ n ∧ n < hi
  ub : ∀ x ∈ L, ∀ n ∈ blk x.2.1, lo ≤ n ∧ n < hi
theorem ClsIn.chg {lo hi : Nat} {w w' : World} {la : Option Addr} {L : List ClM} {S : List Nat} (h : ClsIn lo hi w la L) (hc : Chg S w w') (hs : ∀ x ∈ S, x < lo ∨ hi ≤ x) : ClsIn lo hi w' la L :=
  ⟨cells_blk h.row hc fun n hn hm => by have := h.rb n hn; have := hs n hm; omega, fun x hx => cells_blk (h.used x hx) hc fun n hn hm => by have := h.ub x hx n hn; have := hs n hm; omega, h.rb, h.ub⟩
theorem ClsIn.below {lo hi : Nat} {w w' : World} {la : Option Addr} {L : List ClM} (h : ClsIn lo hi w la L) (hb : Below w.heap.size w w') : ClsIn lo hi w' la L := h.chg (S := []) (Chg.of_below hb) (by simp)
theorem ClsIn.at {lo hi : Nat} {w : World} {la : Option Addr} {L : List ClM} (h : ClsIn lo hi w la L) : ClsAt w la L := ⟨h.row, h.used⟩
def keyOf (s : St) : Key := ((s.lo, s.hi), setOf s.used)
/-- What Proof says: an error and no claims, or claims that were made. -/
def Proved (r : Rules) (s : St) (L : List ClM) (e : Int) : Prop :=
  (startErr r s ≠ 0 ∧ L = [] ∧ e = startErr r s) ∨ (startErr r s = 0 ∧ few r (setOf s.used) (s.lo, s.hi) = none ∧ L = [] ∧ e = 7) ∨
  (startErr r s = 0 ∧ e = 0 ∧ ∃ n K2, few r (setOf s.used) (s.lo, s.hi) = some n ∧ Added r n (keyOf s) [] [] K2 (plainL L))
def ProofPost (r : Rules) (s : St) (w : World) (e : Ending) (w' : World) : Prop := ∃ la lc, ∃ L : List ClM, ∃ er : Int, e = .returned (.tuple #[.slice la L.length lc, I er]) ∧ Below w.heap.size w w' ∧ ClsIn w.heap.size w'.heap.size w' la L ∧ Proved r s L er
theorem clsIn_nil {lo hi : Nat} {w : World} : ClsIn lo hi w none [] := ⟨Cells.nil, by simp, by simp [blk], by simp⟩
set_option maxRecDepth 100000 in
set_option maxHeartbeats 2000000 in
theorem proof_any (r : Rules) (s : St) {a b : Option Addr} {c d : Nat} {w : World} (hc : Cells w a (spans r.ws)) (hs : Cells w b (bools s.used)) : Calls Try.prog 37 #[r.v a c, s.v b d] w (ProofPost r s w) := by
  refine vc37 _ _ _ _ _ _ _ _ _ _ _ _ _ w _ fun m1 h1 m2 h2 w1 hb1 hk1 => ?_
  have s1 := hb1.size
  refine (start_any r s (c := c) (d := d) (hc.keep hb1)).mono fun e w2 he => ?_
  obtain ⟨sb, tm, rfl, b2, g1, g2, q1, q2⟩ := he
  have s2 := b2.size
  have o1 := hk1.own
  refine ⟨_, _, rfl, .all b2, fun h0 w3 hb3 hk3 => ⟨none, 0, [], _, rfl, hb3, clsIn_nil, .inl ⟨h0, rfl, rfl⟩⟩, fun h0 w4 hb4 hk4 => ?_⟩
  have s4 := hk4.size
  obtain ⟨hr, hsp, hul⟩ := okSt_of h0
  have h3 := hr.1
  have hu8 : setOf s.used < 8 := setOf_lt (by omega)
  have om : ∀ x ∈ [m2, m1], w.heap.size ≤ x ∧ x < w1.heap.size := fun x hx => ⟨by simp at hx; omega, o1 x hx⟩
  have nsb : ∀ {x}, x = sb ∨ x = tm → x ∉ [m2, m1] := fun {x} hx hm => by have := om x hm; omega
  have S4 : ShopAt r a c sb tm w4 := q1.chg (Chg.kept hk4) (nsb (.inl rfl))
  have T4 : w4.heap[tm]? = some (.map #[] 0) := (hk4.block tm (lt_of_some q2) (nsb (.inr rfl))).trans q2
  refine Pure.calls (newSet_any (hs.keep hb4) (by omega)) fun w5 b5 => ⟨_, rfl, .all b5, fun w6 hb6 hk6 => ?_⟩
  have s5 := b5.size
  have s6 := hk6.size
  have o6 := hk6.own
  have S6 : ShopAt r a c sb tm w6 := (S4.keep b5).chg (Chg.kept hk6) (nsb (.inl rfl))
  have T6 : w6.heap[tm]? = some (.map #[] 0) := (hk6.block tm (by have := lt_of_some T4; omega) (nsb (.inr rfl))).trans (heap_keep b5 T4)
  have I6 : Inv r a c sb tm [] [m2, m1] w6 := Inv.start S6 T6 hc hb6 (fun n hn => (om n hn).1) (nsb (.inl rfl)) (nsb (.inr rfl))
  refine (few_any hr hu8 I6 o6 hsp).mono fun e w7 he => ?_
  obtain ⟨rfl, c7, I7⟩ := he
  have s7 := c7.size
  refine ⟨_, _, rfl, c7.own (fun x hx => ⟨o6 x hx, fun hh => nsb (.inr (List.mem_singleton.1 hh)) hx⟩) (by simp) (fun _ => ⟨hb6.size, fun x hx => by rw [List.mem_singleton.1 hx]; omega⟩), fun ht w8 hb8 hk8 => ?_, fun ht w9 hb9 hk9 => ?_⟩
  · refine ⟨none, 0, [], 7, rfl, hb8, clsIn_nil, .inr (.inl ⟨h0, ?_, rfl, rfl⟩)⟩
    cases hf : few r (setOf s.used) (s.lo, s.hi) with
    | none => rfl
    | some n => rw [hf] at ht; cases ht
  cases hf : few r (setOf s.used) (s.lo, s.hi) with
  | none => rw [hf] at ht; cases ht
  | some n =>
  have I9 := I7.chg (Chg.kept hk9) fun x hx => hx
  have s9 := hk9.size
  have o9 := hk9.own
  refine ⟨_, _, run_makeMap 117 w9, w9.heap.size, rfl, .all ((Below.refl _ _).alloc (Nat.le_refl _) _), fun w11 hb11 hk11 m8 w12 e8 e12 w13 hb13 hk13 => ?_⟩
  have sA : (w9.alloc (.map #[] 0)).heap.size = w9.heap.size + 1 := alloc_size
  have s11 := hk11.size
  rw [sA] at s11
  subst e8
  have sB : w12.heap.size = w11.heap.size + 1 := by rw [e12]; exact alloc_size
  have s13 := hk13.size
  have o13 := hk13.own
  have M11 : w11.heap[w9.heap.size]? = some (.map #[] 0) := (hk11.block _ (by omega) (fun hm => by have := o9 _ hm; omega)).trans alloc_here
  have b12 : Below w11.heap.size w11 w12 := by rw [e12]; exact (Below.refl _ _).alloc (Nat.le_refl _) _
  have M13 : w13.heap[w9.heap.size]? = some (.map #[] 0) := (hk13.block _ (by omega) (fun hm => by have := o9 _ hm; omega)).trans (heap_keep b12 M11)
  have P13 : w13.heap[w11.heap.size]? = some (.cells #[.pointer (some ⟨sb, 0, none⟩), .slice none 0 0, .map (some w9.heap.size)] 119 (0, 0)) := by
    refine (hk13.block _ (by omega) (fun hm => by have := hk11.own _ hm; omega)).trans ?_
    rw [e12]; exact alloc_here
  have J9 : Inv r a c sb tm [] [w11.heap.size, w9.heap.size, m2, m1] w9 := I9.more fun x hx => by
    simp only [List.mem_cons, List.not_mem_nil, or_false] at hx ⊢
    omega
  have b10 : Below w9.heap.size w9 (w9.alloc (.map #[] 0)) := (Below.refl _ _).alloc (Nat.le_refl _) _
  have J13 := (((J9.below b10).chg (Chg.kept hk11) (by simp)).below b12).chg (Chg.kept hk13) (by simp)
  have hPI : PI r a c sb tm w11.heap.size w9.heap.size w.heap.size [] [] [] none 0 (none, 0, 0) [m2, m1] w13 :=
    ⟨by simpa [blk, ub] using J13, P13, ⟨#[], 0, M13, rfl⟩, Row.nil, by simp, by simp, ⟨by omega, by simp [blk], by simp [blk]⟩, by simp [ub], by simp [ub], fun x hx => ⟨by have := hk11.own x hx; omega, by have := o9 x hx; omega, by simp [blk], by simp [ub]⟩, ⟨by omega, by have := hb11.size; omega, by have := hb9.size; omega, by have := hb13.size; omega⟩, by simp [ub]⟩
  have gk : GoodKey r (keyOf s) := ⟨hsp, by
    have : setOf s.used < 2 ^ s.used.length := setTo_two
    rw [hul] at this
    exact this⟩
  refine (add2_any hr n a c sb tm _ _ w.heap.size (keyOf s) (keyOf s) [] [] [] none 0 [m2, m1] w13 gk hf (by simp) (fun x hx => by cases hx) (.inl rfl) (by simp) (fun x hx => by cases hx) hPI o13).mono fun e w14 he => ?_
  obtain ⟨rfl, K2, L2, U2, la2, lc2, c14, new14, P14, A14⟩ := he
  have s14 := c14.size
  refine ⟨rfl, c14.own (fun x hx => ⟨o13 x hx, ?_⟩) (by simp) (fun _ => ⟨hb13.size, fun x hx => ?_⟩), _, _, _, P14.cell (i := 1) rfl, .inr ?_, fun w15 hb15 hk15 => ?_⟩
  · simp only [blk, List.mem_cons, List.not_mem_nil, or_false, not_or]
    have := hk11.own x hx; have := o9 x hx
    exact ⟨fun e => nsb (.inr e) hx, by omega, by omega⟩
  · simp only [blk, List.mem_cons, List.not_mem_nil, or_false] at hx
    have := hb11.size; have := hb9.size
    omega
  · have := hk11.own m1 (by simp); have := hk11.own m2 (by simp); omega
  · have P15 := P14.chg (Chg.kept hk15) fun x hx => hx
    refine ⟨la2, lc2, L2, 0, rfl, hb15, ⟨by simpa using P15.row.cells, fun x hx => P15.used _ (P15.sub x (by simpa using hx)), fun n hn => ⟨P15.la_low n hn, P15.la_lt n hn⟩, fun x hx n hn => ?_⟩, .inr (.inr ⟨h0, rfl, n, K2, hf, by simpa [plainL] using A14⟩)⟩
    have hm : n ∈ ub U2 := List.mem_flatMap.2 ⟨_, P15.sub x (by simpa using hx), hn⟩
    exact ⟨P15.ulo n hm, P15.ul n hm⟩
end Go.Proofs.R07
end
section
/- RateProofs: the walk. -/
namespace Go.Proofs.R07
open Go.Vc Go.RowKit Go.Proofs

/-- The cells of one claim. -/
theorem cl_cells {l : List ClM} {la : Option Addr} {w : World} (hl : Cells w la (l.flatMap clV)) {x : Int} (h0 : 0 ≤ x) (hx : x < l.length) :
    ∃ (b o : Nat) (cl : ClM), la = some ⟨b, o, none⟩ ∧ l[x.toNat]? = some cl ∧ cl ∈ l ∧ b < w.heap.size ∧ ∀ {j : Nat} {v : Value} {k : Nat}, (clV cl)[j]? = some v → j < 6 → k = o + x.toNat * 6 + j → w.cell? ⟨b, k, none⟩ = some v := by
  have hix : x.toNat < l.length := by omega
  obtain ⟨b, o, e, d0⟩ := hl _ _ (cl_get (getElem_of_lt hix) (j := 0) (v := I l[x.toNat].1.st.lo) rfl (by omega))
  subst e
  refine ⟨b, o, l[x.toNat], rfl, getElem_of_lt hix, List.getElem_mem hix, cell_lt d0, fun hv hj hk => ?_⟩
  exact cell_at (Cells.at hl (cl_get (getElem_of_lt hix) hv hj)) (by omega)

def claimsErr (r : Rules) (l : List Cl) : Int := if 30000 < l.length then 5 else if l.all (okClB r) = false then 2 else 0

theorem refClaims_any (r : Rules) {a : Option Addr} {n : Nat} {w : World} {l : List ClM} {la : Option Addr} {lc : Nat} (hl : ClsAt w la l) :
    Calls Try.prog 29 #[r.v a n, .slice la l.length lc] w (Pure w (I (claimsErr r (l.map (·.1))))) := by
  have hlm : (l.map (·.1)).length = l.length := List.length_map _
  refine vc29 _ _ _ _ _ _ _ _ _ _ _ w _ fun m1 h1 => ⟨fun h w1 hb _ => ⟨?_, hb⟩, fun h => ?_⟩
  · unfold claimsErr; rw [if_pos (by rw [hlm]; omega)]
  have two : ∀ {w' : World}, (∃ x ∈ l, okClB r x.1 = false) → Below w.heap.size w w' → Pure w (I (claimsErr r (l.map (·.1)))) (.returned (I 2)) w' := fun {w'} ⟨x, hx, hf⟩ hb => ⟨(by
    unfold claimsErr
    rw [if_neg (by rw [hlm]; omega), if_pos]
    rw [Bool.eq_false_iff]
    intro h
    have := List.all_eq_true.1 h x.1 (List.mem_map_of_mem hx)
    rw [this] at hf
    cases hf), hb⟩
  refine ⟨fun ls _ => match ls with | [_, .int _ x] => 0 ≤ x ∧ x ≤ l.length ∧ ∀ (j : Nat) y, (j : Int) < x → l[j]? = some y → okClB r y.1 = true | _ => False, fun ls => match ls with | [_, .int _ x] => ((l.length : Int) - x).toNat | _ => 0, fun w2 hb _ => ⟨by omega, by omega, fun j y hj => by omega⟩, ?_⟩
  rintro x1 x w3 hb3 ⟨h0, hn, hj⟩
  refine ⟨fun hx => ?_, fun hx w10 hb10 _ => ⟨?_, hb10⟩⟩
  · obtain ⟨b, o, cl, rfl, hget, hmem, hlt, gj⟩ := cl_cells hl.row h0 hx
    refine ⟨b, o, rfl, ⟨h0, hx⟩, _, _, _, _, _, cell_keep hb3 (gj (j := 0) rfl (by omega) (by omega)), cell_keep hb3 (gj (j := 1) rfl (by omega) (by omega)), cell_keep hb3 (gj (j := 2) rfl (by omega) (by omega)), .inl hlt, fun w4 hb4 k4 => ?_⟩
    refine Pure.calls (refState_any r cl.1.st) fun w5 hb5 => ⟨_, rfl, .all hb5, fun hf w6 hb6 _ => two ⟨cl, hmem, ?_⟩ hb6, fun ht => ?_⟩
    · have : okSt r cl.1.st = false := by simpa using hf
      unfold okClB; rw [this]; rfl
    have hst : okSt r cl.1.st = true := by simpa using ht
    have hB5 : Below w.heap.size w w5 := hb4.trans (hb5.mono hb4.size)
    refine ⟨b, o, rfl, ⟨h0, hx⟩, _, cell_keep hB5 (gj (j := 3) rfl (by omega) (by omega)), .inl hlt, fun hv w7 hb7 _ => two ⟨cl, hmem, ?_⟩ hb7, fun hv => ⟨b, o, rfl, ⟨h0, hx⟩, _, cell_keep hB5 (gj (j := 3) rfl (by omega) (by omega)), .inl hlt, fun hv6 w8 hb8 _ => two ⟨cl, hmem, ?_⟩ hb8, fun hv6 => ⟨by omega, fun w9 hb9 _ => ⟨⟨by omega, by omega, fun j y hjx hy => ?_⟩, ?_⟩⟩⟩⟩
    · unfold okClB; rw [hst, decide_eq_false (by omega)]; rfl
    · unfold okClB; rw [hst, decide_eq_true hv, decide_eq_false (by omega)]; rfl
    · by_cases e : (j : Int) < x
      · exact hj j y e hy
      · obtain rfl : j = x.toNat := by omega
        rw [hget] at hy
        obtain rfl := Option.some.inj hy
        unfold okClB; rw [hst, decide_eq_true hv, decide_eq_true hv6]; rfl
    · show ((l.length : Int) - (x + 1)).toNat < ((l.length : Int) - x).toNat
      omega
  · have : (l.map (·.1)).all (okClB r) = true := List.all_eq_true.2 fun y hy => by
      obtain ⟨z, hz, rfl⟩ := List.mem_map.1 hy
      obtain ⟨j, hjl, rfl⟩ := List.mem_iff_getElem.1 hz
      exact hj j _ (by omega) (getElem_of_lt hjl)
    unfold claimsErr
    rw [if_neg (by rw [hlm]; omega), if_neg (by rw [this]; simp)]

theorem firstNot_at {r : Rules} {l : List Cl} {i : Nat} {c : Cl} (h : l[i]? = some c) (hf : followsR r l c = false) (hy : ∀ (j : Nat) y, j < i → l[j]? = some y → followsR r l y = true) : firstNot r l = i := by
  unfold firstNot
  have hfi : l.findIdx? (fun c => !followsR r l c) = some i := by
    rw [List.findIdx?_eq_some_iff_getElem]
    obtain ⟨hlt, hg⟩ := List.getElem?_eq_some_iff.1 h
    refine ⟨hlt, ?_, fun j hj => ?_⟩
    · rw [hg, hf]; rfl
    · rw [hy j _ hj (getElem_of_lt (by omega))]; simp
  rw [hfi]
theorem firstNot_none {r : Rules} {l : List Cl} (hy : ∀ y ∈ l, followsR r l y = true) : firstNot r l = -1 := by
  unfold firstNot
  have hfi : l.findIdx? (fun c => !followsR r l c) = none := by
    rw [List.findIdx?_eq_none_iff]
    intro c hc
    rw [hy c hc]; rfl
  rw [hfi]

theorem refProves_any {r : Rules} (hr : Good r) {a : Option Addr} {n : Nat} {w : World} (hc : Cells w a (spans r.ws)) {l : List ClM} {la : Option Addr} {lc : Nat} (hl : ClsAt w la l) (hlen : (l.length : Int) ≤ 1000000) (hok : ∀ x ∈ l, okCl r x.1) :
    Calls Try.prog 30 #[r.v a n, .slice la l.length lc] w (Pure w (I (firstNot r (l.map (·.1))))) := by
  have hokm : ∀ c ∈ l.map (·.1), okCl r c := fun c hc => by obtain ⟨z, hz, rfl⟩ := List.mem_map.1 hc; exact hok z hz
  refine vc30 _ _ _ _ _ _ _ _ _ _ _ w _ fun m1 h1 => ?_
  refine ⟨fun ls w' => match ls with | [_, .int _ x] => 0 ≤ x ∧ x ≤ l.length ∧ (∀ (j : Nat) y, (j : Int) < x → l[j]? = some y → followsR r (l.map (·.1)) y.1 = true) | _ => False, fun ls => match ls with | [_, .int _ x] => ((l.length : Int) - x).toNat | _ => 0, fun w2 hb _ => ⟨by omega, by omega, fun j y hj => by omega⟩, ?_⟩
  rintro x1 x w2 hb2 ⟨h0, hn, hj⟩
  refine ⟨fun hx => ?_, fun hx w7 hb7 _ => ⟨?_, hb7⟩⟩
  · obtain ⟨b, o, cl, rfl, hget, hmem, hlt, gj⟩ := cl_cells hl.row h0 hx
    refine ⟨b, o, rfl, ⟨h0, hx⟩, _, _, _, _, _, _, _, _, cell_keep hb2 (gj (j := 0) rfl (by omega) (by omega)), cell_keep hb2 (gj (j := 1) rfl (by omega) (by omega)), cell_keep hb2 (gj (j := 2) rfl (by omega) (by omega)), cell_keep hb2 (gj (j := 3) rfl (by omega) (by omega)), cell_keep hb2 (gj (j := 4) rfl (by omega) (by omega)), cell_keep hb2 (gj (j := 5) rfl (by omega) (by omega)), .inl hlt, fun w3 hb3 k3 => ?_⟩
    have hgm : (l.map (·.1))[x.toNat]? = some cl.1 := by rw [List.getElem?_map, hget]; rfl
    refine Pure.calls (refFollows_any hr (hc.keep hb3) (hl.keep hb3) hlen hok (hok cl hmem) ((hl.used cl hmem).keep hb3)) fun w4 hb4 => ?_
    rw [follows_eq hr hokm (hok cl hmem)]
    refine ⟨_, rfl, .all hb4, fun hf w5 hb5 _ => ⟨?_, hb5⟩, fun ht => ⟨by omega, fun w6 hb6 _ => ⟨⟨by omega, by omega, fun j y hjx hy => ?_⟩, ?_⟩⟩⟩
    · rw [firstNot_at hgm (by simpa using hf) fun j y hjx hy => ?_]
      · rw [show ((x.toNat : Nat) : Int) = x by omega]
      · rw [List.getElem?_map] at hy
        obtain ⟨z, hz, rfl⟩ := Option.map_eq_some_iff.1 hy
        exact hj j z (by omega) hz
    · by_cases e : (j : Int) < x
      · exact hj j y e hy
      · obtain rfl : j = x.toNat := by omega
        rw [hget] at hy
        obtain rfl := Option.some.inj hy
        simpa using ht
    · show ((l.length : Int) - (x + 1)).toNat < ((l.length : Int) - x).toNat
      omega
  · rw [firstNot_none]
    intro y hy
    obtain ⟨z, hz, rfl⟩ := List.mem_map.1 hy
    obtain ⟨j, hjl, rfl⟩ := List.mem_iff_getElem.1 hz
    exact hj j _ (by omega) (getElem_of_lt hjl)

theorem proves_split (r : Rules) (l : List Cl) (hok : check r = 0) : provesR r l = if claimsErr r l ≠ 0 then (0, claimsErr r l) else (firstNot r l, 0) := by
  unfold provesR claimsErr
  rw [if_neg (by omega)]
  by_cases h1 : 30000 < l.length
  · rw [if_pos h1, if_pos h1]; rfl
  · rw [if_neg h1, if_neg h1]
    by_cases h2 : l.all (okClB r) = false
    · rw [if_pos h2, if_pos h2]; rfl
    · rw [if_neg h2, if_neg h2]; rfl

end Go.Proofs.R07
end
section
/- The conditions of the functions, printed by program; each is what the generator reckons (kernel_rfl). -/
namespace Go.Proofs
open Go.Vc
set_option maxRecDepth 100000 in
set_option maxHeartbeats 2000000 in
theorem vc9 (r0 : Int) (r1 : Int) (r2 : Int) (r3 : Int) (r4 : Int) (r5a : Option Addr) (r5n : Nat) (r5c : Nat) (s0 : Int) (s1 : Int) (s2a : Option Addr) (s2n : Nat) (s2c : Nat) (w
    : World) (R : Ending → World → Prop) (h : ∀ (m1 : Nat), w.heap.size ≤ m1 → ∀ (m2 : Nat), w.heap.size ≤ m2 → ∀ (w1 : World), RowKit.Below w.heap.size w w1 → Kept [m2, m1] w w1 →
    Calls Try.prog 11 #[Value.agg #[Value.int IntKind.i64 r0, Value.int IntKind.i64 r1, Value.int IntKind.i64 r2, Value.int IntKind.i64 r3, Value.int IntKind.i64 r4, Value.slice
    r5a r5n r5c], Value.agg #[Value.int IntKind.i64 s0, Value.int IntKind.i64 s1, Value.slice s2a s2n s2c]] w1 fun (e1 : Ending) (w2 : World) => ∃ (t1 : Bool), e1 = Ending.returned
    (Value.bool t1) ∧ KeepX true w.heap.size [m2, m1] (fun _ => False) w1 w2 ∧ (t1 = true → ∀ (w3 : World), RowKit.Below w.heap.size w w3 → Kept [m2, m1] w2 w3 → Calls Try.prog 12
    #[] w3 fun (e2 : Ending) (w4 : World) => ∃ (t2 : Bool), e2 = Ending.returned (Value.bool t2) ∧ KeepX true w.heap.size [m2, m1] (fun _ => False) w3 w4 ∧ ∀ (w5 : World),
    RowKit.Below w.heap.size w w5 → Kept [m2, m1] w4 w5 → R (Ending.returned (Value.bool t2)) w5) ∧ (t1 = false → ∀ (w6 : World), RowKit.Below w.heap.size w w6 → Kept [m2, m1] w2
    w6 → Calls Try.prog 23 #[Value.agg #[Value.int IntKind.i64 r0, Value.int IntKind.i64 r1, Value.int IntKind.i64 r2, Value.int IntKind.i64 r3, Value.int IntKind.i64 r4,
    Value.slice r5a r5n r5c], Value.agg #[Value.int IntKind.i64 s0, Value.int IntKind.i64 s1, Value.slice s2a s2n s2c]] w6 fun (e3 : Ending) (w7 : World) => ∃ (t3 : Bool), e3 =
    Ending.returned (Value.bool t3) ∧ KeepX true w.heap.size [m2, m1] (fun _ => False) w6 w7 ∧ (t3 = true → ∀ (w8 : World), RowKit.Below w.heap.size w w8 → Kept [m2, m1] w7 w8 →
    Calls Try.prog 12 #[] w8 fun (e4 : Ending) (w9 : World) => ∃ (t4 : Bool), e4 = Ending.returned (Value.bool t4) ∧ KeepX true w.heap.size [m2, m1] (fun _ => False) w8 w9 ∧ ∀ (w10
    : World), RowKit.Below w.heap.size w w10 → Kept [m2, m1] w9 w10 → R (Ending.returned (Value.bool t4)) w10) ∧ (t3 = false → ∀ (w11 : World), RowKit.Below w.heap.size w w11 →
    KeptIn [(0, w7.heap.size)] [m2, m1] w7 w11 → Calls Try.prog 13 #[Value.agg #[Value.int IntKind.i64 r0, Value.int IntKind.i64 r1, Value.int IntKind.i64 r2, Value.int IntKind.i64
    r3, Value.int IntKind.i64 r4, Value.slice r5a r5n r5c]] w11 fun (e5 : Ending) (w12 : World) => ∃ (x1 : Int), ∃ (x2 : Int), ∃ (x3 : Int), ∃ (x4 : Int), ∃ (x5 : Int), ∃ (a1 :
    Option Addr), ∃ (m7 : Nat), ∃ (m8 : Nat), e5 = Ending.returned (Value.agg #[Value.int IntKind.i64 x1, Value.int IntKind.i64 x2, Value.int IntKind.i64 x3, Value.int IntKind.i64
    x4, Value.int IntKind.i64 x5, Value.slice a1 m7 m8]) ∧ KeepX true w.heap.size [m2, m1] (fun _ => False) w11 w12 ∧ ∀ (w13 : World), RowKit.Below w.heap.size w w13 → KeptIn [(0,
    w12.heap.size)] [m2, m1] w12 w13 → Calls Try.prog 14 #[Value.agg #[Value.int IntKind.i64 s0, Value.int IntKind.i64 s1, Value.slice s2a s2n s2c]] w13 fun (e6 : Ending) (w14 :
    World) => ∃ (x6 : Int), ∃ (x7 : Int), ∃ (a2 : Option Addr), ∃ (m10 : Nat), ∃ (m11 : Nat), e6 = Ending.returned (Value.agg #[Value.int IntKind.i64 x6, Value.int IntKind.i64 x7,
    Value.slice a2 m10 m11]) ∧ KeepX true w.heap.size [m2, m1] (fun _ => False) w13 w14 ∧ ∀ (w15 : World), RowKit.Below w.heap.size w w15 → KeptIn [(0, w14.heap.size)] [m2, m1] w14
    w15 → Calls Try.prog 37 #[Value.agg #[Value.int IntKind.i64 x1, Value.int IntKind.i64 x2, Value.int IntKind.i64 x3, Value.int IntKind.i64 x4, Value.int IntKind.i64 x5,
    Value.slice a1 m7 m8], Value.agg #[Value.int IntKind.i64 x6, Value.int IntKind.i64 x7, Value.slice a2 m10 m11]] w15 fun (e7 : Ending) (w16 : World) => ∃ (a3 : Option Addr), ∃
    (m13 : Nat), ∃ (m14 : Nat), ∃ (x8 : Int), e7 = Ending.returned (Value.tuple #[Value.slice a3 m13 m14, Value.int IntKind.i64 x8]) ∧ KeepX true w.heap.size [m2, m1] (fun _ =>
    False) w15 w16 ∧ ∀ (w17 : World), RowKit.Below w.heap.size w w17 → KeptIn [(0, w16.heap.size)] [m2, m1] w16 w17 → Calls Try.prog 13 #[Value.agg #[Value.int IntKind.i64 r0,
    Value.int IntKind.i64 r1, Value.int IntKind.i64 r2, Value.int IntKind.i64 r3, Value.int IntKind.i64 r4, Value.slice r5a r5n r5c]] w17 fun (e8 : Ending) (w18 : World) => ∃ (x9 :
    Int), ∃ (x10 : Int), ∃ (x11 : Int), ∃ (x12 : Int), ∃ (x13 : Int), ∃ (a4 : Option Addr), ∃ (m16 : Nat), ∃ (m17 : Nat), e8 = Ending.returned (Value.agg #[Value.int IntKind.i64
    x9, Value.int IntKind.i64 x10, Value.int IntKind.i64 x11, Value.int IntKind.i64 x12, Value.int IntKind.i64 x13, Value.slice a4 m16 m17]) ∧ KeepX true w.heap.size [m2, m1] (fun
    _ => False) w17 w18 ∧ ∀ (w19 : World), RowKit.Below w.heap.size w w19 → KeptIn [(0, w18.heap.size)] [m2, m1] w18 w19 → Calls Try.prog 14 #[Value.agg #[Value.int IntKind.i64 s0,
    Value.int IntKind.i64 s1, Value.slice s2a s2n s2c]] w19 fun (e9 : Ending) (w20 : World) => ∃ (x14 : Int), ∃ (x15 : Int), ∃ (a5 : Option Addr), ∃ (m19 : Nat), ∃ (m20 : Nat), e9
    = Ending.returned (Value.agg #[Value.int IntKind.i64 x14, Value.int IntKind.i64 x15, Value.slice a5 m19 m20]) ∧ KeepX true w.heap.size [m2, m1] (fun _ => False) w19 w20 ∧ ∀
    (w21 : World), RowKit.Below w.heap.size w w21 → KeptIn [(0, w20.heap.size)] [m2, m1] w20 w21 → Calls Try.prog 24 #[Value.agg #[Value.int IntKind.i64 x9, Value.int IntKind.i64
    x10, Value.int IntKind.i64 x11, Value.int IntKind.i64 x12, Value.int IntKind.i64 x13, Value.slice a4 m16 m17], Value.agg #[Value.int IntKind.i64 x14, Value.int IntKind.i64 x15,
    Value.slice a5 m19 m20]] w21 fun (e10 : Ending) (w22 : World) => ∃ (x16 : Int), ∃ (x17 : Int), e10 = Ending.returned (Value.tuple #[Value.int IntKind.i64 x16, Value.int
    IntKind.i64 x17]) ∧ KeepX true w.heap.size [m2, m1] (fun _ => False) w21 w22 ∧ (x8 ≠ x17 → ∀ (w23 : World), RowKit.Below w.heap.size w w23 → Kept [m2, m1] w22 w23 → R
    (Ending.returned (Value.bool false)) w23) ∧ (x8 = x17 → (x8 ≠ 0 → ((↑m13 : Int) = 0 → ∀ (w24 : World), RowKit.Below w.heap.size w w24 → Kept [m2, m1] w22 w24 → Calls Try.prog
    12 #[] w24 fun (e11 : Ending) (w25 : World) => ∃ (t5 : Bool), e11 = Ending.returned (Value.bool t5) ∧ KeepX true w.heap.size [m2, m1] (fun _ => False) w24 w25 ∧ ∀ (w26 :
    World), RowKit.Below w.heap.size w w26 → Kept [m2, m1] w25 w26 → R (Ending.returned (Value.bool t5)) w26) ∧ ((↑m13 : Int) ≠ 0 → ∀ (w27 : World), RowKit.Below w.heap.size w w27
    → Kept [m2, m1] w22 w27 → R (Ending.returned (Value.bool false)) w27)) ∧ (x8 = 0 → ((↑m13 : Int) < 1 → ∀ (w28 : World), RowKit.Below w.heap.size w w28 → Kept [m2, m1] w22 w28 →
    R (Ending.returned (Value.bool false)) w28) ∧ (1 ≤ (↑m13 : Int) → (30000 < (↑m13 : Int) → ∀ (w29 : World), RowKit.Below w.heap.size w w29 → Kept [m2, m1] w22 w29 → R
    (Ending.returned (Value.bool false)) w29) ∧ ((↑m13 : Int) ≤ 30000 → ∃ (m24 : Nat), ∃ (m25 : Nat), a3 = some { block := m24, off := m25 } ∧ ((0 : Int) ≤ 0 ∧ 0 < (↑m13 : Int)) ∧
    ∃ (x18 : Int), ∃ (x19 : Int), ∃ (a6 : Option Addr), ∃ (m26 : Nat), ∃ (m27 : Nat), w22.cell? { block := m24, off := m25 + Int.toNat 0 * 6 + 0 } = some (Value.int IntKind.i64
    x18) ∧ w22.cell? { block := m24, off := m25 + Int.toNat 0 * 6 + 0 + 1 } = some (Value.int IntKind.i64 x19) ∧ w22.cell?
    { block := m24, off := m25 + Int.toNat 0 * 6 + 0 + 1 + 1 } = some (Value.slice a6 m26 m27) ∧ (m24 < w.heap.size ∨ m24 ≠ m2 ∧ m24 ≠ m1) ∧ ∀ (w30 : World), RowKit.Below
    w.heap.size w w30 → KeptIn [(0, w22.heap.size)] [m2, m1] w22 w30 → Calls Try.prog 19 #[Value.agg #[Value.int IntKind.i64 x18, Value.int IntKind.i64 x19, Value.slice a6 m26
    m27], Value.agg #[Value.int IntKind.i64 s0, Value.int IntKind.i64 s1, Value.slice s2a s2n s2c]] w30 fun (e12 : Ending) (w31 : World) => ∃ (t6 : Bool), e12 = Ending.returned
    (Value.bool t6) ∧ KeepX true w.heap.size [m2, m1] (fun _ => False) w30 w31 ∧ ((!t6) = true → ∀ (w32 : World), RowKit.Below w.heap.size w w32 → Kept [m2, m1] w31 w32 → R
    (Ending.returned (Value.bool false)) w32) ∧ ((!t6) = false → ∃ (m29 : Nat), ∃ (m30 : Nat), a3 = some { block := m29, off := m30 } ∧ ((0 : Int) ≤ 0 ∧ 0 < (↑m13 : Int)) ∧ ∃ (x20
    : Int), w31.cell? { block := m29, off := m30 + Int.toNat 0 * 6 + 3 } = some (Value.int IntKind.i64 x20) ∧ (m29 < w.heap.size ∨ m29 ≠ m2 ∧ m29 ≠ m1) ∧ (x20 ≠ x16 → ∀ (w33 :
    World), RowKit.Below w.heap.size w w33 → Kept [m2, m1] w31 w33 → R (Ending.returned (Value.bool false)) w33) ∧ (x20 = x16 → ∀ (w34 : World), RowKit.Below w.heap.size w w34 →
    KeptIn [(0, w31.heap.size)] [m2, m1] w31 w34 → Calls Try.prog 29 #[Value.agg #[Value.int IntKind.i64 r0, Value.int IntKind.i64 r1, Value.int IntKind.i64 r2, Value.int
    IntKind.i64 r3, Value.int IntKind.i64 r4, Value.slice r5a r5n r5c], Value.slice a3 m13 m14] w34 fun (e13 : Ending) (w35 : World) => ∃ (x21 : Int), e13 = Ending.returned
    (Value.int IntKind.i64 x21) ∧ KeepX true w.heap.size [m2, m1] (fun _ => False) w34 w35 ∧ (x21 ≠ 0 → ∀ (w36 : World), RowKit.Below w.heap.size w w36 → Kept [m2, m1] w35 w36 → R
    (Ending.returned (Value.bool false)) w36) ∧ (x21 = 0 → ∀ (w37 : World), RowKit.Below w.heap.size w w37 → Kept [m2, m1] w35 w37 → Calls Try.prog 13 #[Value.agg #[Value.int
    IntKind.i64 r0, Value.int IntKind.i64 r1, Value.int IntKind.i64 r2, Value.int IntKind.i64 r3, Value.int IntKind.i64 r4, Value.slice r5a r5n r5c]] w37 fun (e14 : Ending) (w38 :
    World) => ∃ (x22 : Int), ∃ (x23 : Int), ∃ (x24 : Int), ∃ (x25 : Int), ∃ (x26 : Int), ∃ (a7 : Option Addr), ∃ (m32 : Nat), ∃ (m33 : Nat), e14 = Ending.returned (Value.agg
    #[Value.int IntKind.i64 x22, Value.int IntKind.i64 x23, Value.int IntKind.i64 x24, Value.int IntKind.i64 x25, Value.int IntKind.i64 x26, Value.slice a7 m32 m33]) ∧ KeepX true
    w.heap.size [m2, m1] (fun _ => False) w37 w38 ∧ ∀ (w39 : World), RowKit.Below w.heap.size w w39 → Kept [m2, m1] w38 w39 → Calls Try.prog 27 #[Value.slice a3 m13 m14] w39 fun
    (e15 : Ending) (w40 : World) => ∃ (a8 : Option Addr), ∃ (m35 : Nat), ∃ (m36 : Nat), e15 = Ending.returned (Value.slice a8 m35 m36) ∧ KeepX true w.heap.size [m2, m1] (fun _ =>
    False) w39 w40 ∧ ∀ (w41 : World), RowKit.Below w.heap.size w w41 → Kept [m2, m1] w40 w41 → Calls Try.prog 28 #[Value.agg #[Value.int IntKind.i64 x22, Value.int IntKind.i64 x23,
    Value.int IntKind.i64 x24, Value.int IntKind.i64 x25, Value.int IntKind.i64 x26, Value.slice a7 m32 m33], Value.slice a8 m35 m36] w41 fun (e16 : Ending) (w42 : World) => ∃ (x27
    : Int), ∃ (x28 : Int), e16 = Ending.returned (Value.tuple #[Value.int IntKind.i64 x27, Value.int IntKind.i64 x28]) ∧ KeepX true w.heap.size [m2, m1] (fun _ => False) w41 w42 ∧
    (x28 = 0 → (x27 = -1 → (200 < (↑m13 : Int) → ∀ (w43 : World), RowKit.Below w.heap.size w w43 → Kept [m2, m1] w42 w43 → Calls Try.prog 12 #[] w43 fun (e17 : Ending) (w44 :
    World) => ∃ (t7 : Bool), e17 = Ending.returned (Value.bool t7) ∧ KeepX true w.heap.size [m2, m1] (fun _ => False) w43 w44 ∧ ∀ (w45 : World), RowKit.Below w.heap.size w w45 →
    Kept [m2, m1] w44 w45 → R (Ending.returned (Value.bool t7)) w45) ∧ ((↑m13 : Int) ≤ 200 → ∀ (w46 : World), RowKit.Below w.heap.size w w46 → Kept [m2, m1] w42 w46 → Calls
    Try.prog 30 #[Value.agg #[Value.int IntKind.i64 r0, Value.int IntKind.i64 r1, Value.int IntKind.i64 r2, Value.int IntKind.i64 r3, Value.int IntKind.i64 r4, Value.slice r5a r5n
    r5c], Value.slice a3 m13 m14] w46 fun (e18 : Ending) (w47 : World) => ∃ (x29 : Int), e18 = Ending.returned (Value.int IntKind.i64 x29) ∧ KeepX true w.heap.size [m2, m1] (fun _
    => False) w46 w47 ∧ (x29 = -1 → ∀ (w48 : World), RowKit.Below w.heap.size w w48 → Kept [m2, m1] w47 w48 → Calls Try.prog 12 #[] w48 fun (e19 : Ending) (w49 : World) => ∃ (t8 :
    Bool), e19 = Ending.returned (Value.bool t8) ∧ KeepX true w.heap.size [m2, m1] (fun _ => False) w48 w49 ∧ ∀ (w50 : World), RowKit.Below w.heap.size w w50 → Kept [m2, m1] w49
    w50 → R (Ending.returned (Value.bool t8)) w50) ∧ (x29 ≠ -1 → ∀ (w51 : World), RowKit.Below w.heap.size w w51 → Kept [m2, m1] w47 w51 → R (Ending.returned (Value.bool false))
    w51))) ∧ (x27 ≠ -1 → ∀ (w52 : World), RowKit.Below w.heap.size w w52 → Kept [m2, m1] w42 w52 → R (Ending.returned (Value.bool false)) w52)) ∧ (x28 ≠ 0 → ∀ (w53 : World),
    RowKit.Below w.heap.size w w53 → Kept [m2, m1] w42 w53 → R (Ending.returned (Value.bool false)) w53))))))))))) : Calls Try.prog 9 #[Value.agg #[Value.int IntKind.i64 r0,
    Value.int IntKind.i64 r1, Value.int IntKind.i64 r2, Value.int IntKind.i64 r3, Value.int IntKind.i64 r4, Value.slice r5a r5n r5c], Value.agg #[Value.int IntKind.i64 s0,
    Value.int IntKind.i64 s1, Value.slice s2a s2n s2c]] w R := calls_of_vc (pure := true) (wrapAt := []) (muts := []) (esc := []) (args := [SV.pv (PV.agg [Lf.int IntKind.i64 r0,
    Lf.int IntKind.i64 r1, Lf.int IntKind.i64 r2, Lf.int IntKind.i64 r3, Lf.int IntKind.i64 r4, Lf.sl r5a r5n r5c]), SV.pv (PV.agg [Lf.int IntKind.i64 s0, Lf.int IntKind.i64 s1,
    Lf.sl s2a s2n s2c])]) (vs := [Value.agg #[Value.int IntKind.i64 r0, Value.int IntKind.i64 r1, Value.int IntKind.i64 r2, Value.int IntKind.i64 r3, Value.int IntKind.i64 r4,
    Value.slice r5a r5n r5c], Value.agg #[Value.int IntKind.i64 s0, Value.int IntKind.i64 s1, Value.slice s2a s2n s2c]]) Try.func9 rfl rfl rfl (Eq.mp (by kernel_rfl) h) 
end Go.Proofs
end
section
/- RateProves: the walk. -/
namespace Go.Proofs.R07
open Go.Vc Go.RowKit Go.Proofs

theorem fewestR_err {r : Rules} {s : St} (h : startErr r s ≠ 0) : fewestR r s = (0, startErr r s) := by unfold fewestR; rw [if_pos h]
/-- What is known of the claims that were made. -/
structure ProofIs (r : Rules) (s : St) (n : Nat) (L : List ClM) : Prop where
  head : ∃ (x : ClM) (T : List ClM), L = x :: T ∧ x.1.st = s ∧ x.1.visits = n
  few : L.length ≤ 30000
  ok : ∀ x ∈ L, okCl r x.1
  sat : ∀ x ∈ L, Sat r (plainL L) x.1
theorem proofIs {r : Rules} (hr : Good r) {s : St} (hl : s.used.length = r.ws.length) {n : Nat} {K2 : List Key} {L : List ClM} (h : Added r n (keyOf s) [] [] K2 (plainL L)) : ProofIs r s n L := by
  have hf := added_few hr h
  obtain ⟨G, _, _, hh⟩ := h
  obtain ⟨c, hc, a, rfl⟩ := hh (by simp)
  have hok : ∀ x ∈ L, okCl r x.1 ∧ Sat r (plainL L) x.1 := fun x hx => by
    have := G.ok x.1 (List.mem_map.2 ⟨x, hx, rfl⟩)
    simpa using this
  refine ⟨?_, by simpa [plainL] using hf, fun x hx => (hok x hx).1, fun x hx => (hok x hx).2⟩
  cases L with
  | nil => simp [plainL] at hc
  | cons x T =>
    simp only [plainL, List.map_cons, List.head?_cons, Option.some.injEq] at hc
    refine ⟨x, T, rfl, ?_, by rw [hc]; rfl⟩
    rw [hc]
    obtain ⟨lo, hi, us⟩ := s
    simp only [clOf, keyOf, St.mk.injEq, true_and]
    exact usedL_setOf hl
theorem ProofIs.noErr {r : Rules} {s : St} {n : Nat} {L : List ClM} (h : ProofIs r s n L) : claimsErr r (plainL L) = 0 := by
  unfold claimsErr
  have : (plainL L).all (okClB r) = true := List.all_eq_true.2 fun y hy => by
    obtain ⟨z, hz, rfl⟩ := List.mem_map.1 hy
    exact okClB_iff.2 (h.ok z hz)
  rw [if_neg (by have := h.few; simp only [plainL, List.length_map]; omega), if_neg (by rw [this]; simp)]
theorem ProofIs.all {r : Rules} (hr : Good r) {s : St} {n : Nat} {L : List ClM} (h : ProofIs r s n L) : firstNot r (plainL L) = -1 := firstNot_none fun y hy => by
  have hok : ∀ c ∈ plainL L, okCl r c := fun c hc => by obtain ⟨z, hz, rfl⟩ := List.mem_map.1 hc; exact h.ok z hz
  obtain ⟨z, hz, rfl⟩ := List.mem_map.1 hy
  exact (sat_iff hr hok (h.ok z hz)).2 (h.sat z hz)

set_option maxRecDepth 100000 in
set_option maxHeartbeats 4000000 in
theorem rateProves_any (r : Rules) (s : St) {a b : Option Addr} {n d : Nat} {w : World} (hc : Cells w a (spans r.ws)) (hs : Cells w b (bools s.used)) : Calls Try.prog 9 #[r.v a n, s.v b d] w (Pure w (.bool true)) := by
  refine vc9 _ _ _ _ _ _ _ _ _ _ _ _ _ w _ fun m1 g1 m2 g2 w1 B1 k1 => ?_
  refine Pure.calls (long_any r s) fun w2 b2 => ⟨_, rfl, .all b2, fun _ w3 B3 k3 => known_tail, fun hl w6 B6 k6 => ?_⟩
  refine (heavy_any r s (hc.keep B6)).mono fun e w7 he => ?_
  obtain ⟨t, rfl, b7⟩ := he
  refine ⟨t, rfl, .all b7, fun _ w8 B8 k8 => known_tail, fun _ w11 B11 k11 => ?_⟩
  have hl' : r.ws.length ≤ 10 ∧ s.used.length ≤ 10 := by
    unfold longR at hl
    simp only [Bool.or_eq_false_iff, decide_eq_false_iff_not] at hl
    omega
  have own : ∀ {w' : World}, w11.heap.size ≤ w'.heap.size → ∀ x ∈ [m2, m1], x < w'.heap.size := fun h x hx => Nat.lt_of_lt_of_le (k11.own x hx) h
  refine (copied_any r (hc.keep B11) (by omega)).mono fun e w12 he => ?_
  obtain ⟨a1, c1, rfl, b12, A12, _, N12⟩ := he
  refine ⟨_, _, _, _, _, a1, _, c1, rfl, .all b12, fun w13 B13 k13 => ?_⟩
  have P13 := (Lies.new A12 N12 k11.own).chg k13.chg
  refine (state_any s (hs.keep B13) (by omega)).mono fun e w14 he => ?_
  obtain ⟨a2, c2, rfl, b14, D14, _, N14⟩ := he
  refine ⟨_, _, a2, _, c2, rfl, .all b14, fun w15 B15 k15 => ?_⟩
  have Q15 := (Lies.new D14 N14 k13.own).chg k15.chg
  have P15 := (P13.below b14).chg k15.chg
  refine (proof_any r s P15.cells Q15.cells).mono fun e w16 he => ?_
  obtain ⟨la, lc, L, er, rfl, b16, H16, hPr⟩ := he
  have z12 := b12.size; have z13 := k13.size; have z14 := b14.size; have z15 := k15.size; have z16 := b16.size
  have out : ∀ x ∈ [m2, m1], x < w15.heap.size ∨ w16.heap.size ≤ x := fun x hx => .inl (own (by omega) x hx)
  refine ⟨la, _, lc, er, rfl, .all b16, fun w17 B17 k17 => ?_⟩
  have H17 := H16.chg k17.chg out
  refine (copied_any r (hc.keep B17) (by omega)).mono fun e w18 he => ?_
  obtain ⟨a4, c4, rfl, b18, A18, _, N18⟩ := he
  refine ⟨_, _, _, _, _, a4, _, c4, rfl, .all b18, fun w19 B19 k19 => ?_⟩
  have P19 := (Lies.new A18 N18 k17.own).chg k19.chg
  have H19 := (H17.below b18).chg k19.chg out
  refine (state_any s (hs.keep B19) (by omega)).mono fun e w20 he => ?_
  obtain ⟨a5, c5, rfl, b20, D20, _, N20⟩ := he
  refine ⟨_, _, a5, _, c5, rfl, .all b20, fun w21 B21 k21 => ?_⟩
  have Q21 := (Lies.new D20 N20 k19.own).chg k21.chg
  have P21 := (P19.below b20).chg k21.chg
  have H21 := (H19.below b20).chg k21.chg out
  refine Pure.calls (fewest_any r s P21.cells Q21.cells) fun w22 b22 => ⟨_, _, rfl, .all b22, ?_⟩
  have H22 := H21.below b22
  rcases hPr with ⟨he, rfl, rfl⟩ | ⟨he, hf, rfl, rfl⟩ | ⟨he, rfl, q, K2, hf, hA⟩
  · rw [fewestR_err he]
    exact ⟨fun h => absurd rfl h, fun _ => ⟨fun _ => ⟨fun _ w24 B24 k24 => known_tail, fun h => absurd rfl h⟩, fun h => absurd h he⟩⟩
  · rw [fewestR_none he hf]
    exact ⟨fun h => absurd rfl h, fun _ => ⟨fun _ => ⟨fun _ w24 B24 k24 => known_tail, fun h => absurd rfl h⟩, fun h => absurd h (by decide)⟩⟩
  obtain ⟨hr, hsp, hul⟩ := okSt_of he
  have hP := proofIs hr hul hA
  rw [fewestR_some he hf]
  have hfew := hP.few
  have hchk := check_good hr
  obtain ⟨x, T, hL, hx1, hx2⟩ := hP.head
  have hpos : 0 < L.length := by rw [hL]; simp
  refine ⟨fun h => absurd rfl h, fun _ => ⟨fun h => absurd rfl h, fun _ => ⟨fun h => by omega, fun _ => ⟨fun h => by omega, fun _ => ?_⟩⟩⟩⟩
  obtain ⟨bb, o, cl, hla, hget, hmem, hlt, gj⟩ := cl_cells H22.row (x := 0) (by omega) (by omega)
  have hcl : cl = x := by
    rw [hL] at hget
    simpa using hget.symm
  subst hcl
  have hbb : bb < w.heap.size ∨ bb ≠ m2 ∧ bb ≠ m1 := by
    have h1 := H22.rb bb (mem_blk hla)
    have h2 := out m1 (by simp); have h3 := out m2 (by simp)
    exact .inr ⟨by omega, by omega⟩
  refine ⟨bb, o, hla, ⟨by omega, by omega⟩, _, _, _, _, _, gj (j := 0) rfl (by omega) (by simp), gj (j := 1) rfl (by omega) (by simp), gj (j := 2) rfl (by omega) (by simp), hbb, fun w30 B30 k30 => ?_⟩
  have H30 := H22.chg k30.chg out
  have hu10 : cl.1.st.used.length ≤ 10 := by rw [hx1]; omega
  refine Pure.calls (same_any cl.1.st s (H30.used _ hmem) (hs.keep B30) (by omega)) fun w31 b31 => ⟨_, rfl, .all b31, fun h => by rw [hx1] at h; simp at h, fun _ => ?_⟩
  have H31 := H30.below b31
  obtain ⟨bb', o', cl', hla', hget', hmem', hlt', gj'⟩ := cl_cells H31.row (x := 0) (by omega) (by omega)
  rw [hget] at hget'
  obtain rfl := Option.some.inj hget'
  rw [hla] at hla'
  simp only [Option.some.injEq, Addr.mk.injEq, and_true] at hla'
  obtain ⟨rfl, rfl⟩ := hla'
  refine ⟨bb, o, hla, ⟨by omega, by omega⟩, _, gj' (j := 3) rfl (by omega) (by simp), hbb, fun h => absurd hx2 h, fun _ w34 B34 k34 => ?_⟩
  have H34 := H31.chg k34.chg out
  have hce := hP.noErr
  have hlm : (plainL L).length = L.length := by simp [plainL]
  refine Pure.calls (refClaims_any r H34.at) fun w35 b35 => ⟨_, rfl, .all b35, fun h => absurd hce h, fun _ w37 B37 k37 => ?_⟩
  have H37 := (H34.below b35).chg (Chg.kept k37) out
  refine (copied_any r (hc.keep B37) (by omega)).mono fun e w38 he' => ?_
  obtain ⟨a7, c7, rfl, b38, A38, _, N38⟩ := he'
  refine ⟨_, _, _, _, _, a7, _, c7, rfl, .all b38, fun w39 B39 k39 => ?_⟩
  have P39 := (Lies.new A38 N38 k37.own).chg (Chg.kept k39)
  have H39 := (H37.below b38).chg (Chg.kept k39) out
  refine (claims_any H39.at (by omega) (fun y hy => by have := (okCl_facts hr (hP.ok y hy)).2; omega)).mono fun e w40 he' => ?_
  obtain ⟨a8, c8, l', rfl, b40, hl2, A40, R40, U40⟩ := he'
  refine ⟨a8, _, c8, rfl, .all b40, fun w41 B41 k41 => ?_⟩
  have o39 := k39.own
  have A41 := R40.cells A40 (Chg.kept k41) (fun x hx => .inl (o39 x hx))
  have U41 := U40.chg (Chg.kept k41) fun nn hnn hm => by have := (U40.ub hnn).1; have := o39 nn hm; omega
  have H41 := (H39.below b40).chg (Chg.kept k41) out
  have P41 := (P39.below b40).chg (Chg.kept k41)
  have hlen' : l'.length = L.length := by have := congrArg List.length hl2; simpa using this
  have hpv := proves_any r (c := c7) P41.cells (la := a8) (lc := c8) (ClsPost.at A41 U41) (by omega)
  have hl3 : l'.map (·.1) = plainL L := hl2
  rw [hl3, hlen', proves_split r _ hchk, hce, if_neg (by simp), hP.all hr] at hpv
  refine Pure.calls hpv fun w42 b42 => ⟨_, _, rfl, .all b42, fun _ => ⟨fun _ => ⟨fun _ w43 B43 k43 => known_tail, fun _ w46 B46 k46 => ?_⟩, fun h => absurd rfl h⟩, fun h => absurd rfl h⟩
  have H46 := (H41.below b42).chg (Chg.kept k46) out
  have hrp := refProves_any (n := n) hr (hc.keep B46) (la := la) (lc := lc) H46.at (by omega) hP.ok
  have hl4 : L.map (·.1) = plainL L := rfl
  rw [hl4, hP.all hr] at hrp
  exact Pure.calls hrp fun w47 b47 => ⟨_, rfl, .all b47, fun _ w48 B48 k48 => known_tail, fun h => absurd rfl h⟩
end Go.Proofs.R07
end
