/- Part 5: own lemmas, and the conditions of the functions. -/
import Derived.Test.YtedlnndkamgknaaGreatProg
import Derived.Test.YtedlnndkamgknaaGreatP04
section
/- The conditions of the functions, printed by program; each is what the generator reckons (kernel_rfl). -/
namespace Go.Proofs
open Go.Vc
set_option maxRecDepth 100000 in
set_option maxHeartbeats 2000000 in
theorem vc106 (dataa : Option Addr) (datan : Nat) (datac : Nat) (a : Int) (b : Int) (limit : Int) (w : World) (R : Ending → World → Prop) (h : ∃ (F1 : List Lf → World → Prop), ∃
    (F2 : List Lf → Nat), (∀ (w2 : World), Kept [] w w2 → F1 [Lf.int IntKind.i64 a, Lf.int IntKind.i64 b, Lf.int IntKind.i64 limit, Lf.bool true, Lf.bool true] w2) ∧ ∀ (x1 x2 x3 :
    Int) (t1 t2 : Bool) (w3 : World), F1 [Lf.int IntKind.i64 x1, Lf.int IntKind.i64 x2, Lf.int IntKind.i64 x3, Lf.bool t1, Lf.bool t2] w3 → (-9223372036854775808 ≤ x2 - x1 ∧ x2 -
    x1 ≤ 9223372036854775807) ∧ (x2 - x1 ≤ 12 → ∀ (w4 : World), Kept [] w3 w4 → Calls Tryz.prog 167 #[Value.slice dataa datan datac, Value.int IntKind.i64 x1, Value.int IntKind.i64
    x2] w4 fun (e1 : Ending) (w5 : World) => e1 = Ending.returned (Value.tuple #[]) ∧ KeepX false w.heap.size [] (fun _ => False) w4 w5 ∧ ∀ (w6 : World), Kept [] w5 w6 → R
    (Ending.returned (Value.tuple #[])) w6) ∧ (12 < x2 - x1 → (x3 = 0 → ∀ (w7 : World), Kept [] w3 w7 → Calls Tryz.prog 168 #[Value.slice dataa datan datac, Value.int IntKind.i64
    x1, Value.int IntKind.i64 x2] w7 fun (e2 : Ending) (w8 : World) => e2 = Ending.returned (Value.tuple #[]) ∧ KeepX false w.heap.size [] (fun _ => False) w7 w8 ∧ ∀ (w9 : World),
    Kept [] w8 w9 → R (Ending.returned (Value.tuple #[])) w9) ∧ (x3 ≠ 0 → ((!t1) = true → ∀ (w10 : World), Kept [] w3 w10 → Calls Tryz.prog 169 #[Value.slice dataa datan datac,
    Value.int IntKind.i64 x1, Value.int IntKind.i64 x2] w10 fun (e3 : Ending) (w11 : World) => e3 = Ending.returned (Value.tuple #[]) ∧ KeepX false w.heap.size [] (fun _ => False)
    w10 w11 ∧ (-9223372036854775808 ≤ x3 - 1 ∧ x3 - (1 : Int) ≤ 9223372036854775807) ∧ ∀ (w12 : World), Kept [] w11 w12 → Calls Tryz.prog 170 #[Value.slice dataa datan datac,
    Value.int IntKind.i64 x1, Value.int IntKind.i64 x2] w12 fun (e4 : Ending) (w13 : World) => ∃ (x4 : Int), ∃ (x5 : Int), e4 = Ending.returned (Value.tuple #[Value.int IntKind.i64
    x4, Value.int IntKind.i64 x5]) ∧ KeepX false w.heap.size [] (fun _ => False) w12 w13 ∧ (x5 = 2 → ∀ (w14 : World), Kept [] w13 w14 → Calls Tryz.prog 171 #[Value.slice dataa
    datan datac, Value.int IntKind.i64 x1, Value.int IntKind.i64 x2] w14 fun (e5 : Ending) (w15 : World) => e5 = Ending.returned (Value.tuple #[]) ∧ KeepX false w.heap.size [] (fun
    _ => False) w14 w15 ∧ (-9223372036854775808 ≤ x2 - 1 ∧ x2 - (1 : Int) ≤ 9223372036854775807) ∧ (-9223372036854775808 ≤ x4 - x1 ∧ x4 - x1 ≤ 9223372036854775807) ∧
    (-9223372036854775808 ≤ x2 - 1 - (x4 - x1) ∧ x2 - 1 - (x4 - x1) ≤ 9223372036854775807) ∧ (t1 = true → (t2 = true → ((1 : Int) = 1 → ∀ (w16 : World), Kept [] w15 w16 → Calls
    Tryz.prog 172 #[Value.slice dataa datan datac, Value.int IntKind.i64 x1, Value.int IntKind.i64 x2] w16 fun (e6 : Ending) (w17 : World) => ∃ (t3 : Bool), e6 = Ending.returned
    (Value.bool t3) ∧ KeepX false w.heap.size [] (fun _ => False) w16 w17 ∧ (t3 = true → ∀ (w18 : World), Kept [] w17 w18 → R (Ending.returned (Value.tuple #[])) w18) ∧ (t3 = false
    → (0 < x1 → (-9223372036854775808 ≤ x1 - 1 ∧ x1 - (1 : Int) ≤ 9223372036854775807) ∧ ∃ (m7 : Nat), ∃ (m8 : Nat), dataa = some { block := m7, off := m8 } ∧ (0 ≤ x1 - 1 ∧ x1 - 1
    < (↑datan : Int)) ∧ ∃ (x6 : Int), w17.cell? { block := m7, off := m8 + (x1 - 1).toNat * 1 } = some (Value.int IntKind.i64 x6) ∧ ∃ (m9 : Nat), ∃ (m10 : Nat), dataa = some
    { block := m9, off := m10 } ∧ (0 ≤ x2 - 1 - (x4 - x1) ∧ x2 - 1 - (x4 - x1) < (↑datan : Int)) ∧ ∃ (x7 : Int), w17.cell?
    { block := m9, off := m10 + (x2 - 1 - (x4 - x1)).toNat * 1 } = some (Value.int IntKind.i64 x7) ∧ ∀ (w19 : World), KeptIn [(0, w17.heap.size)] [] w17 w19 → Calls Tryz.prog 173
    #[Value.int IntKind.i64 x6, Value.int IntKind.i64 x7] w19 fun (e7 : Ending) (w20 : World) => ∃ (t4 : Bool), e7 = Ending.returned (Value.bool t4) ∧ KeepX false w.heap.size []
    (fun _ => False) w19 w20 ∧ ((!t4) = true → ∀ (w21 : World), Kept [] w20 w21 → Calls Tryz.prog 174 #[Value.slice dataa datan datac, Value.int IntKind.i64 x1, Value.int
    IntKind.i64 x2, Value.int IntKind.i64 (x2 - 1 - (x4 - x1))] w21 fun (e8 : Ending) (w22 : World) => ∃ (x8 : Int), e8 = Ending.returned (Value.int IntKind.i64 x8) ∧ KeepX false
    w.heap.size [] (fun _ => False) w21 w22 ∧ ∀ (w23 : World), Kept [] w22 w23 → F1 [Lf.int IntKind.i64 x8, Lf.int IntKind.i64 x2, Lf.int IntKind.i64 (x3 - 1), Lf.bool t1, Lf.bool
    t2] w23 ∧ F2 [Lf.int IntKind.i64 x8, Lf.int IntKind.i64 x2, Lf.int IntKind.i64 (x3 - 1), Lf.bool t1, Lf.bool t2] < F2 [Lf.int IntKind.i64 x1, Lf.int IntKind.i64 x2, Lf.int
    IntKind.i64 x3, Lf.bool t1, Lf.bool t2]) ∧ ((!t4) = false → ∀ (w24 : World), Kept [] w20 w24 → Calls Tryz.prog 175 #[Value.slice dataa datan datac, Value.int IntKind.i64 x1,
    Value.int IntKind.i64 x2, Value.int IntKind.i64 (x2 - 1 - (x4 - x1))] w24 fun (e9 : Ending) (w25 : World) => ∃ (x9 : Int), ∃ (t5 : Bool), e9 = Ending.returned (Value.tuple
    #[Value.int IntKind.i64 x9, Value.bool t5]) ∧ KeepX false w.heap.size [] (fun _ => False) w24 w25 ∧ (-9223372036854775808 ≤ x9 - x1 ∧ x9 - x1 ≤ 9223372036854775807) ∧
    (-9223372036854775808 ≤ x2 - x9 ∧ x2 - x9 ≤ 9223372036854775807) ∧ ((8 : Int) ≠ 0 ∧ -9223372036854775808 ≤ (x2 - x1).tdiv 8 ∧ (x2 - x1).tdiv (8 : Int) ≤ 9223372036854775807) ∧
    (x9 - x1 < x2 - x9 → ∀ (w26 : World), Kept [] w25 w26 → Calls Tryz.prog 106 #[Value.slice dataa datan datac, Value.int IntKind.i64 x1, Value.int IntKind.i64 x9, Value.int
    IntKind.i64 (x3 - 1)] w26 fun (e10 : Ending) (w27 : World) => e10 = Ending.returned (Value.tuple #[]) ∧ KeepX false w.heap.size [] (fun _ => False) w26 w27 ∧
    (-9223372036854775808 ≤ x9 + 1 ∧ x9 + (1 : Int) ≤ 9223372036854775807) ∧ ∀ (w28 : World), Kept [] w27 w28 → F1 [Lf.int IntKind.i64 (x9 + 1), Lf.int IntKind.i64 x2, Lf.int
    IntKind.i64 (x3 - 1), Lf.bool (decide ((x2 - x1).tdiv 8 ≤ x9 - x1)), Lf.bool t5] w28 ∧ F2 [Lf.int IntKind.i64 (x9 + 1), Lf.int IntKind.i64 x2, Lf.int IntKind.i64 (x3 - 1),
    Lf.bool (decide ((x2 - x1).tdiv 8 ≤ x9 - x1)), Lf.bool t5] < F2 [Lf.int IntKind.i64 x1, Lf.int IntKind.i64 x2, Lf.int IntKind.i64 x3, Lf.bool t1, Lf.bool t2]) ∧ (x2 - x9 ≤ x9 -
    x1 → (-9223372036854775808 ≤ x9 + 1 ∧ x9 + (1 : Int) ≤ 9223372036854775807) ∧ ∀ (w29 : World), Kept [] w25 w29 → Calls Tryz.prog 106 #[Value.slice dataa datan datac, Value.int
    IntKind.i64 (x9 + 1), Value.int IntKind.i64 x2, Value.int IntKind.i64 (x3 - 1)] w29 fun (e11 : Ending) (w30 : World) => e11 = Ending.returned (Value.tuple #[]) ∧ KeepX false
    w.heap.size [] (fun _ => False) w29 w30 ∧ ∀ (w31 : World), Kept [] w30 w31 → F1 [Lf.int IntKind.i64 x1, Lf.int IntKind.i64 x9, Lf.int IntKind.i64 (x3 - 1), Lf.bool (decide ((x2
    - x1).tdiv 8 ≤ x2 - x9)), Lf.bool t5] w31 ∧ F2 [Lf.int IntKind.i64 x1, Lf.int IntKind.i64 x9, Lf.int IntKind.i64 (x3 - 1), Lf.bool (decide ((x2 - x1).tdiv 8 ≤ x2 - x9)),
    Lf.bool t5] < F2 [Lf.int IntKind.i64 x1, Lf.int IntKind.i64 x2, Lf.int IntKind.i64 x3, Lf.bool t1, Lf.bool t2]))) ∧ (x1 ≤ 0 → ∀ (w32 : World), Kept [] w17 w32 → Calls Tryz.prog
    175 #[Value.slice dataa datan datac, Value.int IntKind.i64 x1, Value.int IntKind.i64 x2, Value.int IntKind.i64 (x2 - 1 - (x4 - x1))] w32 fun (e12 : Ending) (w33 : World) => ∃
    (x14 : Int), ∃ (t6 : Bool), e12 = Ending.returned (Value.tuple #[Value.int IntKind.i64 x14, Value.bool t6]) ∧ KeepX false w.heap.size [] (fun _ => False) w32 w33 ∧
    (-9223372036854775808 ≤ x14 - x1 ∧ x14 - x1 ≤ 9223372036854775807) ∧ (-9223372036854775808 ≤ x2 - x14 ∧ x2 - x14 ≤ 9223372036854775807) ∧ ((8 : Int) ≠ 0 ∧ -9223372036854775808
    ≤ (x2 - x1).tdiv 8 ∧ (x2 - x1).tdiv (8 : Int) ≤ 9223372036854775807) ∧ (x14 - x1 < x2 - x14 → ∀ (w34 : World), Kept [] w33 w34 → Calls Tryz.prog 106 #[Value.slice dataa datan
    datac, Value.int IntKind.i64 x1, Value.int IntKind.i64 x14, Value.int IntKind.i64 (x3 - 1)] w34 fun (e13 : Ending) (w35 : World) => e13 = Ending.returned (Value.tuple #[]) ∧
    KeepX false w.heap.size [] (fun _ => False) w34 w35 ∧ (-9223372036854775808 ≤ x14 + 1 ∧ x14 + (1 : Int) ≤ 9223372036854775807) ∧ ∀ (w36 : World), Kept [] w35 w36 → F1 [Lf.int
    IntKind.i64 (x14 + 1), Lf.int IntKind.i64 x2, Lf.int IntKind.i64 (x3 - 1), Lf.bool (decide ((x2 - x1).tdiv 8 ≤ x14 - x1)), Lf.bool t6] w36 ∧ F2 [Lf.int IntKind.i64 (x14 + 1),
    Lf.int IntKind.i64 x2, Lf.int IntKind.i64 (x3 - 1), Lf.bool (decide ((x2 - x1).tdiv 8 ≤ x14 - x1)), Lf.bool t6] < F2 [Lf.int IntKind.i64 x1, Lf.int IntKind.i64 x2, Lf.int
    IntKind.i64 x3, Lf.bool t1, Lf.bool t2]) ∧ (x2 - x14 ≤ x14 - x1 → (-9223372036854775808 ≤ x14 + 1 ∧ x14 + (1 : Int) ≤ 9223372036854775807) ∧ ∀ (w37 : World), Kept [] w33 w37 →
    Calls Tryz.prog 106 #[Value.slice dataa datan datac, Value.int IntKind.i64 (x14 + 1), Value.int IntKind.i64 x2, Value.int IntKind.i64 (x3 - 1)] w37 fun (e14 : Ending) (w38 :
    World) => e14 = Ending.returned (Value.tuple #[]) ∧ KeepX false w.heap.size [] (fun _ => False) w37 w38 ∧ ∀ (w39 : World), Kept [] w38 w39 → F1 [Lf.int IntKind.i64 x1, Lf.int
    IntKind.i64 x14, Lf.int IntKind.i64 (x3 - 1), Lf.bool (decide ((x2 - x1).tdiv 8 ≤ x2 - x14)), Lf.bool t6] w39 ∧ F2 [Lf.int IntKind.i64 x1, Lf.int IntKind.i64 x14, Lf.int
    IntKind.i64 (x3 - 1), Lf.bool (decide ((x2 - x1).tdiv 8 ≤ x2 - x14)), Lf.bool t6] < F2 [Lf.int IntKind.i64 x1, Lf.int IntKind.i64 x2, Lf.int IntKind.i64 x3, Lf.bool t1, Lf.bool
    t2])))) ∧ ((1 : Int) ≠ 1 → (0 < x1 → (-9223372036854775808 ≤ x1 - 1 ∧ x1 - (1 : Int) ≤ 9223372036854775807) ∧ ∃ (m35 : Nat), ∃ (m36 : Nat), dataa = some
    { block := m35, off := m36 } ∧ (0 ≤ x1 - 1 ∧ x1 - 1 < (↑datan : Int)) ∧ ∃ (x19 : Int), w15.cell? { block := m35, off := m36 + (x1 - 1).toNat * 1 } = some (Value.int IntKind.i64
    x19) ∧ ∃ (m37 : Nat), ∃ (m38 : Nat), dataa = some { block := m37, off := m38 } ∧ (0 ≤ x2 - 1 - (x4 - x1) ∧ x2 - 1 - (x4 - x1) < (↑datan : Int)) ∧ ∃ (x20 : Int), w15.cell?
    { block := m37, off := m38 + (x2 - 1 - (x4 - x1)).toNat * 1 } = some (Value.int IntKind.i64 x20) ∧ ∀ (w40 : World), KeptIn [(0, w15.heap.size)] [] w15 w40 → Calls Tryz.prog 173
    #[Value.int IntKind.i64 x19, Value.int IntKind.i64 x20] w40 fun (e15 : Ending) (w41 : World) => ∃ (t7 : Bool), e15 = Ending.returned (Value.bool t7) ∧ KeepX false w.heap.size
    [] (fun _ => False) w40 w41 ∧ ((!t7) = true → ∀ (w42 : World), Kept [] w41 w42 → Calls Tryz.prog 174 #[Value.slice dataa datan datac, Value.int IntKind.i64 x1, Value.int
    IntKind.i64 x2, Value.int IntKind.i64 (x2 - 1 - (x4 - x1))] w42 fun (e16 : Ending) (w43 : World) => ∃ (x21 : Int), e16 = Ending.returned (Value.int IntKind.i64 x21) ∧ KeepX
    false w.heap.size [] (fun _ => False) w42 w43 ∧ ∀ (w44 : World), Kept [] w43 w44 → F1 [Lf.int IntKind.i64 x21, Lf.int IntKind.i64 x2, Lf.int IntKind.i64 (x3 - 1), Lf.bool t1,
    Lf.bool t2] w44 ∧ F2 [Lf.int IntKind.i64 x21, Lf.int IntKind.i64 x2, Lf.int IntKind.i64 (x3 - 1), Lf.bool t1, Lf.bool t2] < F2 [Lf.int IntKind.i64 x1, Lf.int IntKind.i64 x2,
    Lf.int IntKind.i64 x3, Lf.bool t1, Lf.bool t2]) ∧ ((!t7) = false → ∀ (w45 : World), Kept [] w41 w45 → Calls Tryz.prog 175 #[Value.slice dataa datan datac, Value.int IntKind.i64
    x1, Value.int IntKind.i64 x2, Value.int IntKind.i64 (x2 - 1 - (x4 - x1))] w45 fun (e17 : Ending) (w46 : World) => ∃ (x22 : Int), ∃ (t8 : Bool), e17 = Ending.returned
    (Value.tuple #[Value.int IntKind.i64 x22, Value.bool t8]) ∧ KeepX false w.heap.size [] (fun _ => False) w45 w46 ∧ (-9223372036854775808 ≤ x22 - x1 ∧ x22 - x1 ≤
    9223372036854775807) ∧ (-9223372036854775808 ≤ x2 - x22 ∧ x2 - x22 ≤ 9223372036854775807) ∧ ((8 : Int) ≠ 0 ∧ -9223372036854775808 ≤ (x2 - x1).tdiv 8 ∧ (x2 - x1).tdiv (8 : Int)
    ≤ 9223372036854775807) ∧ (x22 - x1 < x2 - x22 → ∀ (w47 : World), Kept [] w46 w47 → Calls Tryz.prog 106 #[Value.slice dataa datan datac, Value.int IntKind.i64 x1, Value.int
    IntKind.i64 x22, Value.int IntKind.i64 (x3 - 1)] w47 fun (e18 : Ending) (w48 : World) => e18 = Ending.returned (Value.tuple #[]) ∧ KeepX false w.heap.size [] (fun _ => False)
    w47 w48 ∧ (-9223372036854775808 ≤ x22 + 1 ∧ x22 + (1 : Int) ≤ 9223372036854775807) ∧ ∀ (w49 : World), Kept [] w48 w49 → F1 [Lf.int IntKind.i64 (x22 + 1), Lf.int IntKind.i64 x2,
    Lf.int IntKind.i64 (x3 - 1), Lf.bool (decide ((x2 - x1).tdiv 8 ≤ x22 - x1)), Lf.bool t8] w49 ∧ F2 [Lf.int IntKind.i64 (x22 + 1), Lf.int IntKind.i64 x2, Lf.int IntKind.i64 (x3 -
    1), Lf.bool (decide ((x2 - x1).tdiv 8 ≤ x22 - x1)), Lf.bool t8] < F2 [Lf.int IntKind.i64 x1, Lf.int IntKind.i64 x2, Lf.int IntKind.i64 x3, Lf.bool t1, Lf.bool t2]) ∧ (x2 - x22
    ≤ x22 - x1 → (-9223372036854775808 ≤ x22 + 1 ∧ x22 + (1 : Int) ≤ 9223372036854775807) ∧ ∀ (w50 : World), Kept [] w46 w50 → Calls Tryz.prog 106 #[Value.slice dataa datan datac,
    Value.int IntKind.i64 (x22 + 1), Value.int IntKind.i64 x2, Value.int IntKind.i64 (x3 - 1)] w50 fun (e19 : Ending) (w51 : World) => e19 = Ending.returned (Value.tuple #[]) ∧
    KeepX false w.heap.size [] (fun _ => False) w50 w51 ∧ ∀ (w52 : World), Kept [] w51 w52 → F1 [Lf.int IntKind.i64 x1, Lf.int IntKind.i64 x22, Lf.int IntKind.i64 (x3 - 1), Lf.bool
    (decide ((x2 - x1).tdiv 8 ≤ x2 - x22)), Lf.bool t8] w52 ∧ F2 [Lf.int IntKind.i64 x1, Lf.int IntKind.i64 x22, Lf.int IntKind.i64 (x3 - 1), Lf.bool (decide ((x2 - x1).tdiv 8 ≤ x2
    - x22)), Lf.bool t8] < F2 [Lf.int IntKind.i64 x1, Lf.int IntKind.i64 x2, Lf.int IntKind.i64 x3, Lf.bool t1, Lf.bool t2]))) ∧ (x1 ≤ 0 → ∀ (w53 : World), Kept [] w15 w53 → Calls
    Tryz.prog 175 #[Value.slice dataa datan datac, Value.int IntKind.i64 x1, Value.int IntKind.i64 x2, Value.int IntKind.i64 (x2 - 1 - (x4 - x1))] w53 fun (e20 : Ending) (w54 :
    World) => ∃ (x27 : Int), ∃ (t9 : Bool), e20 = Ending.returned (Value.tuple #[Value.int IntKind.i64 x27, Value.bool t9]) ∧ KeepX false w.heap.size [] (fun _ => False) w53 w54 ∧
    (-9223372036854775808 ≤ x27 - x1 ∧ x27 - x1 ≤ 9223372036854775807) ∧ (-9223372036854775808 ≤ x2 - x27 ∧ x2 - x27 ≤ 9223372036854775807) ∧ ((8 : Int) ≠ 0 ∧ -9223372036854775808
    ≤ (x2 - x1).tdiv 8 ∧ (x2 - x1).tdiv (8 : Int) ≤ 9223372036854775807) ∧ (x27 - x1 < x2 - x27 → ∀ (w55 : World), Kept [] w54 w55 → Calls Tryz.prog 106 #[Value.slice dataa datan
    datac, Value.int IntKind.i64 x1, Value.int IntKind.i64 x27, Value.int IntKind.i64 (x3 - 1)] w55 fun (e21 : Ending) (w56 : World) => e21 = Ending.returned (Value.tuple #[]) ∧
    KeepX false w.heap.size [] (fun _ => False) w55 w56 ∧ (-9223372036854775808 ≤ x27 + 1 ∧ x27 + (1 : Int) ≤ 9223372036854775807) ∧ ∀ (w57 : World), Kept [] w56 w57 → F1 [Lf.int
    IntKind.i64 (x27 + 1), Lf.int IntKind.i64 x2, Lf.int IntKind.i64 (x3 - 1), Lf.bool (decide ((x2 - x1).tdiv 8 ≤ x27 - x1)), Lf.bool t9] w57 ∧ F2 [Lf.int IntKind.i64 (x27 + 1),
    Lf.int IntKind.i64 x2, Lf.int IntKind.i64 (x3 - 1), Lf.bool (decide ((x2 - x1).tdiv 8 ≤ x27 - x1)), Lf.bool t9] < F2 [Lf.int IntKind.i64 x1, Lf.int IntKind.i64 x2, Lf.int
    IntKind.i64 x3, Lf.bool t1, Lf.bool t2]) ∧ (x2 - x27 ≤ x27 - x1 → (-9223372036854775808 ≤ x27 + 1 ∧ x27 + (1 : Int) ≤ 9223372036854775807) ∧ ∀ (w58 : World), Kept [] w54 w58 →
    Calls Tryz.prog 106 #[Value.slice dataa datan datac, Value.int IntKind.i64 (x27 + 1), Value.int IntKind.i64 x2, Value.int IntKind.i64 (x3 - 1)] w58 fun (e22 : Ending) (w59 :
    World) => e22 = Ending.returned (Value.tuple #[]) ∧ KeepX false w.heap.size [] (fun _ => False) w58 w59 ∧ ∀ (w60 : World), Kept [] w59 w60 → F1 [Lf.int IntKind.i64 x1, Lf.int
    IntKind.i64 x27, Lf.int IntKind.i64 (x3 - 1), Lf.bool (decide ((x2 - x1).tdiv 8 ≤ x2 - x27)), Lf.bool t9] w60 ∧ F2 [Lf.int IntKind.i64 x1, Lf.int IntKind.i64 x27, Lf.int
    IntKind.i64 (x3 - 1), Lf.bool (decide ((x2 - x1).tdiv 8 ≤ x2 - x27)), Lf.bool t9] < F2 [Lf.int IntKind.i64 x1, Lf.int IntKind.i64 x2, Lf.int IntKind.i64 x3, Lf.bool t1, Lf.bool
    t2])))) ∧ (t2 = false → (0 < x1 → (-9223372036854775808 ≤ x1 - 1 ∧ x1 - (1 : Int) ≤ 9223372036854775807) ∧ ∃ (m63 : Nat), ∃ (m64 : Nat), dataa = some
    { block := m63, off := m64 } ∧ (0 ≤ x1 - 1 ∧ x1 - 1 < (↑datan : Int)) ∧ ∃ (x32 : Int), w15.cell? { block := m63, off := m64 + (x1 - 1).toNat * 1 } = some (Value.int IntKind.i64
    x32) ∧ ∃ (m65 : Nat), ∃ (m66 : Nat), dataa = some { block := m65, off := m66 } ∧ (0 ≤ x2 - 1 - (x4 - x1) ∧ x2 - 1 - (x4 - x1) < (↑datan : Int)) ∧ ∃ (x33 : Int), w15.cell?
    { block := m65, off := m66 + (x2 - 1 - (x4 - x1)).toNat * 1 } = some (Value.int IntKind.i64 x33) ∧ ∀ (w61 : World), KeptIn [(0, w15.heap.size)] [] w15 w61 → Calls Tryz.prog 173
    #[Value.int IntKind.i64 x32, Value.int IntKind.i64 x33] w61 fun (e23 : Ending) (w62 : World) => ∃ (t10 : Bool), e23 = Ending.returned (Value.bool t10) ∧ KeepX false w.heap.size
    [] (fun _ => False) w61 w62 ∧ ((!t10) = true → ∀ (w63 : World), Kept [] w62 w63 → Calls Tryz.prog 174 #[Value.slice dataa datan datac, Value.int IntKind.i64 x1, Value.int
    IntKind.i64 x2, Value.int IntKind.i64 (x2 - 1 - (x4 - x1))] w63 fun (e24 : Ending) (w64 : World) => ∃ (x34 : Int), e24 = Ending.returned (Value.int IntKind.i64 x34) ∧ KeepX
    false w.heap.size [] (fun _ => False) w63 w64 ∧ ∀ (w65 : World), Kept [] w64 w65 → F1 [Lf.int IntKind.i64 x34, Lf.int IntKind.i64 x2, Lf.int IntKind.i64 (x3 - 1), Lf.bool t1,
    Lf.bool t2] w65 ∧ F2 [Lf.int IntKind.i64 x34, Lf.int IntKind.i64 x2, Lf.int IntKind.i64 (x3 - 1), Lf.bool t1, Lf.bool t2] < F2 [Lf.int IntKind.i64 x1, Lf.int IntKind.i64 x2,
    Lf.int IntKind.i64 x3, Lf.bool t1, Lf.bool t2]) ∧ ((!t10) = false → ∀ (w66 : World), Kept [] w62 w66 → Calls Tryz.prog 175 #[Value.slice dataa datan datac, Value.int
    IntKind.i64 x1, Value.int IntKind.i64 x2, Value.int IntKind.i64 (x2 - 1 - (x4 - x1))] w66 fun (e25 : Ending) (w67 : World) => ∃ (x35 : Int), ∃ (t11 : Bool), e25 =
    Ending.returned (Value.tuple #[Value.int IntKind.i64 x35, Value.bool t11]) ∧ KeepX false w.heap.size [] (fun _ => False) w66 w67 ∧ (-9223372036854775808 ≤ x35 - x1 ∧ x35 - x1 ≤
    9223372036854775807) ∧ (-9223372036854775808 ≤ x2 - x35 ∧ x2 - x35 ≤ 9223372036854775807) ∧ ((8 : Int) ≠ 0 ∧ -9223372036854775808 ≤ (x2 - x1).tdiv 8 ∧ (x2 - x1).tdiv (8 : Int)
    ≤ 9223372036854775807) ∧ (x35 - x1 < x2 - x35 → ∀ (w68 : World), Kept [] w67 w68 → Calls Tryz.prog 106 #[Value.slice dataa datan datac, Value.int IntKind.i64 x1, Value.int
    IntKind.i64 x35, Value.int IntKind.i64 (x3 - 1)] w68 fun (e26 : Ending) (w69 : World) => e26 = Ending.returned (Value.tuple #[]) ∧ KeepX false w.heap.size [] (fun _ => False)
    w68 w69 ∧ (-9223372036854775808 ≤ x35 + 1 ∧ x35 + (1 : Int) ≤ 9223372036854775807) ∧ ∀ (w70 : World), Kept [] w69 w70 → F1 [Lf.int IntKind.i64 (x35 + 1), Lf.int IntKind.i64 x2,
    Lf.int IntKind.i64 (x3 - 1), Lf.bool (decide ((x2 - x1).tdiv 8 ≤ x35 - x1)), Lf.bool t11] w70 ∧ F2 [Lf.int IntKind.i64 (x35 + 1), Lf.int IntKind.i64 x2, Lf.int IntKind.i64 (x3
    - 1), Lf.bool (decide ((x2 - x1).tdiv 8 ≤ x35 - x1)), Lf.bool t11] < F2 [Lf.int IntKind.i64 x1, Lf.int IntKind.i64 x2, Lf.int IntKind.i64 x3, Lf.bool t1, Lf.bool t2]) ∧ (x2 -
    x35 ≤ x35 - x1 → (-9223372036854775808 ≤ x35 + 1 ∧ x35 + (1 : Int) ≤ 9223372036854775807) ∧ ∀ (w71 : World), Kept [] w67 w71 → Calls Tryz.prog 106 #[Value.slice dataa datan
    datac, Value.int IntKind.i64 (x35 + 1), Value.int IntKind.i64 x2, Value.int IntKind.i64 (x3 - 1)] w71 fun (e27 : Ending) (w72 : World) => e27 = Ending.returned (Value.tuple
    #[]) ∧ KeepX false w.heap.size [] (fun _ => False) w71 w72 ∧ ∀ (w73 : World), Kept [] w72 w73 → F1 [Lf.int IntKind.i64 x1, Lf.int IntKind.i64 x35, Lf.int IntKind.i64 (x3 - 1),
    Lf.bool (decide ((x2 - x1).tdiv 8 ≤ x2 - x35)), Lf.bool t11] w73 ∧ F2 [Lf.int IntKind.i64 x1, Lf.int IntKind.i64 x35, Lf.int IntKind.i64 (x3 - 1), Lf.bool (decide ((x2 -
    x1).tdiv 8 ≤ x2 - x35)), Lf.bool t11] < F2 [Lf.int IntKind.i64 x1, Lf.int IntKind.i64 x2, Lf.int IntKind.i64 x3, Lf.bool t1, Lf.bool t2]))) ∧ (x1 ≤ 0 → ∀ (w74 : World), Kept []
    w15 w74 → Calls Tryz.prog 175 #[Value.slice dataa datan datac, Value.int IntKind.i64 x1, Value.int IntKind.i64 x2, Value.int IntKind.i64 (x2 - 1 - (x4 - x1))] w74 fun (e28 :
    Ending) (w75 : World) => ∃ (x40 : Int), ∃ (t12 : Bool), e28 = Ending.returned (Value.tuple #[Value.int IntKind.i64 x40, Value.bool t12]) ∧ KeepX false w.heap.size [] (fun _ =>
    False) w74 w75 ∧ (-9223372036854775808 ≤ x40 - x1 ∧ x40 - x1 ≤ 9223372036854775807) ∧ (-9223372036854775808 ≤ x2 - x40 ∧ x2 - x40 ≤ 9223372036854775807) ∧ ((8 : Int) ≠ 0 ∧
    -9223372036854775808 ≤ (x2 - x1).tdiv 8 ∧ (x2 - x1).tdiv (8 : Int) ≤ 9223372036854775807) ∧ (x40 - x1 < x2 - x40 → ∀ (w76 : World), Kept [] w75 w76 → Calls Tryz.prog 106
    #[Value.slice dataa datan datac, Value.int IntKind.i64 x1, Value.int IntKind.i64 x40, Value.int IntKind.i64 (x3 - 1)] w76 fun (e29 : Ending) (w77 : World) => e29 =
    Ending.returned (Value.tuple #[]) ∧ KeepX false w.heap.size [] (fun _ => False) w76 w77 ∧ (-9223372036854775808 ≤ x40 + 1 ∧ x40 + (1 : Int) ≤ 9223372036854775807) ∧ ∀ (w78 :
    World), Kept [] w77 w78 → F1 [Lf.int IntKind.i64 (x40 + 1), Lf.int IntKind.i64 x2, Lf.int IntKind.i64 (x3 - 1), Lf.bool (decide ((x2 - x1).tdiv 8 ≤ x40 - x1)), Lf.bool t12] w78
    ∧ F2 [Lf.int IntKind.i64 (x40 + 1), Lf.int IntKind.i64 x2, Lf.int IntKind.i64 (x3 - 1), Lf.bool (decide ((x2 - x1).tdiv 8 ≤ x40 - x1)), Lf.bool t12] < F2 [Lf.int IntKind.i64
    x1, Lf.int IntKind.i64 x2, Lf.int IntKind.i64 x3, Lf.bool t1, Lf.bool t2]) ∧ (x2 - x40 ≤ x40 - x1 → (-9223372036854775808 ≤ x40 + 1 ∧ x40 + (1 : Int) ≤ 9223372036854775807) ∧ ∀
    (w79 : World), Kept [] w75 w79 → Calls Tryz.prog 106 #[Value.slice dataa datan datac, Value.int IntKind.i64 (x40 + 1), Value.int IntKind.i64 x2, Value.int IntKind.i64 (x3 - 1)]
    w79 fun (e30 : Ending) (w80 : World) => e30 = Ending.returned (Value.tuple #[]) ∧ KeepX false w.heap.size [] (fun _ => False) w79 w80 ∧ ∀ (w81 : World), Kept [] w80 w81 → F1
    [Lf.int IntKind.i64 x1, Lf.int IntKind.i64 x40, Lf.int IntKind.i64 (x3 - 1), Lf.bool (decide ((x2 - x1).tdiv 8 ≤ x2 - x40)), Lf.bool t12] w81 ∧ F2 [Lf.int IntKind.i64 x1,
    Lf.int IntKind.i64 x40, Lf.int IntKind.i64 (x3 - 1), Lf.bool (decide ((x2 - x1).tdiv 8 ≤ x2 - x40)), Lf.bool t12] < F2 [Lf.int IntKind.i64 x1, Lf.int IntKind.i64 x2, Lf.int
    IntKind.i64 x3, Lf.bool t1, Lf.bool t2])))) ∧ (t1 = false → (0 < x1 → (-9223372036854775808 ≤ x1 - 1 ∧ x1 - (1 : Int) ≤ 9223372036854775807) ∧ ∃ (m91 : Nat), ∃ (m92 : Nat),
    dataa = some { block := m91, off := m92 } ∧ (0 ≤ x1 - 1 ∧ x1 - 1 < (↑datan : Int)) ∧ ∃ (x45 : Int), w15.cell? { block := m91, off := m92 + (x1 - 1).toNat * 1 } = some
    (Value.int IntKind.i64 x45) ∧ ∃ (m93 : Nat), ∃ (m94 : Nat), dataa = some { block := m93, off := m94 } ∧ (0 ≤ x2 - 1 - (x4 - x1) ∧ x2 - 1 - (x4 - x1) < (↑datan : Int)) ∧ ∃ (x46
    : Int), w15.cell? { block := m93, off := m94 + (x2 - 1 - (x4 - x1)).toNat * 1 } = some (Value.int IntKind.i64 x46) ∧ ∀ (w82 : World), KeptIn [(0, w15.heap.size)] [] w15 w82 →
    Calls Tryz.prog 173 #[Value.int IntKind.i64 x45, Value.int IntKind.i64 x46] w82 fun (e31 : Ending) (w83 : World) => ∃ (t13 : Bool), e31 = Ending.returned (Value.bool t13) ∧
    KeepX false w.heap.size [] (fun _ => False) w82 w83 ∧ ((!t13) = true → ∀ (w84 : World), Kept [] w83 w84 → Calls Tryz.prog 174 #[Value.slice dataa datan datac, Value.int
    IntKind.i64 x1, Value.int IntKind.i64 x2, Value.int IntKind.i64 (x2 - 1 - (x4 - x1))] w84 fun (e32 : Ending) (w85 : World) => ∃ (x47 : Int), e32 = Ending.returned (Value.int
    IntKind.i64 x47) ∧ KeepX false w.heap.size [] (fun _ => False) w84 w85 ∧ ∀ (w86 : World), Kept [] w85 w86 → F1 [Lf.int IntKind.i64 x47, Lf.int IntKind.i64 x2, Lf.int
    IntKind.i64 (x3 - 1), Lf.bool t1, Lf.bool t2] w86 ∧ F2 [Lf.int IntKind.i64 x47, Lf.int IntKind.i64 x2, Lf.int IntKind.i64 (x3 - 1), Lf.bool t1, Lf.bool t2] < F2 [Lf.int
    IntKind.i64 x1, Lf.int IntKind.i64 x2, Lf.int IntKind.i64 x3, Lf.bool t1, Lf.bool t2]) ∧ ((!t13) = false → ∀ (w87 : World), Kept [] w83 w87 → Calls Tryz.prog 175 #[Value.slice
    dataa datan datac, Value.int IntKind.i64 x1, Value.int IntKind.i64 x2, Value.int IntKind.i64 (x2 - 1 - (x4 - x1))] w87 fun (e33 : Ending) (w88 : World) => ∃ (x48 : Int), ∃ (t14
    : Bool), e33 = Ending.returned (Value.tuple #[Value.int IntKind.i64 x48, Value.bool t14]) ∧ KeepX false w.heap.size [] (fun _ => False) w87 w88 ∧ (-9223372036854775808 ≤ x48 -
    x1 ∧ x48 - x1 ≤ 9223372036854775807) ∧ (-9223372036854775808 ≤ x2 - x48 ∧ x2 - x48 ≤ 9223372036854775807) ∧ ((8 : Int) ≠ 0 ∧ -9223372036854775808 ≤ (x2 - x1).tdiv 8 ∧ (x2 -
    x1).tdiv (8 : Int) ≤ 9223372036854775807) ∧ (x48 - x1 < x2 - x48 → ∀ (w89 : World), Kept [] w88 w89 → Calls Tryz.prog 106 #[Value.slice dataa datan datac, Value.int IntKind.i64
    x1, Value.int IntKind.i64 x48, Value.int IntKind.i64 (x3 - 1)] w89 fun (e34 : Ending) (w90 : World) => e34 = Ending.returned (Value.tuple #[]) ∧ KeepX false w.heap.size [] (fun
    _ => False) w89 w90 ∧ (-9223372036854775808 ≤ x48 + 1 ∧ x48 + (1 : Int) ≤ 9223372036854775807) ∧ ∀ (w91 : World), Kept [] w90 w91 → F1 [Lf.int IntKind.i64 (x48 + 1), Lf.int
    IntKind.i64 x2, Lf.int IntKind.i64 (x3 - 1), Lf.bool (decide ((x2 - x1).tdiv 8 ≤ x48 - x1)), Lf.bool t14] w91 ∧ F2 [Lf.int IntKind.i64 (x48 + 1), Lf.int IntKind.i64 x2, Lf.int
    IntKind.i64 (x3 - 1), Lf.bool (decide ((x2 - x1).tdiv 8 ≤ x48 - x1)), Lf.bool t14] < F2 [Lf.int IntKind.i64 x1, Lf.int IntKind.i64 x2, Lf.int IntKind.i64 x3, Lf.bool t1,
    Lf.bool t2]) ∧ (x2 - x48 ≤ x48 - x1 → (-9223372036854775808 ≤ x48 + 1 ∧ x48 + (1 : Int) ≤ 9223372036854775807) ∧ ∀ (w92 : World), Kept [] w88 w92 → Calls Tryz.prog 106
    #[Value.slice dataa datan datac, Value.int IntKind.i64 (x48 + 1), Value.int IntKind.i64 x2, Value.int IntKind.i64 (x3 - 1)] w92 fun (e35 : Ending) (w93 : World) => e35 =
    Ending.returned (Value.tuple #[]) ∧ KeepX false w.heap.size [] (fun _ => False) w92 w93 ∧ ∀ (w94 : World), Kept [] w93 w94 → F1 [Lf.int IntKind.i64 x1, Lf.int IntKind.i64 x48,
    Lf.int IntKind.i64 (x3 - 1), Lf.bool (decide ((x2 - x1).tdiv 8 ≤ x2 - x48)), Lf.bool t14] w94 ∧ F2 [Lf.int IntKind.i64 x1, Lf.int IntKind.i64 x48, Lf.int IntKind.i64 (x3 - 1),
    Lf.bool (decide ((x2 - x1).tdiv 8 ≤ x2 - x48)), Lf.bool t14] < F2 [Lf.int IntKind.i64 x1, Lf.int IntKind.i64 x2, Lf.int IntKind.i64 x3, Lf.bool t1, Lf.bool t2]))) ∧ (x1 ≤ 0 → ∀
    (w95 : World), Kept [] w15 w95 → Calls Tryz.prog 175 #[Value.slice dataa datan datac, Value.int IntKind.i64 x1, Value.int IntKind.i64 x2, Value.int IntKind.i64 (x2 - 1 - (x4 -
    x1))] w95 fun (e36 : Ending) (w96 : World) => ∃ (x53 : Int), ∃ (t15 : Bool), e36 = Ending.returned (Value.tuple #[Value.int IntKind.i64 x53, Value.bool t15]) ∧ KeepX false
    w.heap.size [] (fun _ => False) w95 w96 ∧ (-9223372036854775808 ≤ x53 - x1 ∧ x53 - x1 ≤ 9223372036854775807) ∧ (-9223372036854775808 ≤ x2 - x53 ∧ x2 - x53 ≤
    9223372036854775807) ∧ ((8 : Int) ≠ 0 ∧ -9223372036854775808 ≤ (x2 - x1).tdiv 8 ∧ (x2 - x1).tdiv (8 : Int) ≤ 9223372036854775807) ∧ (x53 - x1 < x2 - x53 → ∀ (w97 : World), Kept
    [] w96 w97 → Calls Tryz.prog 106 #[Value.slice dataa datan datac, Value.int IntKind.i64 x1, Value.int IntKind.i64 x53, Value.int IntKind.i64 (x3 - 1)] w97 fun (e37 : Ending)
    (w98 : World) => e37 = Ending.returned (Value.tuple #[]) ∧ KeepX false w.heap.size [] (fun _ => False) w97 w98 ∧ (-9223372036854775808 ≤ x53 + 1 ∧ x53 + (1 : Int) ≤
    9223372036854775807) ∧ ∀ (w99 : World), Kept [] w98 w99 → F1 [Lf.int IntKind.i64 (x53 + 1), Lf.int IntKind.i64 x2, Lf.int IntKind.i64 (x3 - 1), Lf.bool (decide ((x2 - x1).tdiv
    8 ≤ x53 - x1)), Lf.bool t15] w99 ∧ F2 [Lf.int IntKind.i64 (x53 + 1), Lf.int IntKind.i64 x2, Lf.int IntKind.i64 (x3 - 1), Lf.bool (decide ((x2 - x1).tdiv 8 ≤ x53 - x1)), Lf.bool
    t15] < F2 [Lf.int IntKind.i64 x1, Lf.int IntKind.i64 x2, Lf.int IntKind.i64 x3, Lf.bool t1, Lf.bool t2]) ∧ (x2 - x53 ≤ x53 - x1 → (-9223372036854775808 ≤ x53 + 1 ∧ x53 + (1 :
    Int) ≤ 9223372036854775807) ∧ ∀ (w100 : World), Kept [] w96 w100 → Calls Tryz.prog 106 #[Value.slice dataa datan datac, Value.int IntKind.i64 (x53 + 1), Value.int IntKind.i64
    x2, Value.int IntKind.i64 (x3 - 1)] w100 fun (e38 : Ending) (w101 : World) => e38 = Ending.returned (Value.tuple #[]) ∧ KeepX false w.heap.size [] (fun _ => False) w100 w101 ∧
    ∀ (w102 : World), Kept [] w101 w102 → F1 [Lf.int IntKind.i64 x1, Lf.int IntKind.i64 x53, Lf.int IntKind.i64 (x3 - 1), Lf.bool (decide ((x2 - x1).tdiv 8 ≤ x2 - x53)), Lf.bool
    t15] w102 ∧ F2 [Lf.int IntKind.i64 x1, Lf.int IntKind.i64 x53, Lf.int IntKind.i64 (x3 - 1), Lf.bool (decide ((x2 - x1).tdiv 8 ≤ x2 - x53)), Lf.bool t15] < F2 [Lf.int
    IntKind.i64 x1, Lf.int IntKind.i64 x2, Lf.int IntKind.i64 x3, Lf.bool t1, Lf.bool t2])))) ∧ (x5 ≠ 2 → (t1 = true → (t2 = true → (x5 = 1 → ∀ (w103 : World), Kept [] w13 w103 →
    Calls Tryz.prog 172 #[Value.slice dataa datan datac, Value.int IntKind.i64 x1, Value.int IntKind.i64 x2] w103 fun (e39 : Ending) (w104 : World) => ∃ (t16 : Bool), e39 =
    Ending.returned (Value.bool t16) ∧ KeepX false w.heap.size [] (fun _ => False) w103 w104 ∧ (t16 = true → ∀ (w105 : World), Kept [] w104 w105 → R (Ending.returned (Value.tuple
    #[])) w105) ∧ (t16 = false → (0 < x1 → (-9223372036854775808 ≤ x1 - 1 ∧ x1 - (1 : Int) ≤ 9223372036854775807) ∧ ∃ (m120 : Nat), ∃ (m121 : Nat), dataa = some
    { block := m120, off := m121 } ∧ (0 ≤ x1 - 1 ∧ x1 - 1 < (↑datan : Int)) ∧ ∃ (x58 : Int), w104.cell? { block := m120, off := m121 + (x1 - 1).toNat * 1 } = some (Value.int
    IntKind.i64 x58) ∧ ∃ (m122 : Nat), ∃ (m123 : Nat), dataa = some { block := m122, off := m123 } ∧ (0 ≤ x4 ∧ x4 < (↑datan : Int)) ∧ ∃ (x59 : Int), w104.cell?
    { block := m122, off := m123 + x4.toNat * 1 } = some (Value.int IntKind.i64 x59) ∧ ∀ (w106 : World), KeptIn [(0, w104.heap.size)] [] w104 w106 → Calls Tryz.prog 173 #[Value.int
    IntKind.i64 x58, Value.int IntKind.i64 x59] w106 fun (e40 : Ending) (w107 : World) => ∃ (t17 : Bool), e40 = Ending.returned (Value.bool t17) ∧ KeepX false w.heap.size [] (fun _
    => False) w106 w107 ∧ ((!t17) = true → ∀ (w108 : World), Kept [] w107 w108 → Calls Tryz.prog 174 #[Value.slice dataa datan datac, Value.int IntKind.i64 x1, Value.int
    IntKind.i64 x2, Value.int IntKind.i64 x4] w108 fun (e41 : Ending) (w109 : World) => ∃ (x60 : Int), e41 = Ending.returned (Value.int IntKind.i64 x60) ∧ KeepX false w.heap.size
    [] (fun _ => False) w108 w109 ∧ ∀ (w110 : World), Kept [] w109 w110 → F1 [Lf.int IntKind.i64 x60, Lf.int IntKind.i64 x2, Lf.int IntKind.i64 (x3 - 1), Lf.bool t1, Lf.bool t2]
    w110 ∧ F2 [Lf.int IntKind.i64 x60, Lf.int IntKind.i64 x2, Lf.int IntKind.i64 (x3 - 1), Lf.bool t1, Lf.bool t2] < F2 [Lf.int IntKind.i64 x1, Lf.int IntKind.i64 x2, Lf.int
    IntKind.i64 x3, Lf.bool t1, Lf.bool t2]) ∧ ((!t17) = false → ∀ (w111 : World), Kept [] w107 w111 → Calls Tryz.prog 175 #[Value.slice dataa datan datac, Value.int IntKind.i64
    x1, Value.int IntKind.i64 x2, Value.int IntKind.i64 x4] w111 fun (e42 : Ending) (w112 : World) => ∃ (x61 : Int), ∃ (t18 : Bool), e42 = Ending.returned (Value.tuple #[Value.int
    IntKind.i64 x61, Value.bool t18]) ∧ KeepX false w.heap.size [] (fun _ => False) w111 w112 ∧ (-9223372036854775808 ≤ x61 - x1 ∧ x61 - x1 ≤ 9223372036854775807) ∧
    (-9223372036854775808 ≤ x2 - x61 ∧ x2 - x61 ≤ 9223372036854775807) ∧ ((8 : Int) ≠ 0 ∧ -9223372036854775808 ≤ (x2 - x1).tdiv 8 ∧ (x2 - x1).tdiv (8 : Int) ≤ 9223372036854775807)
    ∧ (x61 - x1 < x2 - x61 → ∀ (w113 : World), Kept [] w112 w113 → Calls Tryz.prog 106 #[Value.slice dataa datan datac, Value.int IntKind.i64 x1, Value.int IntKind.i64 x61,
    Value.int IntKind.i64 (x3 - 1)] w113 fun (e43 : Ending) (w114 : World) => e43 = Ending.returned (Value.tuple #[]) ∧ KeepX false w.heap.size [] (fun _ => False) w113 w114 ∧
    (-9223372036854775808 ≤ x61 + 1 ∧ x61 + (1 : Int) ≤ 9223372036854775807) ∧ ∀ (w115 : World), Kept [] w114 w115 → F1 [Lf.int IntKind.i64 (x61 + 1), Lf.int IntKind.i64 x2, Lf.int
    IntKind.i64 (x3 - 1), Lf.bool (decide ((x2 - x1).tdiv 8 ≤ x61 - x1)), Lf.bool t18] w115 ∧ F2 [Lf.int IntKind.i64 (x61 + 1), Lf.int IntKind.i64 x2, Lf.int IntKind.i64 (x3 - 1),
    Lf.bool (decide ((x2 - x1).tdiv 8 ≤ x61 - x1)), Lf.bool t18] < F2 [Lf.int IntKind.i64 x1, Lf.int IntKind.i64 x2, Lf.int IntKind.i64 x3, Lf.bool t1, Lf.bool t2]) ∧ (x2 - x61 ≤
    x61 - x1 → (-9223372036854775808 ≤ x61 + 1 ∧ x61 + (1 : Int) ≤ 9223372036854775807) ∧ ∀ (w116 : World), Kept [] w112 w116 → Calls Tryz.prog 106 #[Value.slice dataa datan datac,
    Value.int IntKind.i64 (x61 + 1), Value.int IntKind.i64 x2, Value.int IntKind.i64 (x3 - 1)] w116 fun (e44 : Ending) (w117 : World) => e44 = Ending.returned (Value.tuple #[]) ∧
    KeepX false w.heap.size [] (fun _ => False) w116 w117 ∧ ∀ (w118 : World), Kept [] w117 w118 → F1 [Lf.int IntKind.i64 x1, Lf.int IntKind.i64 x61, Lf.int IntKind.i64 (x3 - 1),
    Lf.bool (decide ((x2 - x1).tdiv 8 ≤ x2 - x61)), Lf.bool t18] w118 ∧ F2 [Lf.int IntKind.i64 x1, Lf.int IntKind.i64 x61, Lf.int IntKind.i64 (x3 - 1), Lf.bool (decide ((x2 -
    x1).tdiv 8 ≤ x2 - x61)), Lf.bool t18] < F2 [Lf.int IntKind.i64 x1, Lf.int IntKind.i64 x2, Lf.int IntKind.i64 x3, Lf.bool t1, Lf.bool t2]))) ∧ (x1 ≤ 0 → ∀ (w119 : World), Kept
    [] w104 w119 → Calls Tryz.prog 175 #[Value.slice dataa datan datac, Value.int IntKind.i64 x1, Value.int IntKind.i64 x2, Value.int IntKind.i64 x4] w119 fun (e45 : Ending) (w120
    : World) => ∃ (x66 : Int), ∃ (t19 : Bool), e45 = Ending.returned (Value.tuple #[Value.int IntKind.i64 x66, Value.bool t19]) ∧ KeepX false w.heap.size [] (fun _ => False) w119
    w120 ∧ (-9223372036854775808 ≤ x66 - x1 ∧ x66 - x1 ≤ 9223372036854775807) ∧ (-9223372036854775808 ≤ x2 - x66 ∧ x2 - x66 ≤ 9223372036854775807) ∧ ((8 : Int) ≠ 0 ∧
    -9223372036854775808 ≤ (x2 - x1).tdiv 8 ∧ (x2 - x1).tdiv (8 : Int) ≤ 9223372036854775807) ∧ (x66 - x1 < x2 - x66 → ∀ (w121 : World), Kept [] w120 w121 → Calls Tryz.prog 106
    #[Value.slice dataa datan datac, Value.int IntKind.i64 x1, Value.int IntKind.i64 x66, Value.int IntKind.i64 (x3 - 1)] w121 fun (e46 : Ending) (w122 : World) => e46 =
    Ending.returned (Value.tuple #[]) ∧ KeepX false w.heap.size [] (fun _ => False) w121 w122 ∧ (-9223372036854775808 ≤ x66 + 1 ∧ x66 + (1 : Int) ≤ 9223372036854775807) ∧ ∀ (w123 :
    World), Kept [] w122 w123 → F1 [Lf.int IntKind.i64 (x66 + 1), Lf.int IntKind.i64 x2, Lf.int IntKind.i64 (x3 - 1), Lf.bool (decide ((x2 - x1).tdiv 8 ≤ x66 - x1)), Lf.bool t19]
    w123 ∧ F2 [Lf.int IntKind.i64 (x66 + 1), Lf.int IntKind.i64 x2, Lf.int IntKind.i64 (x3 - 1), Lf.bool (decide ((x2 - x1).tdiv 8 ≤ x66 - x1)), Lf.bool t19] < F2 [Lf.int
    IntKind.i64 x1, Lf.int IntKind.i64 x2, Lf.int IntKind.i64 x3, Lf.bool t1, Lf.bool t2]) ∧ (x2 - x66 ≤ x66 - x1 → (-9223372036854775808 ≤ x66 + 1 ∧ x66 + (1 : Int) ≤
    9223372036854775807) ∧ ∀ (w124 : World), Kept [] w120 w124 → Calls Tryz.prog 106 #[Value.slice dataa datan datac, Value.int IntKind.i64 (x66 + 1), Value.int IntKind.i64 x2,
    Value.int IntKind.i64 (x3 - 1)] w124 fun (e47 : Ending) (w125 : World) => e47 = Ending.returned (Value.tuple #[]) ∧ KeepX false w.heap.size [] (fun _ => False) w124 w125 ∧ ∀
    (w126 : World), Kept [] w125 w126 → F1 [Lf.int IntKind.i64 x1, Lf.int IntKind.i64 x66, Lf.int IntKind.i64 (x3 - 1), Lf.bool (decide ((x2 - x1).tdiv 8 ≤ x2 - x66)), Lf.bool t19]
    w126 ∧ F2 [Lf.int IntKind.i64 x1, Lf.int IntKind.i64 x66, Lf.int IntKind.i64 (x3 - 1), Lf.bool (decide ((x2 - x1).tdiv 8 ≤ x2 - x66)), Lf.bool t19] < F2 [Lf.int IntKind.i64 x1,
    Lf.int IntKind.i64 x2, Lf.int IntKind.i64 x3, Lf.bool t1, Lf.bool t2])))) ∧ (x5 ≠ 1 → (0 < x1 → (-9223372036854775808 ≤ x1 - 1 ∧ x1 - (1 : Int) ≤ 9223372036854775807) ∧ ∃ (m148
    : Nat), ∃ (m149 : Nat), dataa = some { block := m148, off := m149 } ∧ (0 ≤ x1 - 1 ∧ x1 - 1 < (↑datan : Int)) ∧ ∃ (x71 : Int), w13.cell?
    { block := m148, off := m149 + (x1 - 1).toNat * 1 } = some (Value.int IntKind.i64 x71) ∧ ∃ (m150 : Nat), ∃ (m151 : Nat), dataa = some { block := m150, off := m151 } ∧ (0 ≤ x4 ∧
    x4 < (↑datan : Int)) ∧ ∃ (x72 : Int), w13.cell? { block := m150, off := m151 + x4.toNat * 1 } = some (Value.int IntKind.i64 x72) ∧ ∀ (w127 : World), KeptIn [(0, w13.heap.size)]
    [] w13 w127 → Calls Tryz.prog 173 #[Value.int IntKind.i64 x71, Value.int IntKind.i64 x72] w127 fun (e48 : Ending) (w128 : World) => ∃ (t20 : Bool), e48 = Ending.returned
    (Value.bool t20) ∧ KeepX false w.heap.size [] (fun _ => False) w127 w128 ∧ ((!t20) = true → ∀ (w129 : World), Kept [] w128 w129 → Calls Tryz.prog 174 #[Value.slice dataa datan
    datac, Value.int IntKind.i64 x1, Value.int IntKind.i64 x2, Value.int IntKind.i64 x4] w129 fun (e49 : Ending) (w130 : World) => ∃ (x73 : Int), e49 = Ending.returned (Value.int
    IntKind.i64 x73) ∧ KeepX false w.heap.size [] (fun _ => False) w129 w130 ∧ ∀ (w131 : World), Kept [] w130 w131 → F1 [Lf.int IntKind.i64 x73, Lf.int IntKind.i64 x2, Lf.int
    IntKind.i64 (x3 - 1), Lf.bool t1, Lf.bool t2] w131 ∧ F2 [Lf.int IntKind.i64 x73, Lf.int IntKind.i64 x2, Lf.int IntKind.i64 (x3 - 1), Lf.bool t1, Lf.bool t2] < F2 [Lf.int
    IntKind.i64 x1, Lf.int IntKind.i64 x2, Lf.int IntKind.i64 x3, Lf.bool t1, Lf.bool t2]) ∧ ((!t20) = false → ∀ (w132 : World), Kept [] w128 w132 → Calls Tryz.prog 175
    #[Value.slice dataa datan datac, Value.int IntKind.i64 x1, Value.int IntKind.i64 x2, Value.int IntKind.i64 x4] w132 fun (e50 : Ending) (w133 : World) => ∃ (x74 : Int), ∃ (t21 :
    Bool), e50 = Ending.returned (Value.tuple #[Value.int IntKind.i64 x74, Value.bool t21]) ∧ KeepX false w.heap.size [] (fun _ => False) w132 w133 ∧ (-9223372036854775808 ≤ x74 -
    x1 ∧ x74 - x1 ≤ 9223372036854775807) ∧ (-9223372036854775808 ≤ x2 - x74 ∧ x2 - x74 ≤ 9223372036854775807) ∧ ((8 : Int) ≠ 0 ∧ -9223372036854775808 ≤ (x2 - x1).tdiv 8 ∧ (x2 -
    x1).tdiv (8 : Int) ≤ 9223372036854775807) ∧ (x74 - x1 < x2 - x74 → ∀ (w134 : World), Kept [] w133 w134 → Calls Tryz.prog 106 #[Value.slice dataa datan datac, Value.int
    IntKind.i64 x1, Value.int IntKind.i64 x74, Value.int IntKind.i64 (x3 - 1)] w134 fun (e51 : Ending) (w135 : World) => e51 = Ending.returned (Value.tuple #[]) ∧ KeepX false
    w.heap.size [] (fun _ => False) w134 w135 ∧ (-9223372036854775808 ≤ x74 + 1 ∧ x74 + (1 : Int) ≤ 9223372036854775807) ∧ ∀ (w136 : World), Kept [] w135 w136 → F1 [Lf.int
    IntKind.i64 (x74 + 1), Lf.int IntKind.i64 x2, Lf.int IntKind.i64 (x3 - 1), Lf.bool (decide ((x2 - x1).tdiv 8 ≤ x74 - x1)), Lf.bool t21] w136 ∧ F2 [Lf.int IntKind.i64 (x74 + 1),
    Lf.int IntKind.i64 x2, Lf.int IntKind.i64 (x3 - 1), Lf.bool (decide ((x2 - x1).tdiv 8 ≤ x74 - x1)), Lf.bool t21] < F2 [Lf.int IntKind.i64 x1, Lf.int IntKind.i64 x2, Lf.int
    IntKind.i64 x3, Lf.bool t1, Lf.bool t2]) ∧ (x2 - x74 ≤ x74 - x1 → (-9223372036854775808 ≤ x74 + 1 ∧ x74 + (1 : Int) ≤ 9223372036854775807) ∧ ∀ (w137 : World), Kept [] w133 w137
    → Calls Tryz.prog 106 #[Value.slice dataa datan datac, Value.int IntKind.i64 (x74 + 1), Value.int IntKind.i64 x2, Value.int IntKind.i64 (x3 - 1)] w137 fun (e52 : Ending) (w138
    : World) => e52 = Ending.returned (Value.tuple #[]) ∧ KeepX false w.heap.size [] (fun _ => False) w137 w138 ∧ ∀ (w139 : World), Kept [] w138 w139 → F1 [Lf.int IntKind.i64 x1,
    Lf.int IntKind.i64 x74, Lf.int IntKind.i64 (x3 - 1), Lf.bool (decide ((x2 - x1).tdiv 8 ≤ x2 - x74)), Lf.bool t21] w139 ∧ F2 [Lf.int IntKind.i64 x1, Lf.int IntKind.i64 x74,
    Lf.int IntKind.i64 (x3 - 1), Lf.bool (decide ((x2 - x1).tdiv 8 ≤ x2 - x74)), Lf.bool t21] < F2 [Lf.int IntKind.i64 x1, Lf.int IntKind.i64 x2, Lf.int IntKind.i64 x3, Lf.bool t1,
    Lf.bool t2]))) ∧ (x1 ≤ 0 → ∀ (w140 : World), Kept [] w13 w140 → Calls Tryz.prog 175 #[Value.slice dataa datan datac, Value.int IntKind.i64 x1, Value.int IntKind.i64 x2,
    Value.int IntKind.i64 x4] w140 fun (e53 : Ending) (w141 : World) => ∃ (x79 : Int), ∃ (t22 : Bool), e53 = Ending.returned (Value.tuple #[Value.int IntKind.i64 x79, Value.bool
    t22]) ∧ KeepX false w.heap.size [] (fun _ => False) w140 w141 ∧ (-9223372036854775808 ≤ x79 - x1 ∧ x79 - x1 ≤ 9223372036854775807) ∧ (-9223372036854775808 ≤ x2 - x79 ∧ x2 - x79
    ≤ 9223372036854775807) ∧ ((8 : Int) ≠ 0 ∧ -9223372036854775808 ≤ (x2 - x1).tdiv 8 ∧ (x2 - x1).tdiv (8 : Int) ≤ 9223372036854775807) ∧ (x79 - x1 < x2 - x79 → ∀ (w142 : World),
    Kept [] w141 w142 → Calls Tryz.prog 106 #[Value.slice dataa datan datac, Value.int IntKind.i64 x1, Value.int IntKind.i64 x79, Value.int IntKind.i64 (x3 - 1)] w142 fun (e54 :
    Ending) (w143 : World) => e54 = Ending.returned (Value.tuple #[]) ∧ KeepX false w.heap.size [] (fun _ => False) w142 w143 ∧ (-9223372036854775808 ≤ x79 + 1 ∧ x79 + (1 : Int) ≤
    9223372036854775807) ∧ ∀ (w144 : World), Kept [] w143 w144 → F1 [Lf.int IntKind.i64 (x79 + 1), Lf.int IntKind.i64 x2, Lf.int IntKind.i64 (x3 - 1), Lf.bool (decide ((x2 -
    x1).tdiv 8 ≤ x79 - x1)), Lf.bool t22] w144 ∧ F2 [Lf.int IntKind.i64 (x79 + 1), Lf.int IntKind.i64 x2, Lf.int IntKind.i64 (x3 - 1), Lf.bool (decide ((x2 - x1).tdiv 8 ≤ x79 -
    x1)), Lf.bool t22] < F2 [Lf.int IntKind.i64 x1, Lf.int IntKind.i64 x2, Lf.int IntKind.i64 x3, Lf.bool t1, Lf.bool t2]) ∧ (x2 - x79 ≤ x79 - x1 → (-9223372036854775808 ≤ x79 + 1
    ∧ x79 + (1 : Int) ≤ 9223372036854775807) ∧ ∀ (w145 : World), Kept [] w141 w145 → Calls Tryz.prog 106 #[Value.slice dataa datan datac, Value.int IntKind.i64 (x79 + 1), Value.int
    IntKind.i64 x2, Value.int IntKind.i64 (x3 - 1)] w145 fun (e55 : Ending) (w146 : World) => e55 = Ending.returned (Value.tuple #[]) ∧ KeepX false w.heap.size [] (fun _ => False)
    w145 w146 ∧ ∀ (w147 : World), Kept [] w146 w147 → F1 [Lf.int IntKind.i64 x1, Lf.int IntKind.i64 x79, Lf.int IntKind.i64 (x3 - 1), Lf.bool (decide ((x2 - x1).tdiv 8 ≤ x2 -
    x79)), Lf.bool t22] w147 ∧ F2 [Lf.int IntKind.i64 x1, Lf.int IntKind.i64 x79, Lf.int IntKind.i64 (x3 - 1), Lf.bool (decide ((x2 - x1).tdiv 8 ≤ x2 - x79)), Lf.bool t22] < F2
    [Lf.int IntKind.i64 x1, Lf.int IntKind.i64 x2, Lf.int IntKind.i64 x3, Lf.bool t1, Lf.bool t2])))) ∧ (t2 = false → (0 < x1 → (-9223372036854775808 ≤ x1 - 1 ∧ x1 - (1 : Int) ≤
    9223372036854775807) ∧ ∃ (m176 : Nat), ∃ (m177 : Nat), dataa = some { block := m176, off := m177 } ∧ (0 ≤ x1 - 1 ∧ x1 - 1 < (↑datan : Int)) ∧ ∃ (x84 : Int), w13.cell?
    { block := m176, off := m177 + (x1 - 1).toNat * 1 } = some (Value.int IntKind.i64 x84) ∧ ∃ (m178 : Nat), ∃ (m179 : Nat), dataa = some { block := m178, off := m179 } ∧ (0 ≤ x4 ∧
    x4 < (↑datan : Int)) ∧ ∃ (x85 : Int), w13.cell? { block := m178, off := m179 + x4.toNat * 1 } = some (Value.int IntKind.i64 x85) ∧ ∀ (w148 : World), KeptIn [(0, w13.heap.size)]
    [] w13 w148 → Calls Tryz.prog 173 #[Value.int IntKind.i64 x84, Value.int IntKind.i64 x85] w148 fun (e56 : Ending) (w149 : World) => ∃ (t23 : Bool), e56 = Ending.returned
    (Value.bool t23) ∧ KeepX false w.heap.size [] (fun _ => False) w148 w149 ∧ ((!t23) = true → ∀ (w150 : World), Kept [] w149 w150 → Calls Tryz.prog 174 #[Value.slice dataa datan
    datac, Value.int IntKind.i64 x1, Value.int IntKind.i64 x2, Value.int IntKind.i64 x4] w150 fun (e57 : Ending) (w151 : World) => ∃ (x86 : Int), e57 = Ending.returned (Value.int
    IntKind.i64 x86) ∧ KeepX false w.heap.size [] (fun _ => False) w150 w151 ∧ ∀ (w152 : World), Kept [] w151 w152 → F1 [Lf.int IntKind.i64 x86, Lf.int IntKind.i64 x2, Lf.int
    IntKind.i64 (x3 - 1), Lf.bool t1, Lf.bool t2] w152 ∧ F2 [Lf.int IntKind.i64 x86, Lf.int IntKind.i64 x2, Lf.int IntKind.i64 (x3 - 1), Lf.bool t1, Lf.bool t2] < F2 [Lf.int
    IntKind.i64 x1, Lf.int IntKind.i64 x2, Lf.int IntKind.i64 x3, Lf.bool t1, Lf.bool t2]) ∧ ((!t23) = false → ∀ (w153 : World), Kept [] w149 w153 → Calls Tryz.prog 175
    #[Value.slice dataa datan datac, Value.int IntKind.i64 x1, Value.int IntKind.i64 x2, Value.int IntKind.i64 x4] w153 fun (e58 : Ending) (w154 : World) => ∃ (x87 : Int), ∃ (t24 :
    Bool), e58 = Ending.returned (Value.tuple #[Value.int IntKind.i64 x87, Value.bool t24]) ∧ KeepX false w.heap.size [] (fun _ => False) w153 w154 ∧ (-9223372036854775808 ≤ x87 -
    x1 ∧ x87 - x1 ≤ 9223372036854775807) ∧ (-9223372036854775808 ≤ x2 - x87 ∧ x2 - x87 ≤ 9223372036854775807) ∧ ((8 : Int) ≠ 0 ∧ -9223372036854775808 ≤ (x2 - x1).tdiv 8 ∧ (x2 -
    x1).tdiv (8 : Int) ≤ 9223372036854775807) ∧ (x87 - x1 < x2 - x87 → ∀ (w155 : World), Kept [] w154 w155 → Calls Tryz.prog 106 #[Value.slice dataa datan datac, Value.int
    IntKind.i64 x1, Value.int IntKind.i64 x87, Value.int IntKind.i64 (x3 - 1)] w155 fun (e59 : Ending) (w156 : World) => e59 = Ending.returned (Value.tuple #[]) ∧ KeepX false
    w.heap.size [] (fun _ => False) w155 w156 ∧ (-9223372036854775808 ≤ x87 + 1 ∧ x87 + (1 : Int) ≤ 9223372036854775807) ∧ ∀ (w157 : World), Kept [] w156 w157 → F1 [Lf.int
    IntKind.i64 (x87 + 1), Lf.int IntKind.i64 x2, Lf.int IntKind.i64 (x3 - 1), Lf.bool (decide ((x2 - x1).tdiv 8 ≤ x87 - x1)), Lf.bool t24] w157 ∧ F2 [Lf.int IntKind.i64 (x87 + 1),
    Lf.int IntKind.i64 x2, Lf.int IntKind.i64 (x3 - 1), Lf.bool (decide ((x2 - x1).tdiv 8 ≤ x87 - x1)), Lf.bool t24] < F2 [Lf.int IntKind.i64 x1, Lf.int IntKind.i64 x2, Lf.int
    IntKind.i64 x3, Lf.bool t1, Lf.bool t2]) ∧ (x2 - x87 ≤ x87 - x1 → (-9223372036854775808 ≤ x87 + 1 ∧ x87 + (1 : Int) ≤ 9223372036854775807) ∧ ∀ (w158 : World), Kept [] w154 w158
    → Calls Tryz.prog 106 #[Value.slice dataa datan datac, Value.int IntKind.i64 (x87 + 1), Value.int IntKind.i64 x2, Value.int IntKind.i64 (x3 - 1)] w158 fun (e60 : Ending) (w159
    : World) => e60 = Ending.returned (Value.tuple #[]) ∧ KeepX false w.heap.size [] (fun _ => False) w158 w159 ∧ ∀ (w160 : World), Kept [] w159 w160 → F1 [Lf.int IntKind.i64 x1,
    Lf.int IntKind.i64 x87, Lf.int IntKind.i64 (x3 - 1), Lf.bool (decide ((x2 - x1).tdiv 8 ≤ x2 - x87)), Lf.bool t24] w160 ∧ F2 [Lf.int IntKind.i64 x1, Lf.int IntKind.i64 x87,
    Lf.int IntKind.i64 (x3 - 1), Lf.bool (decide ((x2 - x1).tdiv 8 ≤ x2 - x87)), Lf.bool t24] < F2 [Lf.int IntKind.i64 x1, Lf.int IntKind.i64 x2, Lf.int IntKind.i64 x3, Lf.bool t1,
    Lf.bool t2]))) ∧ (x1 ≤ 0 → ∀ (w161 : World), Kept [] w13 w161 → Calls Tryz.prog 175 #[Value.slice dataa datan datac, Value.int IntKind.i64 x1, Value.int IntKind.i64 x2,
    Value.int IntKind.i64 x4] w161 fun (e61 : Ending) (w162 : World) => ∃ (x92 : Int), ∃ (t25 : Bool), e61 = Ending.returned (Value.tuple #[Value.int IntKind.i64 x92, Value.bool
    t25]) ∧ KeepX false w.heap.size [] (fun _ => False) w161 w162 ∧ (-9223372036854775808 ≤ x92 - x1 ∧ x92 - x1 ≤ 9223372036854775807) ∧ (-9223372036854775808 ≤ x2 - x92 ∧ x2 - x92
    ≤ 9223372036854775807) ∧ ((8 : Int) ≠ 0 ∧ -9223372036854775808 ≤ (x2 - x1).tdiv 8 ∧ (x2 - x1).tdiv (8 : Int) ≤ 9223372036854775807) ∧ (x92 - x1 < x2 - x92 → ∀ (w163 : World),
    Kept [] w162 w163 → Calls Tryz.prog 106 #[Value.slice dataa datan datac, Value.int IntKind.i64 x1, Value.int IntKind.i64 x92, Value.int IntKind.i64 (x3 - 1)] w163 fun (e62 :
    Ending) (w164 : World) => e62 = Ending.returned (Value.tuple #[]) ∧ KeepX false w.heap.size [] (fun _ => False) w163 w164 ∧ (-9223372036854775808 ≤ x92 + 1 ∧ x92 + (1 : Int) ≤
    9223372036854775807) ∧ ∀ (w165 : World), Kept [] w164 w165 → F1 [Lf.int IntKind.i64 (x92 + 1), Lf.int IntKind.i64 x2, Lf.int IntKind.i64 (x3 - 1), Lf.bool (decide ((x2 -
    x1).tdiv 8 ≤ x92 - x1)), Lf.bool t25] w165 ∧ F2 [Lf.int IntKind.i64 (x92 + 1), Lf.int IntKind.i64 x2, Lf.int IntKind.i64 (x3 - 1), Lf.bool (decide ((x2 - x1).tdiv 8 ≤ x92 -
    x1)), Lf.bool t25] < F2 [Lf.int IntKind.i64 x1, Lf.int IntKind.i64 x2, Lf.int IntKind.i64 x3, Lf.bool t1, Lf.bool t2]) ∧ (x2 - x92 ≤ x92 - x1 → (-9223372036854775808 ≤ x92 + 1
    ∧ x92 + (1 : Int) ≤ 9223372036854775807) ∧ ∀ (w166 : World), Kept [] w162 w166 → Calls Tryz.prog 106 #[Value.slice dataa datan datac, Value.int IntKind.i64 (x92 + 1), Value.int
    IntKind.i64 x2, Value.int IntKind.i64 (x3 - 1)] w166 fun (e63 : Ending) (w167 : World) => e63 = Ending.returned (Value.tuple #[]) ∧ KeepX false w.heap.size [] (fun _ => False)
    w166 w167 ∧ ∀ (w168 : World), Kept [] w167 w168 → F1 [Lf.int IntKind.i64 x1, Lf.int IntKind.i64 x92, Lf.int IntKind.i64 (x3 - 1), Lf.bool (decide ((x2 - x1).tdiv 8 ≤ x2 -
    x92)), Lf.bool t25] w168 ∧ F2 [Lf.int IntKind.i64 x1, Lf.int IntKind.i64 x92, Lf.int IntKind.i64 (x3 - 1), Lf.bool (decide ((x2 - x1).tdiv 8 ≤ x2 - x92)), Lf.bool t25] < F2
    [Lf.int IntKind.i64 x1, Lf.int IntKind.i64 x2, Lf.int IntKind.i64 x3, Lf.bool t1, Lf.bool t2])))) ∧ (t1 = false → (0 < x1 → (-9223372036854775808 ≤ x1 - 1 ∧ x1 - (1 : Int) ≤
    9223372036854775807) ∧ ∃ (m204 : Nat), ∃ (m205 : Nat), dataa = some { block := m204, off := m205 } ∧ (0 ≤ x1 - 1 ∧ x1 - 1 < (↑datan : Int)) ∧ ∃ (x97 : Int), w13.cell?
    { block := m204, off := m205 + (x1 - 1).toNat * 1 } = some (Value.int IntKind.i64 x97) ∧ ∃ (m206 : Nat), ∃ (m207 : Nat), dataa = some { block := m206, off := m207 } ∧ (0 ≤ x4 ∧
    x4 < (↑datan : Int)) ∧ ∃ (x98 : Int), w13.cell? { block := m206, off := m207 + x4.toNat * 1 } = some (Value.int IntKind.i64 x98) ∧ ∀ (w169 : World), KeptIn [(0, w13.heap.size)]
    [] w13 w169 → Calls Tryz.prog 173 #[Value.int IntKind.i64 x97, Value.int IntKind.i64 x98] w169 fun (e64 : Ending) (w170 : World) => ∃ (t26 : Bool), e64 = Ending.returned
    (Value.bool t26) ∧ KeepX false w.heap.size [] (fun _ => False) w169 w170 ∧ ((!t26) = true → ∀ (w171 : World), Kept [] w170 w171 → Calls Tryz.prog 174 #[Value.slice dataa datan
    datac, Value.int IntKind.i64 x1, Value.int IntKind.i64 x2, Value.int IntKind.i64 x4] w171 fun (e65 : Ending) (w172 : World) => ∃ (x99 : Int), e65 = Ending.returned (Value.int
    IntKind.i64 x99) ∧ KeepX false w.heap.size [] (fun _ => False) w171 w172 ∧ ∀ (w173 : World), Kept [] w172 w173 → F1 [Lf.int IntKind.i64 x99, Lf.int IntKind.i64 x2, Lf.int
    IntKind.i64 (x3 - 1), Lf.bool t1, Lf.bool t2] w173 ∧ F2 [Lf.int IntKind.i64 x99, Lf.int IntKind.i64 x2, Lf.int IntKind.i64 (x3 - 1), Lf.bool t1, Lf.bool t2] < F2 [Lf.int
    IntKind.i64 x1, Lf.int IntKind.i64 x2, Lf.int IntKind.i64 x3, Lf.bool t1, Lf.bool t2]) ∧ ((!t26) = false → ∀ (w174 : World), Kept [] w170 w174 → Calls Tryz.prog 175
    #[Value.slice dataa datan datac, Value.int IntKind.i64 x1, Value.int IntKind.i64 x2, Value.int IntKind.i64 x4] w174 fun (e66 : Ending) (w175 : World) => ∃ (x100 : Int), ∃ (t27
    : Bool), e66 = Ending.returned (Value.tuple #[Value.int IntKind.i64 x100, Value.bool t27]) ∧ KeepX false w.heap.size [] (fun _ => False) w174 w175 ∧ (-9223372036854775808 ≤
    x100 - x1 ∧ x100 - x1 ≤ 9223372036854775807) ∧ (-9223372036854775808 ≤ x2 - x100 ∧ x2 - x100 ≤ 9223372036854775807) ∧ ((8 : Int) ≠ 0 ∧ -9223372036854775808 ≤ (x2 - x1).tdiv 8 ∧
    (x2 - x1).tdiv (8 : Int) ≤ 9223372036854775807) ∧ (x100 - x1 < x2 - x100 → ∀ (w176 : World), Kept [] w175 w176 → Calls Tryz.prog 106 #[Value.slice dataa datan datac, Value.int
    IntKind.i64 x1, Value.int IntKind.i64 x100, Value.int IntKind.i64 (x3 - 1)] w176 fun (e67 : Ending) (w177 : World) => e67 = Ending.returned (Value.tuple #[]) ∧ KeepX false
    w.heap.size [] (fun _ => False) w176 w177 ∧ (-9223372036854775808 ≤ x100 + 1 ∧ x100 + (1 : Int) ≤ 9223372036854775807) ∧ ∀ (w178 : World), Kept [] w177 w178 → F1 [Lf.int
    IntKind.i64 (x100 + 1), Lf.int IntKind.i64 x2, Lf.int IntKind.i64 (x3 - 1), Lf.bool (decide ((x2 - x1).tdiv 8 ≤ x100 - x1)), Lf.bool t27] w178 ∧ F2 [Lf.int IntKind.i64 (x100 +
    1), Lf.int IntKind.i64 x2, Lf.int IntKind.i64 (x3 - 1), Lf.bool (decide ((x2 - x1).tdiv 8 ≤ x100 - x1)), Lf.bool t27] < F2 [Lf.int IntKind.i64 x1, Lf.int IntKind.i64 x2, Lf.int
    IntKind.i64 x3, Lf.bool t1, Lf.bool t2]) ∧ (x2 - x100 ≤ x100 - x1 → (-9223372036854775808 ≤ x100 + 1 ∧ x100 + (1 : Int) ≤ 9223372036854775807) ∧ ∀ (w179 : World), Kept [] w175
    w179 → Calls Tryz.prog 106 #[Value.slice dataa datan datac, Value.int IntKind.i64 (x100 + 1), Value.int IntKind.i64 x2, Value.int IntKind.i64 (x3 - 1)] w179 fun (e68 : Ending)
    (w180 : World) => e68 = Ending.returned (Value.tuple #[]) ∧ KeepX false w.heap.size [] (fun _ => False) w179 w180 ∧ ∀ (w181 : World), Kept [] w180 w181 → F1 [Lf.int IntKind.i64
    x1, Lf.int IntKind.i64 x100, Lf.int IntKind.i64 (x3 - 1), Lf.bool (decide ((x2 - x1).tdiv 8 ≤ x2 - x100)), Lf.bool t27] w181 ∧ F2 [Lf.int IntKind.i64 x1, Lf.int IntKind.i64
    x100, Lf.int IntKind.i64 (x3 - 1), Lf.bool (decide ((x2 - x1).tdiv 8 ≤ x2 - x100)), Lf.bool t27] < F2 [Lf.int IntKind.i64 x1, Lf.int IntKind.i64 x2, Lf.int IntKind.i64 x3,
    Lf.bool t1, Lf.bool t2]))) ∧ (x1 ≤ 0 → ∀ (w182 : World), Kept [] w13 w182 → Calls Tryz.prog 175 #[Value.slice dataa datan datac, Value.int IntKind.i64 x1, Value.int IntKind.i64
    x2, Value.int IntKind.i64 x4] w182 fun (e69 : Ending) (w183 : World) => ∃ (x105 : Int), ∃ (t28 : Bool), e69 = Ending.returned (Value.tuple #[Value.int IntKind.i64 x105,
    Value.bool t28]) ∧ KeepX false w.heap.size [] (fun _ => False) w182 w183 ∧ (-9223372036854775808 ≤ x105 - x1 ∧ x105 - x1 ≤ 9223372036854775807) ∧ (-9223372036854775808 ≤ x2 -
    x105 ∧ x2 - x105 ≤ 9223372036854775807) ∧ ((8 : Int) ≠ 0 ∧ -9223372036854775808 ≤ (x2 - x1).tdiv 8 ∧ (x2 - x1).tdiv (8 : Int) ≤ 9223372036854775807) ∧ (x105 - x1 < x2 - x105 →
    ∀ (w184 : World), Kept [] w183 w184 → Calls Tryz.prog 106 #[Value.slice dataa datan datac, Value.int IntKind.i64 x1, Value.int IntKind.i64 x105, Value.int IntKind.i64 (x3 - 1)]
    w184 fun (e70 : Ending) (w185 : World) => e70 = Ending.returned (Value.tuple #[]) ∧ KeepX false w.heap.size [] (fun _ => False) w184 w185 ∧ (-9223372036854775808 ≤ x105 + 1 ∧
    x105 + (1 : Int) ≤ 9223372036854775807) ∧ ∀ (w186 : World), Kept [] w185 w186 → F1 [Lf.int IntKind.i64 (x105 + 1), Lf.int IntKind.i64 x2, Lf.int IntKind.i64 (x3 - 1), Lf.bool
    (decide ((x2 - x1).tdiv 8 ≤ x105 - x1)), Lf.bool t28] w186 ∧ F2 [Lf.int IntKind.i64 (x105 + 1), Lf.int IntKind.i64 x2, Lf.int IntKind.i64 (x3 - 1), Lf.bool (decide ((x2 -
    x1).tdiv 8 ≤ x105 - x1)), Lf.bool t28] < F2 [Lf.int IntKind.i64 x1, Lf.int IntKind.i64 x2, Lf.int IntKind.i64 x3, Lf.bool t1, Lf.bool t2]) ∧ (x2 - x105 ≤ x105 - x1 →
    (-9223372036854775808 ≤ x105 + 1 ∧ x105 + (1 : Int) ≤ 9223372036854775807) ∧ ∀ (w187 : World), Kept [] w183 w187 → Calls Tryz.prog 106 #[Value.slice dataa datan datac,
    Value.int IntKind.i64 (x105 + 1), Value.int IntKind.i64 x2, Value.int IntKind.i64 (x3 - 1)] w187 fun (e71 : Ending) (w188 : World) => e71 = Ending.returned (Value.tuple #[]) ∧
    KeepX false w.heap.size [] (fun _ => False) w187 w188 ∧ ∀ (w189 : World), Kept [] w188 w189 → F1 [Lf.int IntKind.i64 x1, Lf.int IntKind.i64 x105, Lf.int IntKind.i64 (x3 - 1),
    Lf.bool (decide ((x2 - x1).tdiv 8 ≤ x2 - x105)), Lf.bool t28] w189 ∧ F2 [Lf.int IntKind.i64 x1, Lf.int IntKind.i64 x105, Lf.int IntKind.i64 (x3 - 1), Lf.bool (decide ((x2 -
    x1).tdiv 8 ≤ x2 - x105)), Lf.bool t28] < F2 [Lf.int IntKind.i64 x1, Lf.int IntKind.i64 x2, Lf.int IntKind.i64 x3, Lf.bool t1, Lf.bool t2]))))) ∧ ((!t1) = false → ∀ (w190 :
    World), Kept [] w3 w190 → Calls Tryz.prog 170 #[Value.slice dataa datan datac, Value.int IntKind.i64 x1, Value.int IntKind.i64 x2] w190 fun (e72 : Ending) (w191 : World) => ∃
    (x110 : Int), ∃ (x111 : Int), e72 = Ending.returned (Value.tuple #[Value.int IntKind.i64 x110, Value.int IntKind.i64 x111]) ∧ KeepX false w.heap.size [] (fun _ => False) w190
    w191 ∧ (x111 = 2 → ∀ (w192 : World), Kept [] w191 w192 → Calls Tryz.prog 171 #[Value.slice dataa datan datac, Value.int IntKind.i64 x1, Value.int IntKind.i64 x2] w192 fun (e73
    : Ending) (w193 : World) => e73 = Ending.returned (Value.tuple #[]) ∧ KeepX false w.heap.size [] (fun _ => False) w192 w193 ∧ (-9223372036854775808 ≤ x2 - 1 ∧ x2 - (1 : Int) ≤
    9223372036854775807) ∧ (-9223372036854775808 ≤ x110 - x1 ∧ x110 - x1 ≤ 9223372036854775807) ∧ (-9223372036854775808 ≤ x2 - 1 - (x110 - x1) ∧ x2 - 1 - (x110 - x1) ≤
    9223372036854775807) ∧ (t1 = true → (t2 = true → ((1 : Int) = 1 → ∀ (w194 : World), Kept [] w193 w194 → Calls Tryz.prog 172 #[Value.slice dataa datan datac, Value.int
    IntKind.i64 x1, Value.int IntKind.i64 x2] w194 fun (e74 : Ending) (w195 : World) => ∃ (t29 : Bool), e74 = Ending.returned (Value.bool t29) ∧ KeepX false w.heap.size [] (fun _
    => False) w194 w195 ∧ (t29 = true → ∀ (w196 : World), Kept [] w195 w196 → R (Ending.returned (Value.tuple #[])) w196) ∧ (t29 = false → (0 < x1 → (-9223372036854775808 ≤ x1 - 1
    ∧ x1 - (1 : Int) ≤ 9223372036854775807) ∧ ∃ (m235 : Nat), ∃ (m236 : Nat), dataa = some { block := m235, off := m236 } ∧ (0 ≤ x1 - 1 ∧ x1 - 1 < (↑datan : Int)) ∧ ∃ (x112 : Int),
    w195.cell? { block := m235, off := m236 + (x1 - 1).toNat * 1 } = some (Value.int IntKind.i64 x112) ∧ ∃ (m237 : Nat), ∃ (m238 : Nat), dataa = some { block := m237, off := m238 }
    ∧ (0 ≤ x2 - 1 - (x110 - x1) ∧ x2 - 1 - (x110 - x1) < (↑datan : Int)) ∧ ∃ (x113 : Int), w195.cell? { block := m237, off := m238 + (x2 - 1 - (x110 - x1)).toNat * 1 } = some
    (Value.int IntKind.i64 x113) ∧ ∀ (w197 : World), KeptIn [(0, w195.heap.size)] [] w195 w197 → Calls Tryz.prog 173 #[Value.int IntKind.i64 x112, Value.int IntKind.i64 x113] w197
    fun (e75 : Ending) (w198 : World) => ∃ (t30 : Bool), e75 = Ending.returned (Value.bool t30) ∧ KeepX false w.heap.size [] (fun _ => False) w197 w198 ∧ ((!t30) = true → ∀ (w199 :
    World), Kept [] w198 w199 → Calls Tryz.prog 174 #[Value.slice dataa datan datac, Value.int IntKind.i64 x1, Value.int IntKind.i64 x2, Value.int IntKind.i64 (x2 - 1 - (x110 -
    x1))] w199 fun (e76 : Ending) (w200 : World) => ∃ (x114 : Int), e76 = Ending.returned (Value.int IntKind.i64 x114) ∧ KeepX false w.heap.size [] (fun _ => False) w199 w200 ∧ ∀
    (w201 : World), Kept [] w200 w201 → F1 [Lf.int IntKind.i64 x114, Lf.int IntKind.i64 x2, Lf.int IntKind.i64 x3, Lf.bool t1, Lf.bool t2] w201 ∧ F2 [Lf.int IntKind.i64 x114,
    Lf.int IntKind.i64 x2, Lf.int IntKind.i64 x3, Lf.bool t1, Lf.bool t2] < F2 [Lf.int IntKind.i64 x1, Lf.int IntKind.i64 x2, Lf.int IntKind.i64 x3, Lf.bool t1, Lf.bool t2]) ∧
    ((!t30) = false → ∀ (w202 : World), Kept [] w198 w202 → Calls Tryz.prog 175 #[Value.slice dataa datan datac, Value.int IntKind.i64 x1, Value.int IntKind.i64 x2, Value.int
    IntKind.i64 (x2 - 1 - (x110 - x1))] w202 fun (e77 : Ending) (w203 : World) => ∃ (x115 : Int), ∃ (t31 : Bool), e77 = Ending.returned (Value.tuple #[Value.int IntKind.i64 x115,
    Value.bool t31]) ∧ KeepX false w.heap.size [] (fun _ => False) w202 w203 ∧ (-9223372036854775808 ≤ x115 - x1 ∧ x115 - x1 ≤ 9223372036854775807) ∧ (-9223372036854775808 ≤ x2 -
    x115 ∧ x2 - x115 ≤ 9223372036854775807) ∧ ((8 : Int) ≠ 0 ∧ -9223372036854775808 ≤ (x2 - x1).tdiv 8 ∧ (x2 - x1).tdiv (8 : Int) ≤ 9223372036854775807) ∧ (x115 - x1 < x2 - x115 →
    ∀ (w204 : World), Kept [] w203 w204 → Calls Tryz.prog 106 #[Value.slice dataa datan datac, Value.int IntKind.i64 x1, Value.int IntKind.i64 x115, Value.int IntKind.i64 x3] w204
    fun (e78 : Ending) (w205 : World) => e78 = Ending.returned (Value.tuple #[]) ∧ KeepX false w.heap.size [] (fun _ => False) w204 w205 ∧ (-9223372036854775808 ≤ x115 + 1 ∧ x115 +
    (1 : Int) ≤ 9223372036854775807) ∧ ∀ (w206 : World), Kept [] w205 w206 → F1 [Lf.int IntKind.i64 (x115 + 1), Lf.int IntKind.i64 x2, Lf.int IntKind.i64 x3, Lf.bool (decide ((x2 -
    x1).tdiv 8 ≤ x115 - x1)), Lf.bool t31] w206 ∧ F2 [Lf.int IntKind.i64 (x115 + 1), Lf.int IntKind.i64 x2, Lf.int IntKind.i64 x3, Lf.bool (decide ((x2 - x1).tdiv 8 ≤ x115 - x1)),
    Lf.bool t31] < F2 [Lf.int IntKind.i64 x1, Lf.int IntKind.i64 x2, Lf.int IntKind.i64 x3, Lf.bool t1, Lf.bool t2]) ∧ (x2 - x115 ≤ x115 - x1 → (-9223372036854775808 ≤ x115 + 1 ∧
    x115 + (1 : Int) ≤ 9223372036854775807) ∧ ∀ (w207 : World), Kept [] w203 w207 → Calls Tryz.prog 106 #[Value.slice dataa datan datac, Value.int IntKind.i64 (x115 + 1), Value.int
    IntKind.i64 x2, Value.int IntKind.i64 x3] w207 fun (e79 : Ending) (w208 : World) => e79 = Ending.returned (Value.tuple #[]) ∧ KeepX false w.heap.size [] (fun _ => False) w207
    w208 ∧ ∀ (w209 : World), Kept [] w208 w209 → F1 [Lf.int IntKind.i64 x1, Lf.int IntKind.i64 x115, Lf.int IntKind.i64 x3, Lf.bool (decide ((x2 - x1).tdiv 8 ≤ x2 - x115)), Lf.bool
    t31] w209 ∧ F2 [Lf.int IntKind.i64 x1, Lf.int IntKind.i64 x115, Lf.int IntKind.i64 x3, Lf.bool (decide ((x2 - x1).tdiv 8 ≤ x2 - x115)), Lf.bool t31] < F2 [Lf.int IntKind.i64
    x1, Lf.int IntKind.i64 x2, Lf.int IntKind.i64 x3, Lf.bool t1, Lf.bool t2]))) ∧ (x1 ≤ 0 → ∀ (w210 : World), Kept [] w195 w210 → Calls Tryz.prog 175 #[Value.slice dataa datan
    datac, Value.int IntKind.i64 x1, Value.int IntKind.i64 x2, Value.int IntKind.i64 (x2 - 1 - (x110 - x1))] w210 fun (e80 : Ending) (w211 : World) => ∃ (x120 : Int), ∃ (t32 :
    Bool), e80 = Ending.returned (Value.tuple #[Value.int IntKind.i64 x120, Value.bool t32]) ∧ KeepX false w.heap.size [] (fun _ => False) w210 w211 ∧ (-9223372036854775808 ≤ x120
    - x1 ∧ x120 - x1 ≤ 9223372036854775807) ∧ (-9223372036854775808 ≤ x2 - x120 ∧ x2 - x120 ≤ 9223372036854775807) ∧ ((8 : Int) ≠ 0 ∧ -9223372036854775808 ≤ (x2 - x1).tdiv 8 ∧ (x2
    - x1).tdiv (8 : Int) ≤ 9223372036854775807) ∧ (x120 - x1 < x2 - x120 → ∀ (w212 : World), Kept [] w211 w212 → Calls Tryz.prog 106 #[Value.slice dataa datan datac, Value.int
    IntKind.i64 x1, Value.int IntKind.i64 x120, Value.int IntKind.i64 x3] w212 fun (e81 : Ending) (w213 : World) => e81 = Ending.returned (Value.tuple #[]) ∧ KeepX false
    w.heap.size [] (fun _ => False) w212 w213 ∧ (-9223372036854775808 ≤ x120 + 1 ∧ x120 + (1 : Int) ≤ 9223372036854775807) ∧ ∀ (w214 : World), Kept [] w213 w214 → F1 [Lf.int
    IntKind.i64 (x120 + 1), Lf.int IntKind.i64 x2, Lf.int IntKind.i64 x3, Lf.bool (decide ((x2 - x1).tdiv 8 ≤ x120 - x1)), Lf.bool t32] w214 ∧ F2 [Lf.int IntKind.i64 (x120 + 1),
    Lf.int IntKind.i64 x2, Lf.int IntKind.i64 x3, Lf.bool (decide ((x2 - x1).tdiv 8 ≤ x120 - x1)), Lf.bool t32] < F2 [Lf.int IntKind.i64 x1, Lf.int IntKind.i64 x2, Lf.int
    IntKind.i64 x3, Lf.bool t1, Lf.bool t2]) ∧ (x2 - x120 ≤ x120 - x1 → (-9223372036854775808 ≤ x120 + 1 ∧ x120 + (1 : Int) ≤ 9223372036854775807) ∧ ∀ (w215 : World), Kept [] w211
    w215 → Calls Tryz.prog 106 #[Value.slice dataa datan datac, Value.int IntKind.i64 (x120 + 1), Value.int IntKind.i64 x2, Value.int IntKind.i64 x3] w215 fun (e82 : Ending) (w216
    : World) => e82 = Ending.returned (Value.tuple #[]) ∧ KeepX false w.heap.size [] (fun _ => False) w215 w216 ∧ ∀ (w217 : World), Kept [] w216 w217 → F1 [Lf.int IntKind.i64 x1,
    Lf.int IntKind.i64 x120, Lf.int IntKind.i64 x3, Lf.bool (decide ((x2 - x1).tdiv 8 ≤ x2 - x120)), Lf.bool t32] w217 ∧ F2 [Lf.int IntKind.i64 x1, Lf.int IntKind.i64 x120, Lf.int
    IntKind.i64 x3, Lf.bool (decide ((x2 - x1).tdiv 8 ≤ x2 - x120)), Lf.bool t32] < F2 [Lf.int IntKind.i64 x1, Lf.int IntKind.i64 x2, Lf.int IntKind.i64 x3, Lf.bool t1, Lf.bool
    t2])))) ∧ ((1 : Int) ≠ 1 → (0 < x1 → (-9223372036854775808 ≤ x1 - 1 ∧ x1 - (1 : Int) ≤ 9223372036854775807) ∧ ∃ (m263 : Nat), ∃ (m264 : Nat), dataa = some
    { block := m263, off := m264 } ∧ (0 ≤ x1 - 1 ∧ x1 - 1 < (↑datan : Int)) ∧ ∃ (x125 : Int), w193.cell? { block := m263, off := m264 + (x1 - 1).toNat * 1 } = some (Value.int
    IntKind.i64 x125) ∧ ∃ (m265 : Nat), ∃ (m266 : Nat), dataa = some { block := m265, off := m266 } ∧ (0 ≤ x2 - 1 - (x110 - x1) ∧ x2 - 1 - (x110 - x1) < (↑datan : Int)) ∧ ∃ (x126 :
    Int), w193.cell? { block := m265, off := m266 + (x2 - 1 - (x110 - x1)).toNat * 1 } = some (Value.int IntKind.i64 x126) ∧ ∀ (w218 : World), KeptIn [(0, w193.heap.size)] [] w193
    w218 → Calls Tryz.prog 173 #[Value.int IntKind.i64 x125, Value.int IntKind.i64 x126] w218 fun (e83 : Ending) (w219 : World) => ∃ (t33 : Bool), e83 = Ending.returned (Value.bool
    t33) ∧ KeepX false w.heap.size [] (fun _ => False) w218 w219 ∧ ((!t33) = true → ∀ (w220 : World), Kept [] w219 w220 → Calls Tryz.prog 174 #[Value.slice dataa datan datac,
    Value.int IntKind.i64 x1, Value.int IntKind.i64 x2, Value.int IntKind.i64 (x2 - 1 - (x110 - x1))] w220 fun (e84 : Ending) (w221 : World) => ∃ (x127 : Int), e84 =
    Ending.returned (Value.int IntKind.i64 x127) ∧ KeepX false w.heap.size [] (fun _ => False) w220 w221 ∧ ∀ (w222 : World), Kept [] w221 w222 → F1 [Lf.int IntKind.i64 x127, Lf.int
    IntKind.i64 x2, Lf.int IntKind.i64 x3, Lf.bool t1, Lf.bool t2] w222 ∧ F2 [Lf.int IntKind.i64 x127, Lf.int IntKind.i64 x2, Lf.int IntKind.i64 x3, Lf.bool t1, Lf.bool t2] < F2
    [Lf.int IntKind.i64 x1, Lf.int IntKind.i64 x2, Lf.int IntKind.i64 x3, Lf.bool t1, Lf.bool t2]) ∧ ((!t33) = false → ∀ (w223 : World), Kept [] w219 w223 → Calls Tryz.prog 175
    #[Value.slice dataa datan datac, Value.int IntKind.i64 x1, Value.int IntKind.i64 x2, Value.int IntKind.i64 (x2 - 1 - (x110 - x1))] w223 fun (e85 : Ending) (w224 : World) => ∃
    (x128 : Int), ∃ (t34 : Bool), e85 = Ending.returned (Value.tuple #[Value.int IntKind.i64 x128, Value.bool t34]) ∧ KeepX false w.heap.size [] (fun _ => False) w223 w224 ∧
    (-9223372036854775808 ≤ x128 - x1 ∧ x128 - x1 ≤ 9223372036854775807) ∧ (-9223372036854775808 ≤ x2 - x128 ∧ x2 - x128 ≤ 9223372036854775807) ∧ ((8 : Int) ≠ 0 ∧
    -9223372036854775808 ≤ (x2 - x1).tdiv 8 ∧ (x2 - x1).tdiv (8 : Int) ≤ 9223372036854775807) ∧ (x128 - x1 < x2 - x128 → ∀ (w225 : World), Kept [] w224 w225 → Calls Tryz.prog 106
    #[Value.slice dataa datan datac, Value.int IntKind.i64 x1, Value.int IntKind.i64 x128, Value.int IntKind.i64 x3] w225 fun (e86 : Ending) (w226 : World) => e86 = Ending.returned
    (Value.tuple #[]) ∧ KeepX false w.heap.size [] (fun _ => False) w225 w226 ∧ (-9223372036854775808 ≤ x128 + 1 ∧ x128 + (1 : Int) ≤ 9223372036854775807) ∧ ∀ (w227 : World), Kept
    [] w226 w227 → F1 [Lf.int IntKind.i64 (x128 + 1), Lf.int IntKind.i64 x2, Lf.int IntKind.i64 x3, Lf.bool (decide ((x2 - x1).tdiv 8 ≤ x128 - x1)), Lf.bool t34] w227 ∧ F2 [Lf.int
    IntKind.i64 (x128 + 1), Lf.int IntKind.i64 x2, Lf.int IntKind.i64 x3, Lf.bool (decide ((x2 - x1).tdiv 8 ≤ x128 - x1)), Lf.bool t34] < F2 [Lf.int IntKind.i64 x1, Lf.int
    IntKind.i64 x2, Lf.int IntKind.i64 x3, Lf.bool t1, Lf.bool t2]) ∧ (x2 - x128 ≤ x128 - x1 → (-9223372036854775808 ≤ x128 + 1 ∧ x128 + (1 : Int) ≤ 9223372036854775807) ∧ ∀ (w228
    : World), Kept [] w224 w228 → Calls Tryz.prog 106 #[Value.slice dataa datan datac, Value.int IntKind.i64 (x128 + 1), Value.int IntKind.i64 x2, Value.int IntKind.i64 x3] w228
    fun (e87 : Ending) (w229 : World) => e87 = Ending.returned (Value.tuple #[]) ∧ KeepX false w.heap.size [] (fun _ => False) w228 w229 ∧ ∀ (w230 : World), Kept [] w229 w230 → F1
    [Lf.int IntKind.i64 x1, Lf.int IntKind.i64 x128, Lf.int IntKind.i64 x3, Lf.bool (decide ((x2 - x1).tdiv 8 ≤ x2 - x128)), Lf.bool t34] w230 ∧ F2 [Lf.int IntKind.i64 x1, Lf.int
    IntKind.i64 x128, Lf.int IntKind.i64 x3, Lf.bool (decide ((x2 - x1).tdiv 8 ≤ x2 - x128)), Lf.bool t34] < F2 [Lf.int IntKind.i64 x1, Lf.int IntKind.i64 x2, Lf.int IntKind.i64
    x3, Lf.bool t1, Lf.bool t2]))) ∧ (x1 ≤ 0 → ∀ (w231 : World), Kept [] w193 w231 → Calls Tryz.prog 175 #[Value.slice dataa datan datac, Value.int IntKind.i64 x1, Value.int
    IntKind.i64 x2, Value.int IntKind.i64 (x2 - 1 - (x110 - x1))] w231 fun (e88 : Ending) (w232 : World) => ∃ (x133 : Int), ∃ (t35 : Bool), e88 = Ending.returned (Value.tuple
    #[Value.int IntKind.i64 x133, Value.bool t35]) ∧ KeepX false w.heap.size [] (fun _ => False) w231 w232 ∧ (-9223372036854775808 ≤ x133 - x1 ∧ x133 - x1 ≤ 9223372036854775807) ∧
    (-9223372036854775808 ≤ x2 - x133 ∧ x2 - x133 ≤ 9223372036854775807) ∧ ((8 : Int) ≠ 0 ∧ -9223372036854775808 ≤ (x2 - x1).tdiv 8 ∧ (x2 - x1).tdiv (8 : Int) ≤
    9223372036854775807) ∧ (x133 - x1 < x2 - x133 → ∀ (w233 : World), Kept [] w232 w233 → Calls Tryz.prog 106 #[Value.slice dataa datan datac, Value.int IntKind.i64 x1, Value.int
    IntKind.i64 x133, Value.int IntKind.i64 x3] w233 fun (e89 : Ending) (w234 : World) => e89 = Ending.returned (Value.tuple #[]) ∧ KeepX false w.heap.size [] (fun _ => False) w233
    w234 ∧ (-9223372036854775808 ≤ x133 + 1 ∧ x133 + (1 : Int) ≤ 9223372036854775807) ∧ ∀ (w235 : World), Kept [] w234 w235 → F1 [Lf.int IntKind.i64 (x133 + 1), Lf.int IntKind.i64
    x2, Lf.int IntKind.i64 x3, Lf.bool (decide ((x2 - x1).tdiv 8 ≤ x133 - x1)), Lf.bool t35] w235 ∧ F2 [Lf.int IntKind.i64 (x133 + 1), Lf.int IntKind.i64 x2, Lf.int IntKind.i64 x3,
    Lf.bool (decide ((x2 - x1).tdiv 8 ≤ x133 - x1)), Lf.bool t35] < F2 [Lf.int IntKind.i64 x1, Lf.int IntKind.i64 x2, Lf.int IntKind.i64 x3, Lf.bool t1, Lf.bool t2]) ∧ (x2 - x133 ≤
    x133 - x1 → (-9223372036854775808 ≤ x133 + 1 ∧ x133 + (1 : Int) ≤ 9223372036854775807) ∧ ∀ (w236 : World), Kept [] w232 w236 → Calls Tryz.prog 106 #[Value.slice dataa datan
    datac, Value.int IntKind.i64 (x133 + 1), Value.int IntKind.i64 x2, Value.int IntKind.i64 x3] w236 fun (e90 : Ending) (w237 : World) => e90 = Ending.returned (Value.tuple #[]) ∧
    KeepX false w.heap.size [] (fun _ => False) w236 w237 ∧ ∀ (w238 : World), Kept [] w237 w238 → F1 [Lf.int IntKind.i64 x1, Lf.int IntKind.i64 x133, Lf.int IntKind.i64 x3, Lf.bool
    (decide ((x2 - x1).tdiv 8 ≤ x2 - x133)), Lf.bool t35] w238 ∧ F2 [Lf.int IntKind.i64 x1, Lf.int IntKind.i64 x133, Lf.int IntKind.i64 x3, Lf.bool (decide ((x2 - x1).tdiv 8 ≤ x2 -
    x133)), Lf.bool t35] < F2 [Lf.int IntKind.i64 x1, Lf.int IntKind.i64 x2, Lf.int IntKind.i64 x3, Lf.bool t1, Lf.bool t2])))) ∧ (t2 = false → (0 < x1 → (-9223372036854775808 ≤ x1
    - 1 ∧ x1 - (1 : Int) ≤ 9223372036854775807) ∧ ∃ (m291 : Nat), ∃ (m292 : Nat), dataa = some { block := m291, off := m292 } ∧ (0 ≤ x1 - 1 ∧ x1 - 1 < (↑datan : Int)) ∧ ∃ (x138 :
    Int), w193.cell? { block := m291, off := m292 + (x1 - 1).toNat * 1 } = some (Value.int IntKind.i64 x138) ∧ ∃ (m293 : Nat), ∃ (m294 : Nat), dataa = some
    { block := m293, off := m294 } ∧ (0 ≤ x2 - 1 - (x110 - x1) ∧ x2 - 1 - (x110 - x1) < (↑datan : Int)) ∧ ∃ (x139 : Int), w193.cell?
    { block := m293, off := m294 + (x2 - 1 - (x110 - x1)).toNat * 1 } = some (Value.int IntKind.i64 x139) ∧ ∀ (w239 : World), KeptIn [(0, w193.heap.size)] [] w193 w239 → Calls
    Tryz.prog 173 #[Value.int IntKind.i64 x138, Value.int IntKind.i64 x139] w239 fun (e91 : Ending) (w240 : World) => ∃ (t36 : Bool), e91 = Ending.returned (Value.bool t36) ∧ KeepX
    false w.heap.size [] (fun _ => False) w239 w240 ∧ ((!t36) = true → ∀ (w241 : World), Kept [] w240 w241 → Calls Tryz.prog 174 #[Value.slice dataa datan datac, Value.int
    IntKind.i64 x1, Value.int IntKind.i64 x2, Value.int IntKind.i64 (x2 - 1 - (x110 - x1))] w241 fun (e92 : Ending) (w242 : World) => ∃ (x140 : Int), e92 = Ending.returned
    (Value.int IntKind.i64 x140) ∧ KeepX false w.heap.size [] (fun _ => False) w241 w242 ∧ ∀ (w243 : World), Kept [] w242 w243 → F1 [Lf.int IntKind.i64 x140, Lf.int IntKind.i64 x2,
    Lf.int IntKind.i64 x3, Lf.bool t1, Lf.bool t2] w243 ∧ F2 [Lf.int IntKind.i64 x140, Lf.int IntKind.i64 x2, Lf.int IntKind.i64 x3, Lf.bool t1, Lf.bool t2] < F2 [Lf.int
    IntKind.i64 x1, Lf.int IntKind.i64 x2, Lf.int IntKind.i64 x3, Lf.bool t1, Lf.bool t2]) ∧ ((!t36) = false → ∀ (w244 : World), Kept [] w240 w244 → Calls Tryz.prog 175
    #[Value.slice dataa datan datac, Value.int IntKind.i64 x1, Value.int IntKind.i64 x2, Value.int IntKind.i64 (x2 - 1 - (x110 - x1))] w244 fun (e93 : Ending) (w245 : World) => ∃
    (x141 : Int), ∃ (t37 : Bool), e93 = Ending.returned (Value.tuple #[Value.int IntKind.i64 x141, Value.bool t37]) ∧ KeepX false w.heap.size [] (fun _ => False) w244 w245 ∧
    (-9223372036854775808 ≤ x141 - x1 ∧ x141 - x1 ≤ 9223372036854775807) ∧ (-9223372036854775808 ≤ x2 - x141 ∧ x2 - x141 ≤ 9223372036854775807) ∧ ((8 : Int) ≠ 0 ∧
    -9223372036854775808 ≤ (x2 - x1).tdiv 8 ∧ (x2 - x1).tdiv (8 : Int) ≤ 9223372036854775807) ∧ (x141 - x1 < x2 - x141 → ∀ (w246 : World), Kept [] w245 w246 → Calls Tryz.prog 106
    #[Value.slice dataa datan datac, Value.int IntKind.i64 x1, Value.int IntKind.i64 x141, Value.int IntKind.i64 x3] w246 fun (e94 : Ending) (w247 : World) => e94 = Ending.returned
    (Value.tuple #[]) ∧ KeepX false w.heap.size [] (fun _ => False) w246 w247 ∧ (-9223372036854775808 ≤ x141 + 1 ∧ x141 + (1 : Int) ≤ 9223372036854775807) ∧ ∀ (w248 : World), Kept
    [] w247 w248 → F1 [Lf.int IntKind.i64 (x141 + 1), Lf.int IntKind.i64 x2, Lf.int IntKind.i64 x3, Lf.bool (decide ((x2 - x1).tdiv 8 ≤ x141 - x1)), Lf.bool t37] w248 ∧ F2 [Lf.int
    IntKind.i64 (x141 + 1), Lf.int IntKind.i64 x2, Lf.int IntKind.i64 x3, Lf.bool (decide ((x2 - x1).tdiv 8 ≤ x141 - x1)), Lf.bool t37] < F2 [Lf.int IntKind.i64 x1, Lf.int
    IntKind.i64 x2, Lf.int IntKind.i64 x3, Lf.bool t1, Lf.bool t2]) ∧ (x2 - x141 ≤ x141 - x1 → (-9223372036854775808 ≤ x141 + 1 ∧ x141 + (1 : Int) ≤ 9223372036854775807) ∧ ∀ (w249
    : World), Kept [] w245 w249 → Calls Tryz.prog 106 #[Value.slice dataa datan datac, Value.int IntKind.i64 (x141 + 1), Value.int IntKind.i64 x2, Value.int IntKind.i64 x3] w249
    fun (e95 : Ending) (w250 : World) => e95 = Ending.returned (Value.tuple #[]) ∧ KeepX false w.heap.size [] (fun _ => False) w249 w250 ∧ ∀ (w251 : World), Kept [] w250 w251 → F1
    [Lf.int IntKind.i64 x1, Lf.int IntKind.i64 x141, Lf.int IntKind.i64 x3, Lf.bool (decide ((x2 - x1).tdiv 8 ≤ x2 - x141)), Lf.bool t37] w251 ∧ F2 [Lf.int IntKind.i64 x1, Lf.int
    IntKind.i64 x141, Lf.int IntKind.i64 x3, Lf.bool (decide ((x2 - x1).tdiv 8 ≤ x2 - x141)), Lf.bool t37] < F2 [Lf.int IntKind.i64 x1, Lf.int IntKind.i64 x2, Lf.int IntKind.i64
    x3, Lf.bool t1, Lf.bool t2]))) ∧ (x1 ≤ 0 → ∀ (w252 : World), Kept [] w193 w252 → Calls Tryz.prog 175 #[Value.slice dataa datan datac, Value.int IntKind.i64 x1, Value.int
    IntKind.i64 x2, Value.int IntKind.i64 (x2 - 1 - (x110 - x1))] w252 fun (e96 : Ending) (w253 : World) => ∃ (x146 : Int), ∃ (t38 : Bool), e96 = Ending.returned (Value.tuple
    #[Value.int IntKind.i64 x146, Value.bool t38]) ∧ KeepX false w.heap.size [] (fun _ => False) w252 w253 ∧ (-9223372036854775808 ≤ x146 - x1 ∧ x146 - x1 ≤ 9223372036854775807) ∧
    (-9223372036854775808 ≤ x2 - x146 ∧ x2 - x146 ≤ 9223372036854775807) ∧ ((8 : Int) ≠ 0 ∧ -9223372036854775808 ≤ (x2 - x1).tdiv 8 ∧ (x2 - x1).tdiv (8 : Int) ≤
    9223372036854775807) ∧ (x146 - x1 < x2 - x146 → ∀ (w254 : World), Kept [] w253 w254 → Calls Tryz.prog 106 #[Value.slice dataa datan datac, Value.int IntKind.i64 x1, Value.int
    IntKind.i64 x146, Value.int IntKind.i64 x3] w254 fun (e97 : Ending) (w255 : World) => e97 = Ending.returned (Value.tuple #[]) ∧ KeepX false w.heap.size [] (fun _ => False) w254
    w255 ∧ (-9223372036854775808 ≤ x146 + 1 ∧ x146 + (1 : Int) ≤ 9223372036854775807) ∧ ∀ (w256 : World), Kept [] w255 w256 → F1 [Lf.int IntKind.i64 (x146 + 1), Lf.int IntKind.i64
    x2, Lf.int IntKind.i64 x3, Lf.bool (decide ((x2 - x1).tdiv 8 ≤ x146 - x1)), Lf.bool t38] w256 ∧ F2 [Lf.int IntKind.i64 (x146 + 1), Lf.int IntKind.i64 x2, Lf.int IntKind.i64 x3,
    Lf.bool (decide ((x2 - x1).tdiv 8 ≤ x146 - x1)), Lf.bool t38] < F2 [Lf.int IntKind.i64 x1, Lf.int IntKind.i64 x2, Lf.int IntKind.i64 x3, Lf.bool t1, Lf.bool t2]) ∧ (x2 - x146 ≤
    x146 - x1 → (-9223372036854775808 ≤ x146 + 1 ∧ x146 + (1 : Int) ≤ 9223372036854775807) ∧ ∀ (w257 : World), Kept [] w253 w257 → Calls Tryz.prog 106 #[Value.slice dataa datan
    datac, Value.int IntKind.i64 (x146 + 1), Value.int IntKind.i64 x2, Value.int IntKind.i64 x3] w257 fun (e98 : Ending) (w258 : World) => e98 = Ending.returned (Value.tuple #[]) ∧
    KeepX false w.heap.size [] (fun _ => False) w257 w258 ∧ ∀ (w259 : World), Kept [] w258 w259 → F1 [Lf.int IntKind.i64 x1, Lf.int IntKind.i64 x146, Lf.int IntKind.i64 x3, Lf.bool
    (decide ((x2 - x1).tdiv 8 ≤ x2 - x146)), Lf.bool t38] w259 ∧ F2 [Lf.int IntKind.i64 x1, Lf.int IntKind.i64 x146, Lf.int IntKind.i64 x3, Lf.bool (decide ((x2 - x1).tdiv 8 ≤ x2 -
    x146)), Lf.bool t38] < F2 [Lf.int IntKind.i64 x1, Lf.int IntKind.i64 x2, Lf.int IntKind.i64 x3, Lf.bool t1, Lf.bool t2])))) ∧ (t1 = false → (0 < x1 → (-9223372036854775808 ≤ x1
    - 1 ∧ x1 - (1 : Int) ≤ 9223372036854775807) ∧ ∃ (m319 : Nat), ∃ (m320 : Nat), dataa = some { block := m319, off := m320 } ∧ (0 ≤ x1 - 1 ∧ x1 - 1 < (↑datan : Int)) ∧ ∃ (x151 :
    Int), w193.cell? { block := m319, off := m320 + (x1 - 1).toNat * 1 } = some (Value.int IntKind.i64 x151) ∧ ∃ (m321 : Nat), ∃ (m322 : Nat), dataa = some
    { block := m321, off := m322 } ∧ (0 ≤ x2 - 1 - (x110 - x1) ∧ x2 - 1 - (x110 - x1) < (↑datan : Int)) ∧ ∃ (x152 : Int), w193.cell?
    { block := m321, off := m322 + (x2 - 1 - (x110 - x1)).toNat * 1 } = some (Value.int IntKind.i64 x152) ∧ ∀ (w260 : World), KeptIn [(0, w193.heap.size)] [] w193 w260 → Calls
    Tryz.prog 173 #[Value.int IntKind.i64 x151, Value.int IntKind.i64 x152] w260 fun (e99 : Ending) (w261 : World) => ∃ (t39 : Bool), e99 = Ending.returned (Value.bool t39) ∧ KeepX
    false w.heap.size [] (fun _ => False) w260 w261 ∧ ((!t39) = true → ∀ (w262 : World), Kept [] w261 w262 → Calls Tryz.prog 174 #[Value.slice dataa datan datac, Value.int
    IntKind.i64 x1, Value.int IntKind.i64 x2, Value.int IntKind.i64 (x2 - 1 - (x110 - x1))] w262 fun (e100 : Ending) (w263 : World) => ∃ (x153 : Int), e100 = Ending.returned
    (Value.int IntKind.i64 x153) ∧ KeepX false w.heap.size [] (fun _ => False) w262 w263 ∧ ∀ (w264 : World), Kept [] w263 w264 → F1 [Lf.int IntKind.i64 x153, Lf.int IntKind.i64 x2,
    Lf.int IntKind.i64 x3, Lf.bool t1, Lf.bool t2] w264 ∧ F2 [Lf.int IntKind.i64 x153, Lf.int IntKind.i64 x2, Lf.int IntKind.i64 x3, Lf.bool t1, Lf.bool t2] < F2 [Lf.int
    IntKind.i64 x1, Lf.int IntKind.i64 x2, Lf.int IntKind.i64 x3, Lf.bool t1, Lf.bool t2]) ∧ ((!t39) = false → ∀ (w265 : World), Kept [] w261 w265 → Calls Tryz.prog 175
    #[Value.slice dataa datan datac, Value.int IntKind.i64 x1, Value.int IntKind.i64 x2, Value.int IntKind.i64 (x2 - 1 - (x110 - x1))] w265 fun (e101 : Ending) (w266 : World) => ∃
    (x154 : Int), ∃ (t40 : Bool), e101 = Ending.returned (Value.tuple #[Value.int IntKind.i64 x154, Value.bool t40]) ∧ KeepX false w.heap.size [] (fun _ => False) w265 w266 ∧
    (-9223372036854775808 ≤ x154 - x1 ∧ x154 - x1 ≤ 9223372036854775807) ∧ (-9223372036854775808 ≤ x2 - x154 ∧ x2 - x154 ≤ 9223372036854775807) ∧ ((8 : Int) ≠ 0 ∧
    -9223372036854775808 ≤ (x2 - x1).tdiv 8 ∧ (x2 - x1).tdiv (8 : Int) ≤ 9223372036854775807) ∧ (x154 - x1 < x2 - x154 → ∀ (w267 : World), Kept [] w266 w267 → Calls Tryz.prog 106
    #[Value.slice dataa datan datac, Value.int IntKind.i64 x1, Value.int IntKind.i64 x154, Value.int IntKind.i64 x3] w267 fun (e102 : Ending) (w268 : World) => e102 =
    Ending.returned (Value.tuple #[]) ∧ KeepX false w.heap.size [] (fun _ => False) w267 w268 ∧ (-9223372036854775808 ≤ x154 + 1 ∧ x154 + (1 : Int) ≤ 9223372036854775807) ∧ ∀ (w269
    : World), Kept [] w268 w269 → F1 [Lf.int IntKind.i64 (x154 + 1), Lf.int IntKind.i64 x2, Lf.int IntKind.i64 x3, Lf.bool (decide ((x2 - x1).tdiv 8 ≤ x154 - x1)), Lf.bool t40]
    w269 ∧ F2 [Lf.int IntKind.i64 (x154 + 1), Lf.int IntKind.i64 x2, Lf.int IntKind.i64 x3, Lf.bool (decide ((x2 - x1).tdiv 8 ≤ x154 - x1)), Lf.bool t40] < F2 [Lf.int IntKind.i64
    x1, Lf.int IntKind.i64 x2, Lf.int IntKind.i64 x3, Lf.bool t1, Lf.bool t2]) ∧ (x2 - x154 ≤ x154 - x1 → (-9223372036854775808 ≤ x154 + 1 ∧ x154 + (1 : Int) ≤ 9223372036854775807)
    ∧ ∀ (w270 : World), Kept [] w266 w270 → Calls Tryz.prog 106 #[Value.slice dataa datan datac, Value.int IntKind.i64 (x154 + 1), Value.int IntKind.i64 x2, Value.int IntKind.i64
    x3] w270 fun (e103 : Ending) (w271 : World) => e103 = Ending.returned (Value.tuple #[]) ∧ KeepX false w.heap.size [] (fun _ => False) w270 w271 ∧ ∀ (w272 : World), Kept [] w271
    w272 → F1 [Lf.int IntKind.i64 x1, Lf.int IntKind.i64 x154, Lf.int IntKind.i64 x3, Lf.bool (decide ((x2 - x1).tdiv 8 ≤ x2 - x154)), Lf.bool t40] w272 ∧ F2 [Lf.int IntKind.i64
    x1, Lf.int IntKind.i64 x154, Lf.int IntKind.i64 x3, Lf.bool (decide ((x2 - x1).tdiv 8 ≤ x2 - x154)), Lf.bool t40] < F2 [Lf.int IntKind.i64 x1, Lf.int IntKind.i64 x2, Lf.int
    IntKind.i64 x3, Lf.bool t1, Lf.bool t2]))) ∧ (x1 ≤ 0 → ∀ (w273 : World), Kept [] w193 w273 → Calls Tryz.prog 175 #[Value.slice dataa datan datac, Value.int IntKind.i64 x1,
    Value.int IntKind.i64 x2, Value.int IntKind.i64 (x2 - 1 - (x110 - x1))] w273 fun (e104 : Ending) (w274 : World) => ∃ (x159 : Int), ∃ (t41 : Bool), e104 = Ending.returned
    (Value.tuple #[Value.int IntKind.i64 x159, Value.bool t41]) ∧ KeepX false w.heap.size [] (fun _ => False) w273 w274 ∧ (-9223372036854775808 ≤ x159 - x1 ∧ x159 - x1 ≤
    9223372036854775807) ∧ (-9223372036854775808 ≤ x2 - x159 ∧ x2 - x159 ≤ 9223372036854775807) ∧ ((8 : Int) ≠ 0 ∧ -9223372036854775808 ≤ (x2 - x1).tdiv 8 ∧ (x2 - x1).tdiv (8 :
    Int) ≤ 9223372036854775807) ∧ (x159 - x1 < x2 - x159 → ∀ (w275 : World), Kept [] w274 w275 → Calls Tryz.prog 106 #[Value.slice dataa datan datac, Value.int IntKind.i64 x1,
    Value.int IntKind.i64 x159, Value.int IntKind.i64 x3] w275 fun (e105 : Ending) (w276 : World) => e105 = Ending.returned (Value.tuple #[]) ∧ KeepX false w.heap.size [] (fun _ =>
    False) w275 w276 ∧ (-9223372036854775808 ≤ x159 + 1 ∧ x159 + (1 : Int) ≤ 9223372036854775807) ∧ ∀ (w277 : World), Kept [] w276 w277 → F1 [Lf.int IntKind.i64 (x159 + 1), Lf.int
    IntKind.i64 x2, Lf.int IntKind.i64 x3, Lf.bool (decide ((x2 - x1).tdiv 8 ≤ x159 - x1)), Lf.bool t41] w277 ∧ F2 [Lf.int IntKind.i64 (x159 + 1), Lf.int IntKind.i64 x2, Lf.int
    IntKind.i64 x3, Lf.bool (decide ((x2 - x1).tdiv 8 ≤ x159 - x1)), Lf.bool t41] < F2 [Lf.int IntKind.i64 x1, Lf.int IntKind.i64 x2, Lf.int IntKind.i64 x3, Lf.bool t1, Lf.bool
    t2]) ∧ (x2 - x159 ≤ x159 - x1 → (-9223372036854775808 ≤ x159 + 1 ∧ x159 + (1 : Int) ≤ 9223372036854775807) ∧ ∀ (w278 : World), Kept [] w274 w278 → Calls Tryz.prog 106
    #[Value.slice dataa datan datac, Value.int IntKind.i64 (x159 + 1), Value.int IntKind.i64 x2, Value.int IntKind.i64 x3] w278 fun (e106 : Ending) (w279 : World) => e106 =
    Ending.returned (Value.tuple #[]) ∧ KeepX false w.heap.size [] (fun _ => False) w278 w279 ∧ ∀ (w280 : World), Kept [] w279 w280 → F1 [Lf.int IntKind.i64 x1, Lf.int IntKind.i64
    x159, Lf.int IntKind.i64 x3, Lf.bool (decide ((x2 - x1).tdiv 8 ≤ x2 - x159)), Lf.bool t41] w280 ∧ F2 [Lf.int IntKind.i64 x1, Lf.int IntKind.i64 x159, Lf.int IntKind.i64 x3,
    Lf.bool (decide ((x2 - x1).tdiv 8 ≤ x2 - x159)), Lf.bool t41] < F2 [Lf.int IntKind.i64 x1, Lf.int IntKind.i64 x2, Lf.int IntKind.i64 x3, Lf.bool t1, Lf.bool t2])))) ∧ (x111 ≠ 2
    → (t1 = true → (t2 = true → (x111 = 1 → ∀ (w281 : World), Kept [] w191 w281 → Calls Tryz.prog 172 #[Value.slice dataa datan datac, Value.int IntKind.i64 x1, Value.int
    IntKind.i64 x2] w281 fun (e107 : Ending) (w282 : World) => ∃ (t42 : Bool), e107 = Ending.returned (Value.bool t42) ∧ KeepX false w.heap.size [] (fun _ => False) w281 w282 ∧
    (t42 = true → ∀ (w283 : World), Kept [] w282 w283 → R (Ending.returned (Value.tuple #[])) w283) ∧ (t42 = false → (0 < x1 → (-9223372036854775808 ≤ x1 - 1 ∧ x1 - (1 : Int) ≤
    9223372036854775807) ∧ ∃ (m348 : Nat), ∃ (m349 : Nat), dataa = some { block := m348, off := m349 } ∧ (0 ≤ x1 - 1 ∧ x1 - 1 < (↑datan : Int)) ∧ ∃ (x164 : Int), w282.cell?
    { block := m348, off := m349 + (x1 - 1).toNat * 1 } = some (Value.int IntKind.i64 x164) ∧ ∃ (m350 : Nat), ∃ (m351 : Nat), dataa = some { block := m350, off := m351 } ∧ (0 ≤
    x110 ∧ x110 < (↑datan : Int)) ∧ ∃ (x165 : Int), w282.cell? { block := m350, off := m351 + x110.toNat * 1 } = some (Value.int IntKind.i64 x165) ∧ ∀ (w284 : World), KeptIn [(0,
    w282.heap.size)] [] w282 w284 → Calls Tryz.prog 173 #[Value.int IntKind.i64 x164, Value.int IntKind.i64 x165] w284 fun (e108 : Ending) (w285 : World) => ∃ (t43 : Bool), e108 =
    Ending.returned (Value.bool t43) ∧ KeepX false w.heap.size [] (fun _ => False) w284 w285 ∧ ((!t43) = true → ∀ (w286 : World), Kept [] w285 w286 → Calls Tryz.prog 174
    #[Value.slice dataa datan datac, Value.int IntKind.i64 x1, Value.int IntKind.i64 x2, Value.int IntKind.i64 x110] w286 fun (e109 : Ending) (w287 : World) => ∃ (x166 : Int), e109
    = Ending.returned (Value.int IntKind.i64 x166) ∧ KeepX false w.heap.size [] (fun _ => False) w286 w287 ∧ ∀ (w288 : World), Kept [] w287 w288 → F1 [Lf.int IntKind.i64 x166,
    Lf.int IntKind.i64 x2, Lf.int IntKind.i64 x3, Lf.bool t1, Lf.bool t2] w288 ∧ F2 [Lf.int IntKind.i64 x166, Lf.int IntKind.i64 x2, Lf.int IntKind.i64 x3, Lf.bool t1, Lf.bool t2]
    < F2 [Lf.int IntKind.i64 x1, Lf.int IntKind.i64 x2, Lf.int IntKind.i64 x3, Lf.bool t1, Lf.bool t2]) ∧ ((!t43) = false → ∀ (w289 : World), Kept [] w285 w289 → Calls Tryz.prog
    175 #[Value.slice dataa datan datac, Value.int IntKind.i64 x1, Value.int IntKind.i64 x2, Value.int IntKind.i64 x110] w289 fun (e110 : Ending) (w290 : World) => ∃ (x167 : Int),
    ∃ (t44 : Bool), e110 = Ending.returned (Value.tuple #[Value.int IntKind.i64 x167, Value.bool t44]) ∧ KeepX false w.heap.size [] (fun _ => False) w289 w290 ∧
    (-9223372036854775808 ≤ x167 - x1 ∧ x167 - x1 ≤ 9223372036854775807) ∧ (-9223372036854775808 ≤ x2 - x167 ∧ x2 - x167 ≤ 9223372036854775807) ∧ ((8 : Int) ≠ 0 ∧
    -9223372036854775808 ≤ (x2 - x1).tdiv 8 ∧ (x2 - x1).tdiv (8 : Int) ≤ 9223372036854775807) ∧ (x167 - x1 < x2 - x167 → ∀ (w291 : World), Kept [] w290 w291 → Calls Tryz.prog 106
    #[Value.slice dataa datan datac, Value.int IntKind.i64 x1, Value.int IntKind.i64 x167, Value.int IntKind.i64 x3] w291 fun (e111 : Ending) (w292 : World) => e111 =
    Ending.returned (Value.tuple #[]) ∧ KeepX false w.heap.size [] (fun _ => False) w291 w292 ∧ (-9223372036854775808 ≤ x167 + 1 ∧ x167 + (1 : Int) ≤ 9223372036854775807) ∧ ∀ (w293
    : World), Kept [] w292 w293 → F1 [Lf.int IntKind.i64 (x167 + 1), Lf.int IntKind.i64 x2, Lf.int IntKind.i64 x3, Lf.bool (decide ((x2 - x1).tdiv 8 ≤ x167 - x1)), Lf.bool t44]
    w293 ∧ F2 [Lf.int IntKind.i64 (x167 + 1), Lf.int IntKind.i64 x2, Lf.int IntKind.i64 x3, Lf.bool (decide ((x2 - x1).tdiv 8 ≤ x167 - x1)), Lf.bool t44] < F2 [Lf.int IntKind.i64
    x1, Lf.int IntKind.i64 x2, Lf.int IntKind.i64 x3, Lf.bool t1, Lf.bool t2]) ∧ (x2 - x167 ≤ x167 - x1 → (-9223372036854775808 ≤ x167 + 1 ∧ x167 + (1 : Int) ≤ 9223372036854775807)
    ∧ ∀ (w294 : World), Kept [] w290 w294 → Calls Tryz.prog 106 #[Value.slice dataa datan datac, Value.int IntKind.i64 (x167 + 1), Value.int IntKind.i64 x2, Value.int IntKind.i64
    x3] w294 fun (e112 : Ending) (w295 : World) => e112 = Ending.returned (Value.tuple #[]) ∧ KeepX false w.heap.size [] (fun _ => False) w294 w295 ∧ ∀ (w296 : World), Kept [] w295
    w296 → F1 [Lf.int IntKind.i64 x1, Lf.int IntKind.i64 x167, Lf.int IntKind.i64 x3, Lf.bool (decide ((x2 - x1).tdiv 8 ≤ x2 - x167)), Lf.bool t44] w296 ∧ F2 [Lf.int IntKind.i64
    x1, Lf.int IntKind.i64 x167, Lf.int IntKind.i64 x3, Lf.bool (decide ((x2 - x1).tdiv 8 ≤ x2 - x167)), Lf.bool t44] < F2 [Lf.int IntKind.i64 x1, Lf.int IntKind.i64 x2, Lf.int
    IntKind.i64 x3, Lf.bool t1, Lf.bool t2]))) ∧ (x1 ≤ 0 → ∀ (w297 : World), Kept [] w282 w297 → Calls Tryz.prog 175 #[Value.slice dataa datan datac, Value.int IntKind.i64 x1,
    Value.int IntKind.i64 x2, Value.int IntKind.i64 x110] w297 fun (e113 : Ending) (w298 : World) => ∃ (x172 : Int), ∃ (t45 : Bool), e113 = Ending.returned (Value.tuple #[Value.int
    IntKind.i64 x172, Value.bool t45]) ∧ KeepX false w.heap.size [] (fun _ => False) w297 w298 ∧ (-9223372036854775808 ≤ x172 - x1 ∧ x172 - x1 ≤ 9223372036854775807) ∧
    (-9223372036854775808 ≤ x2 - x172 ∧ x2 - x172 ≤ 9223372036854775807) ∧ ((8 : Int) ≠ 0 ∧ -9223372036854775808 ≤ (x2 - x1).tdiv 8 ∧ (x2 - x1).tdiv (8 : Int) ≤
    9223372036854775807) ∧ (x172 - x1 < x2 - x172 → ∀ (w299 : World), Kept [] w298 w299 → Calls Tryz.prog 106 #[Value.slice dataa datan datac, Value.int IntKind.i64 x1, Value.int
    IntKind.i64 x172, Value.int IntKind.i64 x3] w299 fun (e114 : Ending) (w300 : World) => e114 = Ending.returned (Value.tuple #[]) ∧ KeepX false w.heap.size [] (fun _ => False)
    w299 w300 ∧ (-9223372036854775808 ≤ x172 + 1 ∧ x172 + (1 : Int) ≤ 9223372036854775807) ∧ ∀ (w301 : World), Kept [] w300 w301 → F1 [Lf.int IntKind.i64 (x172 + 1), Lf.int
    IntKind.i64 x2, Lf.int IntKind.i64 x3, Lf.bool (decide ((x2 - x1).tdiv 8 ≤ x172 - x1)), Lf.bool t45] w301 ∧ F2 [Lf.int IntKind.i64 (x172 + 1), Lf.int IntKind.i64 x2, Lf.int
    IntKind.i64 x3, Lf.bool (decide ((x2 - x1).tdiv 8 ≤ x172 - x1)), Lf.bool t45] < F2 [Lf.int IntKind.i64 x1, Lf.int IntKind.i64 x2, Lf.int IntKind.i64 x3, Lf.bool t1, Lf.bool
    t2]) ∧ (x2 - x172 ≤ x172 - x1 → (-9223372036854775808 ≤ x172 + 1 ∧ x172 + (1 : Int) ≤ 9223372036854775807) ∧ ∀ (w302 : World), Kept [] w298 w302 → Calls Tryz.prog 106
    #[Value.slice dataa datan datac, Value.int IntKind.i64 (x172 + 1), Value.int IntKind.i64 x2, Value.int IntKind.i64 x3] w302 fun (e115 : Ending) (w303 : World) => e115 =
    Ending.returned (Value.tuple #[]) ∧ KeepX false w.heap.size [] (fun _ => False) w302 w303 ∧ ∀ (w304 : World), Kept [] w303 w304 → F1 [Lf.int IntKind.i64 x1, Lf.int IntKind.i64
    x172, Lf.int IntKind.i64 x3, Lf.bool (decide ((x2 - x1).tdiv 8 ≤ x2 - x172)), Lf.bool t45] w304 ∧ F2 [Lf.int IntKind.i64 x1, Lf.int IntKind.i64 x172, Lf.int IntKind.i64 x3,
    Lf.bool (decide ((x2 - x1).tdiv 8 ≤ x2 - x172)), Lf.bool t45] < F2 [Lf.int IntKind.i64 x1, Lf.int IntKind.i64 x2, Lf.int IntKind.i64 x3, Lf.bool t1, Lf.bool t2])))) ∧ (x111 ≠ 1
    → (0 < x1 → (-9223372036854775808 ≤ x1 - 1 ∧ x1 - (1 : Int) ≤ 9223372036854775807) ∧ ∃ (m376 : Nat), ∃ (m377 : Nat), dataa = some { block := m376, off := m377 } ∧ (0 ≤ x1 - 1 ∧
    x1 - 1 < (↑datan : Int)) ∧ ∃ (x177 : Int), w191.cell? { block := m376, off := m377 + (x1 - 1).toNat * 1 } = some (Value.int IntKind.i64 x177) ∧ ∃ (m378 : Nat), ∃ (m379 : Nat),
    dataa = some { block := m378, off := m379 } ∧ (0 ≤ x110 ∧ x110 < (↑datan : Int)) ∧ ∃ (x178 : Int), w191.cell? { block := m378, off := m379 + x110.toNat * 1 } = some (Value.int
    IntKind.i64 x178) ∧ ∀ (w305 : World), KeptIn [(0, w191.heap.size)] [] w191 w305 → Calls Tryz.prog 173 #[Value.int IntKind.i64 x177, Value.int IntKind.i64 x178] w305 fun (e116 :
    Ending) (w306 : World) => ∃ (t46 : Bool), e116 = Ending.returned (Value.bool t46) ∧ KeepX false w.heap.size [] (fun _ => False) w305 w306 ∧ ((!t46) = true → ∀ (w307 : World),
    Kept [] w306 w307 → Calls Tryz.prog 174 #[Value.slice dataa datan datac, Value.int IntKind.i64 x1, Value.int IntKind.i64 x2, Value.int IntKind.i64 x110] w307 fun (e117 :
    Ending) (w308 : World) => ∃ (x179 : Int), e117 = Ending.returned (Value.int IntKind.i64 x179) ∧ KeepX false w.heap.size [] (fun _ => False) w307 w308 ∧ ∀ (w309 : World), Kept
    [] w308 w309 → F1 [Lf.int IntKind.i64 x179, Lf.int IntKind.i64 x2, Lf.int IntKind.i64 x3, Lf.bool t1, Lf.bool t2] w309 ∧ F2 [Lf.int IntKind.i64 x179, Lf.int IntKind.i64 x2,
    Lf.int IntKind.i64 x3, Lf.bool t1, Lf.bool t2] < F2 [Lf.int IntKind.i64 x1, Lf.int IntKind.i64 x2, Lf.int IntKind.i64 x3, Lf.bool t1, Lf.bool t2]) ∧ ((!t46) = false → ∀ (w310 :
    World), Kept [] w306 w310 → Calls Tryz.prog 175 #[Value.slice dataa datan datac, Value.int IntKind.i64 x1, Value.int IntKind.i64 x2, Value.int IntKind.i64 x110] w310 fun (e118
    : Ending) (w311 : World) => ∃ (x180 : Int), ∃ (t47 : Bool), e118 = Ending.returned (Value.tuple #[Value.int IntKind.i64 x180, Value.bool t47]) ∧ KeepX false w.heap.size [] (fun
    _ => False) w310 w311 ∧ (-9223372036854775808 ≤ x180 - x1 ∧ x180 - x1 ≤ 9223372036854775807) ∧ (-9223372036854775808 ≤ x2 - x180 ∧ x2 - x180 ≤ 9223372036854775807) ∧ ((8 : Int)
    ≠ 0 ∧ -9223372036854775808 ≤ (x2 - x1).tdiv 8 ∧ (x2 - x1).tdiv (8 : Int) ≤ 9223372036854775807) ∧ (x180 - x1 < x2 - x180 → ∀ (w312 : World), Kept [] w311 w312 → Calls Tryz.prog
    106 #[Value.slice dataa datan datac, Value.int IntKind.i64 x1, Value.int IntKind.i64 x180, Value.int IntKind.i64 x3] w312 fun (e119 : Ending) (w313 : World) => e119 =
    Ending.returned (Value.tuple #[]) ∧ KeepX false w.heap.size [] (fun _ => False) w312 w313 ∧ (-9223372036854775808 ≤ x180 + 1 ∧ x180 + (1 : Int) ≤ 9223372036854775807) ∧ ∀ (w314
    : World), Kept [] w313 w314 → F1 [Lf.int IntKind.i64 (x180 + 1), Lf.int IntKind.i64 x2, Lf.int IntKind.i64 x3, Lf.bool (decide ((x2 - x1).tdiv 8 ≤ x180 - x1)), Lf.bool t47]
    w314 ∧ F2 [Lf.int IntKind.i64 (x180 + 1), Lf.int IntKind.i64 x2, Lf.int IntKind.i64 x3, Lf.bool (decide ((x2 - x1).tdiv 8 ≤ x180 - x1)), Lf.bool t47] < F2 [Lf.int IntKind.i64
    x1, Lf.int IntKind.i64 x2, Lf.int IntKind.i64 x3, Lf.bool t1, Lf.bool t2]) ∧ (x2 - x180 ≤ x180 - x1 → (-9223372036854775808 ≤ x180 + 1 ∧ x180 + (1 : Int) ≤ 9223372036854775807)
    ∧ ∀ (w315 : World), Kept [] w311 w315 → Calls Tryz.prog 106 #[Value.slice dataa datan datac, Value.int IntKind.i64 (x180 + 1), Value.int IntKind.i64 x2, Value.int IntKind.i64
    x3] w315 fun (e120 : Ending) (w316 : World) => e120 = Ending.returned (Value.tuple #[]) ∧ KeepX false w.heap.size [] (fun _ => False) w315 w316 ∧ ∀ (w317 : World), Kept [] w316
    w317 → F1 [Lf.int IntKind.i64 x1, Lf.int IntKind.i64 x180, Lf.int IntKind.i64 x3, Lf.bool (decide ((x2 - x1).tdiv 8 ≤ x2 - x180)), Lf.bool t47] w317 ∧ F2 [Lf.int IntKind.i64
    x1, Lf.int IntKind.i64 x180, Lf.int IntKind.i64 x3, Lf.bool (decide ((x2 - x1).tdiv 8 ≤ x2 - x180)), Lf.bool t47] < F2 [Lf.int IntKind.i64 x1, Lf.int IntKind.i64 x2, Lf.int
    IntKind.i64 x3, Lf.bool t1, Lf.bool t2]))) ∧ (x1 ≤ 0 → ∀ (w318 : World), Kept [] w191 w318 → Calls Tryz.prog 175 #[Value.slice dataa datan datac, Value.int IntKind.i64 x1,
    Value.int IntKind.i64 x2, Value.int IntKind.i64 x110] w318 fun (e121 : Ending) (w319 : World) => ∃ (x185 : Int), ∃ (t48 : Bool), e121 = Ending.returned (Value.tuple #[Value.int
    IntKind.i64 x185, Value.bool t48]) ∧ KeepX false w.heap.size [] (fun _ => False) w318 w319 ∧ (-9223372036854775808 ≤ x185 - x1 ∧ x185 - x1 ≤ 9223372036854775807) ∧
    (-9223372036854775808 ≤ x2 - x185 ∧ x2 - x185 ≤ 9223372036854775807) ∧ ((8 : Int) ≠ 0 ∧ -9223372036854775808 ≤ (x2 - x1).tdiv 8 ∧ (x2 - x1).tdiv (8 : Int) ≤
    9223372036854775807) ∧ (x185 - x1 < x2 - x185 → ∀ (w320 : World), Kept [] w319 w320 → Calls Tryz.prog 106 #[Value.slice dataa datan datac, Value.int IntKind.i64 x1, Value.int
    IntKind.i64 x185, Value.int IntKind.i64 x3] w320 fun (e122 : Ending) (w321 : World) => e122 = Ending.returned (Value.tuple #[]) ∧ KeepX false w.heap.size [] (fun _ => False)
    w320 w321 ∧ (-9223372036854775808 ≤ x185 + 1 ∧ x185 + (1 : Int) ≤ 9223372036854775807) ∧ ∀ (w322 : World), Kept [] w321 w322 → F1 [Lf.int IntKind.i64 (x185 + 1), Lf.int
    IntKind.i64 x2, Lf.int IntKind.i64 x3, Lf.bool (decide ((x2 - x1).tdiv 8 ≤ x185 - x1)), Lf.bool t48] w322 ∧ F2 [Lf.int IntKind.i64 (x185 + 1), Lf.int IntKind.i64 x2, Lf.int
    IntKind.i64 x3, Lf.bool (decide ((x2 - x1).tdiv 8 ≤ x185 - x1)), Lf.bool t48] < F2 [Lf.int IntKind.i64 x1, Lf.int IntKind.i64 x2, Lf.int IntKind.i64 x3, Lf.bool t1, Lf.bool
    t2]) ∧ (x2 - x185 ≤ x185 - x1 → (-9223372036854775808 ≤ x185 + 1 ∧ x185 + (1 : Int) ≤ 9223372036854775807) ∧ ∀ (w323 : World), Kept [] w319 w323 → Calls Tryz.prog 106
    #[Value.slice dataa datan datac, Value.int IntKind.i64 (x185 + 1), Value.int IntKind.i64 x2, Value.int IntKind.i64 x3] w323 fun (e123 : Ending) (w324 : World) => e123 =
    Ending.returned (Value.tuple #[]) ∧ KeepX false w.heap.size [] (fun _ => False) w323 w324 ∧ ∀ (w325 : World), Kept [] w324 w325 → F1 [Lf.int IntKind.i64 x1, Lf.int IntKind.i64
    x185, Lf.int IntKind.i64 x3, Lf.bool (decide ((x2 - x1).tdiv 8 ≤ x2 - x185)), Lf.bool t48] w325 ∧ F2 [Lf.int IntKind.i64 x1, Lf.int IntKind.i64 x185, Lf.int IntKind.i64 x3,
    Lf.bool (decide ((x2 - x1).tdiv 8 ≤ x2 - x185)), Lf.bool t48] < F2 [Lf.int IntKind.i64 x1, Lf.int IntKind.i64 x2, Lf.int IntKind.i64 x3, Lf.bool t1, Lf.bool t2])))) ∧ (t2 =
    false → (0 < x1 → (-9223372036854775808 ≤ x1 - 1 ∧ x1 - (1 : Int) ≤ 9223372036854775807) ∧ ∃ (m404 : Nat), ∃ (m405 : Nat), dataa = some { block := m404, off := m405 } ∧ (0 ≤ x1
    - 1 ∧ x1 - 1 < (↑datan : Int)) ∧ ∃ (x190 : Int), w191.cell? { block := m404, off := m405 + (x1 - 1).toNat * 1 } = some (Value.int IntKind.i64 x190) ∧ ∃ (m406 : Nat), ∃ (m407 :
    Nat), dataa = some { block := m406, off := m407 } ∧ (0 ≤ x110 ∧ x110 < (↑datan : Int)) ∧ ∃ (x191 : Int), w191.cell? { block := m406, off := m407 + x110.toNat * 1 } = some
    (Value.int IntKind.i64 x191) ∧ ∀ (w326 : World), KeptIn [(0, w191.heap.size)] [] w191 w326 → Calls Tryz.prog 173 #[Value.int IntKind.i64 x190, Value.int IntKind.i64 x191] w326
    fun (e124 : Ending) (w327 : World) => ∃ (t49 : Bool), e124 = Ending.returned (Value.bool t49) ∧ KeepX false w.heap.size [] (fun _ => False) w326 w327 ∧ ((!t49) = true → ∀ (w328
    : World), Kept [] w327 w328 → Calls Tryz.prog 174 #[Value.slice dataa datan datac, Value.int IntKind.i64 x1, Value.int IntKind.i64 x2, Value.int IntKind.i64 x110] w328 fun
    (e125 : Ending) (w329 : World) => ∃ (x192 : Int), e125 = Ending.returned (Value.int IntKind.i64 x192) ∧ KeepX false w.heap.size [] (fun _ => False) w328 w329 ∧ ∀ (w330 :
    World), Kept [] w329 w330 → F1 [Lf.int IntKind.i64 x192, Lf.int IntKind.i64 x2, Lf.int IntKind.i64 x3, Lf.bool t1, Lf.bool t2] w330 ∧ F2 [Lf.int IntKind.i64 x192, Lf.int
    IntKind.i64 x2, Lf.int IntKind.i64 x3, Lf.bool t1, Lf.bool t2] < F2 [Lf.int IntKind.i64 x1, Lf.int IntKind.i64 x2, Lf.int IntKind.i64 x3, Lf.bool t1, Lf.bool t2]) ∧ ((!t49) =
    false → ∀ (w331 : World), Kept [] w327 w331 → Calls Tryz.prog 175 #[Value.slice dataa datan datac, Value.int IntKind.i64 x1, Value.int IntKind.i64 x2, Value.int IntKind.i64
    x110] w331 fun (e126 : Ending) (w332 : World) => ∃ (x193 : Int), ∃ (t50 : Bool), e126 = Ending.returned (Value.tuple #[Value.int IntKind.i64 x193, Value.bool t50]) ∧ KeepX
    false w.heap.size [] (fun _ => False) w331 w332 ∧ (-9223372036854775808 ≤ x193 - x1 ∧ x193 - x1 ≤ 9223372036854775807) ∧ (-9223372036854775808 ≤ x2 - x193 ∧ x2 - x193 ≤
    9223372036854775807) ∧ ((8 : Int) ≠ 0 ∧ -9223372036854775808 ≤ (x2 - x1).tdiv 8 ∧ (x2 - x1).tdiv (8 : Int) ≤ 9223372036854775807) ∧ (x193 - x1 < x2 - x193 → ∀ (w333 : World),
    Kept [] w332 w333 → Calls Tryz.prog 106 #[Value.slice dataa datan datac, Value.int IntKind.i64 x1, Value.int IntKind.i64 x193, Value.int IntKind.i64 x3] w333 fun (e127 :
    Ending) (w334 : World) => e127 = Ending.returned (Value.tuple #[]) ∧ KeepX false w.heap.size [] (fun _ => False) w333 w334 ∧ (-9223372036854775808 ≤ x193 + 1 ∧ x193 + (1 : Int)
    ≤ 9223372036854775807) ∧ ∀ (w335 : World), Kept [] w334 w335 → F1 [Lf.int IntKind.i64 (x193 + 1), Lf.int IntKind.i64 x2, Lf.int IntKind.i64 x3, Lf.bool (decide ((x2 - x1).tdiv
    8 ≤ x193 - x1)), Lf.bool t50] w335 ∧ F2 [Lf.int IntKind.i64 (x193 + 1), Lf.int IntKind.i64 x2, Lf.int IntKind.i64 x3, Lf.bool (decide ((x2 - x1).tdiv 8 ≤ x193 - x1)), Lf.bool
    t50] < F2 [Lf.int IntKind.i64 x1, Lf.int IntKind.i64 x2, Lf.int IntKind.i64 x3, Lf.bool t1, Lf.bool t2]) ∧ (x2 - x193 ≤ x193 - x1 → (-9223372036854775808 ≤ x193 + 1 ∧ x193 + (1
    : Int) ≤ 9223372036854775807) ∧ ∀ (w336 : World), Kept [] w332 w336 → Calls Tryz.prog 106 #[Value.slice dataa datan datac, Value.int IntKind.i64 (x193 + 1), Value.int
    IntKind.i64 x2, Value.int IntKind.i64 x3] w336 fun (e128 : Ending) (w337 : World) => e128 = Ending.returned (Value.tuple #[]) ∧ KeepX false w.heap.size [] (fun _ => False) w336
    w337 ∧ ∀ (w338 : World), Kept [] w337 w338 → F1 [Lf.int IntKind.i64 x1, Lf.int IntKind.i64 x193, Lf.int IntKind.i64 x3, Lf.bool (decide ((x2 - x1).tdiv 8 ≤ x2 - x193)), Lf.bool
    t50] w338 ∧ F2 [Lf.int IntKind.i64 x1, Lf.int IntKind.i64 x193, Lf.int IntKind.i64 x3, Lf.bool (decide ((x2 - x1).tdiv 8 ≤ x2 - x193)), Lf.bool t50] < F2 [Lf.int IntKind.i64
    x1, Lf.int IntKind.i64 x2, Lf.int IntKind.i64 x3, Lf.bool t1, Lf.bool t2]))) ∧ (x1 ≤ 0 → ∀ (w339 : World), Kept [] w191 w339 → Calls Tryz.prog 175 #[Value.slice dataa datan
    datac, Value.int IntKind.i64 x1, Value.int IntKind.i64 x2, Value.int IntKind.i64 x110] w339 fun (e129 : Ending) (w340 : World) => ∃ (x198 : Int), ∃ (t51 : Bool), e129 =
    Ending.returned (Value.tuple #[Value.int IntKind.i64 x198, Value.bool t51]) ∧ KeepX false w.heap.size [] (fun _ => False) w339 w340 ∧ (-9223372036854775808 ≤ x198 - x1 ∧ x198 -
    x1 ≤ 9223372036854775807) ∧ (-9223372036854775808 ≤ x2 - x198 ∧ x2 - x198 ≤ 9223372036854775807) ∧ ((8 : Int) ≠ 0 ∧ -9223372036854775808 ≤ (x2 - x1).tdiv 8 ∧ (x2 - x1).tdiv (8
    : Int) ≤ 9223372036854775807) ∧ (x198 - x1 < x2 - x198 → ∀ (w341 : World), Kept [] w340 w341 → Calls Tryz.prog 106 #[Value.slice dataa datan datac, Value.int IntKind.i64 x1,
    Value.int IntKind.i64 x198, Value.int IntKind.i64 x3] w341 fun (e130 : Ending) (w342 : World) => e130 = Ending.returned (Value.tuple #[]) ∧ KeepX false w.heap.size [] (fun _ =>
    False) w341 w342 ∧ (-9223372036854775808 ≤ x198 + 1 ∧ x198 + (1 : Int) ≤ 9223372036854775807) ∧ ∀ (w343 : World), Kept [] w342 w343 → F1 [Lf.int IntKind.i64 (x198 + 1), Lf.int
    IntKind.i64 x2, Lf.int IntKind.i64 x3, Lf.bool (decide ((x2 - x1).tdiv 8 ≤ x198 - x1)), Lf.bool t51] w343 ∧ F2 [Lf.int IntKind.i64 (x198 + 1), Lf.int IntKind.i64 x2, Lf.int
    IntKind.i64 x3, Lf.bool (decide ((x2 - x1).tdiv 8 ≤ x198 - x1)), Lf.bool t51] < F2 [Lf.int IntKind.i64 x1, Lf.int IntKind.i64 x2, Lf.int IntKind.i64 x3, Lf.bool t1, Lf.bool
    t2]) ∧ (x2 - x198 ≤ x198 - x1 → (-9223372036854775808 ≤ x198 + 1 ∧ x198 + (1 : Int) ≤ 9223372036854775807) ∧ ∀ (w344 : World), Kept [] w340 w344 → Calls Tryz.prog 106
    #[Value.slice dataa datan datac, Value.int IntKind.i64 (x198 + 1), Value.int IntKind.i64 x2, Value.int IntKind.i64 x3] w344 fun (e131 : Ending) (w345 : World) => e131 =
    Ending.returned (Value.tuple #[]) ∧ KeepX false w.heap.size [] (fun _ => False) w344 w345 ∧ ∀ (w346 : World), Kept [] w345 w346 → F1 [Lf.int IntKind.i64 x1, Lf.int IntKind.i64
    x198, Lf.int IntKind.i64 x3, Lf.bool (decide ((x2 - x1).tdiv 8 ≤ x2 - x198)), Lf.bool t51] w346 ∧ F2 [Lf.int IntKind.i64 x1, Lf.int IntKind.i64 x198, Lf.int IntKind.i64 x3,
    Lf.bool (decide ((x2 - x1).tdiv 8 ≤ x2 - x198)), Lf.bool t51] < F2 [Lf.int IntKind.i64 x1, Lf.int IntKind.i64 x2, Lf.int IntKind.i64 x3, Lf.bool t1, Lf.bool t2])))) ∧ (t1 =
    false → (0 < x1 → (-9223372036854775808 ≤ x1 - 1 ∧ x1 - (1 : Int) ≤ 9223372036854775807) ∧ ∃ (m432 : Nat), ∃ (m433 : Nat), dataa = some { block := m432, off := m433 } ∧ (0 ≤ x1
    - 1 ∧ x1 - 1 < (↑datan : Int)) ∧ ∃ (x203 : Int), w191.cell? { block := m432, off := m433 + (x1 - 1).toNat * 1 } = some (Value.int IntKind.i64 x203) ∧ ∃ (m434 : Nat), ∃ (m435 :
    Nat), dataa = some { block := m434, off := m435 } ∧ (0 ≤ x110 ∧ x110 < (↑datan : Int)) ∧ ∃ (x204 : Int), w191.cell? { block := m434, off := m435 + x110.toNat * 1 } = some
    (Value.int IntKind.i64 x204) ∧ ∀ (w347 : World), KeptIn [(0, w191.heap.size)] [] w191 w347 → Calls Tryz.prog 173 #[Value.int IntKind.i64 x203, Value.int IntKind.i64 x204] w347
    fun (e132 : Ending) (w348 : World) => ∃ (t52 : Bool), e132 = Ending.returned (Value.bool t52) ∧ KeepX false w.heap.size [] (fun _ => False) w347 w348 ∧ ((!t52) = true → ∀ (w349
    : World), Kept [] w348 w349 → Calls Tryz.prog 174 #[Value.slice dataa datan datac, Value.int IntKind.i64 x1, Value.int IntKind.i64 x2, Value.int IntKind.i64 x110] w349 fun
    (e133 : Ending) (w350 : World) => ∃ (x205 : Int), e133 = Ending.returned (Value.int IntKind.i64 x205) ∧ KeepX false w.heap.size [] (fun _ => False) w349 w350 ∧ ∀ (w351 :
    World), Kept [] w350 w351 → F1 [Lf.int IntKind.i64 x205, Lf.int IntKind.i64 x2, Lf.int IntKind.i64 x3, Lf.bool t1, Lf.bool t2] w351 ∧ F2 [Lf.int IntKind.i64 x205, Lf.int
    IntKind.i64 x2, Lf.int IntKind.i64 x3, Lf.bool t1, Lf.bool t2] < F2 [Lf.int IntKind.i64 x1, Lf.int IntKind.i64 x2, Lf.int IntKind.i64 x3, Lf.bool t1, Lf.bool t2]) ∧ ((!t52) =
    false → ∀ (w352 : World), Kept [] w348 w352 → Calls Tryz.prog 175 #[Value.slice dataa datan datac, Value.int IntKind.i64 x1, Value.int IntKind.i64 x2, Value.int IntKind.i64
    x110] w352 fun (e134 : Ending) (w353 : World) => ∃ (x206 : Int), ∃ (t53 : Bool), e134 = Ending.returned (Value.tuple #[Value.int IntKind.i64 x206, Value.bool t53]) ∧ KeepX
    false w.heap.size [] (fun _ => False) w352 w353 ∧ (-9223372036854775808 ≤ x206 - x1 ∧ x206 - x1 ≤ 9223372036854775807) ∧ (-9223372036854775808 ≤ x2 - x206 ∧ x2 - x206 ≤
    9223372036854775807) ∧ ((8 : Int) ≠ 0 ∧ -9223372036854775808 ≤ (x2 - x1).tdiv 8 ∧ (x2 - x1).tdiv (8 : Int) ≤ 9223372036854775807) ∧ (x206 - x1 < x2 - x206 → ∀ (w354 : World),
    Kept [] w353 w354 → Calls Tryz.prog 106 #[Value.slice dataa datan datac, Value.int IntKind.i64 x1, Value.int IntKind.i64 x206, Value.int IntKind.i64 x3] w354 fun (e135 :
    Ending) (w355 : World) => e135 = Ending.returned (Value.tuple #[]) ∧ KeepX false w.heap.size [] (fun _ => False) w354 w355 ∧ (-9223372036854775808 ≤ x206 + 1 ∧ x206 + (1 : Int)
    ≤ 9223372036854775807) ∧ ∀ (w356 : World), Kept [] w355 w356 → F1 [Lf.int IntKind.i64 (x206 + 1), Lf.int IntKind.i64 x2, Lf.int IntKind.i64 x3, Lf.bool (decide ((x2 - x1).tdiv
    8 ≤ x206 - x1)), Lf.bool t53] w356 ∧ F2 [Lf.int IntKind.i64 (x206 + 1), Lf.int IntKind.i64 x2, Lf.int IntKind.i64 x3, Lf.bool (decide ((x2 - x1).tdiv 8 ≤ x206 - x1)), Lf.bool
    t53] < F2 [Lf.int IntKind.i64 x1, Lf.int IntKind.i64 x2, Lf.int IntKind.i64 x3, Lf.bool t1, Lf.bool t2]) ∧ (x2 - x206 ≤ x206 - x1 → (-9223372036854775808 ≤ x206 + 1 ∧ x206 + (1
    : Int) ≤ 9223372036854775807) ∧ ∀ (w357 : World), Kept [] w353 w357 → Calls Tryz.prog 106 #[Value.slice dataa datan datac, Value.int IntKind.i64 (x206 + 1), Value.int
    IntKind.i64 x2, Value.int IntKind.i64 x3] w357 fun (e136 : Ending) (w358 : World) => e136 = Ending.returned (Value.tuple #[]) ∧ KeepX false w.heap.size [] (fun _ => False) w357
    w358 ∧ ∀ (w359 : World), Kept [] w358 w359 → F1 [Lf.int IntKind.i64 x1, Lf.int IntKind.i64 x206, Lf.int IntKind.i64 x3, Lf.bool (decide ((x2 - x1).tdiv 8 ≤ x2 - x206)), Lf.bool
    t53] w359 ∧ F2 [Lf.int IntKind.i64 x1, Lf.int IntKind.i64 x206, Lf.int IntKind.i64 x3, Lf.bool (decide ((x2 - x1).tdiv 8 ≤ x2 - x206)), Lf.bool t53] < F2 [Lf.int IntKind.i64
    x1, Lf.int IntKind.i64 x2, Lf.int IntKind.i64 x3, Lf.bool t1, Lf.bool t2]))) ∧ (x1 ≤ 0 → ∀ (w360 : World), Kept [] w191 w360 → Calls Tryz.prog 175 #[Value.slice dataa datan
    datac, Value.int IntKind.i64 x1, Value.int IntKind.i64 x2, Value.int IntKind.i64 x110] w360 fun (e137 : Ending) (w361 : World) => ∃ (x211 : Int), ∃ (t54 : Bool), e137 =
    Ending.returned (Value.tuple #[Value.int IntKind.i64 x211, Value.bool t54]) ∧ KeepX false w.heap.size [] (fun _ => False) w360 w361 ∧ (-9223372036854775808 ≤ x211 - x1 ∧ x211 -
    x1 ≤ 9223372036854775807) ∧ (-9223372036854775808 ≤ x2 - x211 ∧ x2 - x211 ≤ 9223372036854775807) ∧ ((8 : Int) ≠ 0 ∧ -9223372036854775808 ≤ (x2 - x1).tdiv 8 ∧ (x2 - x1).tdiv (8
    : Int) ≤ 9223372036854775807) ∧ (x211 - x1 < x2 - x211 → ∀ (w362 : World), Kept [] w361 w362 → Calls Tryz.prog 106 #[Value.slice dataa datan datac, Value.int IntKind.i64 x1,
    Value.int IntKind.i64 x211, Value.int IntKind.i64 x3] w362 fun (e138 : Ending) (w363 : World) => e138 = Ending.returned (Value.tuple #[]) ∧ KeepX false w.heap.size [] (fun _ =>
    False) w362 w363 ∧ (-9223372036854775808 ≤ x211 + 1 ∧ x211 + (1 : Int) ≤ 9223372036854775807) ∧ ∀ (w364 : World), Kept [] w363 w364 → F1 [Lf.int IntKind.i64 (x211 + 1), Lf.int
    IntKind.i64 x2, Lf.int IntKind.i64 x3, Lf.bool (decide ((x2 - x1).tdiv 8 ≤ x211 - x1)), Lf.bool t54] w364 ∧ F2 [Lf.int IntKind.i64 (x211 + 1), Lf.int IntKind.i64 x2, Lf.int
    IntKind.i64 x3, Lf.bool (decide ((x2 - x1).tdiv 8 ≤ x211 - x1)), Lf.bool t54] < F2 [Lf.int IntKind.i64 x1, Lf.int IntKind.i64 x2, Lf.int IntKind.i64 x3, Lf.bool t1, Lf.bool
    t2]) ∧ (x2 - x211 ≤ x211 - x1 → (-9223372036854775808 ≤ x211 + 1 ∧ x211 + (1 : Int) ≤ 9223372036854775807) ∧ ∀ (w365 : World), Kept [] w361 w365 → Calls Tryz.prog 106
    #[Value.slice dataa datan datac, Value.int IntKind.i64 (x211 + 1), Value.int IntKind.i64 x2, Value.int IntKind.i64 x3] w365 fun (e139 : Ending) (w366 : World) => e139 =
    Ending.returned (Value.tuple #[]) ∧ KeepX false w.heap.size [] (fun _ => False) w365 w366 ∧ ∀ (w367 : World), Kept [] w366 w367 → F1 [Lf.int IntKind.i64 x1, Lf.int IntKind.i64
    x211, Lf.int IntKind.i64 x3, Lf.bool (decide ((x2 - x1).tdiv 8 ≤ x2 - x211)), Lf.bool t54] w367 ∧ F2 [Lf.int IntKind.i64 x1, Lf.int IntKind.i64 x211, Lf.int IntKind.i64 x3,
    Lf.bool (decide ((x2 - x1).tdiv 8 ≤ x2 - x211)), Lf.bool t54] < F2 [Lf.int IntKind.i64 x1, Lf.int IntKind.i64 x2, Lf.int IntKind.i64 x3, Lf.bool t1, Lf.bool t2])))))))) : Calls
    Tryz.prog 106 #[Value.slice dataa datan datac, Value.int IntKind.i64 a, Value.int IntKind.i64 b, Value.int IntKind.i64 limit] w R := calls_of_vc (pure := false) (wrapAt := [])
    (muts := []) (esc := []) (args := [SV.pv (PV.one (Lf.sl dataa datan datac)), SV.pv (PV.one (Lf.int IntKind.i64 a)), SV.pv (PV.one (Lf.int IntKind.i64 b)), SV.pv (PV.one (Lf.int
    IntKind.i64 limit))]) (vs := [Value.slice dataa datan datac, Value.int IntKind.i64 a, Value.int IntKind.i64 b, Value.int IntKind.i64 limit]) Tryz.func106 rfl rfl rfl (Eq.mp (by
    kernel_rfl) h) 
set_option maxRecDepth 100000 in
set_option maxHeartbeats 2000000 in
theorem vc197 (dataa : Option Addr) (datan : Nat) (datac : Nat) (a : Int) (b : Int) (limit : Int) (cmpf : Nat) (cmpi : List Value) (cmpc : List Value) (w : World) (R : Ending →
    World → Prop) (h : ∃ (F1 : List Lf → World → Prop), ∃ (F2 : List Lf → Nat), (∀ (w2 : World), RowKit.Below w.heap.size w w2 → Kept [] w w2 → F1 [Lf.int IntKind.i64 a, Lf.int
    IntKind.i64 b, Lf.int IntKind.i64 limit, Lf.bool true, Lf.bool true] w2) ∧ ∀ (x1 x2 x3 : Int) (t1 t2 : Bool) (w3 : World), RowKit.Below w.heap.size w w3 → F1 [Lf.int
    IntKind.i64 x1, Lf.int IntKind.i64 x2, Lf.int IntKind.i64 x3, Lf.bool t1, Lf.bool t2] w3 → (-9223372036854775808 ≤ x2 - x1 ∧ x2 - x1 ≤ 9223372036854775807) ∧ (x2 - x1 ≤ 12 → ∀
    (w4 : World), RowKit.Below w.heap.size w w4 → Kept [] w3 w4 → Calls Tryz.prog 220 #[Value.slice dataa datan datac, Value.int IntKind.i64 x1, Value.int IntKind.i64 x2,
    Value.func (Fn.func cmpf) cmpi.toArray cmpc.toArray] w4 fun (e1 : Ending) (w5 : World) => e1 = Ending.returned (Value.tuple #[]) ∧ KeepX true w.heap.size [] (fun _ => False) w4
    w5 ∧ ∀ (w6 : World), RowKit.Below w.heap.size w w6 → Kept [] w5 w6 → R (Ending.returned (Value.tuple #[])) w6) ∧ (12 < x2 - x1 → (x3 = 0 → ∀ (w7 : World), RowKit.Below
    w.heap.size w w7 → Kept [] w3 w7 → Calls Tryz.prog 221 #[Value.slice dataa datan datac, Value.int IntKind.i64 x1, Value.int IntKind.i64 x2, Value.func (Fn.func cmpf)
    cmpi.toArray cmpc.toArray] w7 fun (e2 : Ending) (w8 : World) => e2 = Ending.returned (Value.tuple #[]) ∧ KeepX true w.heap.size [] (fun _ => False) w7 w8 ∧ ∀ (w9 : World),
    RowKit.Below w.heap.size w w9 → Kept [] w8 w9 → R (Ending.returned (Value.tuple #[])) w9) ∧ (x3 ≠ 0 → ((!t1) = true → ∀ (w10 : World), RowKit.Below w.heap.size w w10 → Kept []
    w3 w10 → Calls Tryz.prog 222 #[Value.slice dataa datan datac, Value.int IntKind.i64 x1, Value.int IntKind.i64 x2, Value.func (Fn.func cmpf) cmpi.toArray cmpc.toArray] w10 fun
    (e3 : Ending) (w11 : World) => e3 = Ending.returned (Value.tuple #[]) ∧ KeepX true w.heap.size [] (fun _ => False) w10 w11 ∧ (-9223372036854775808 ≤ x3 - 1 ∧ x3 - (1 : Int) ≤
    9223372036854775807) ∧ ∀ (w12 : World), RowKit.Below w.heap.size w w12 → Kept [] w11 w12 → Calls Tryz.prog 223 #[Value.slice dataa datan datac, Value.int IntKind.i64 x1,
    Value.int IntKind.i64 x2, Value.func (Fn.func cmpf) cmpi.toArray cmpc.toArray] w12 fun (e4 : Ending) (w13 : World) => ∃ (x4 : Int), ∃ (x5 : Int), e4 = Ending.returned
    (Value.tuple #[Value.int IntKind.i64 x4, Value.int IntKind.i64 x5]) ∧ KeepX true w.heap.size [] (fun _ => False) w12 w13 ∧ (x5 = 2 → ∀ (w14 : World), RowKit.Below w.heap.size w
    w14 → Kept [] w13 w14 → Calls Tryz.prog 224 #[Value.slice dataa datan datac, Value.int IntKind.i64 x1, Value.int IntKind.i64 x2, Value.func (Fn.func cmpf) cmpi.toArray
    cmpc.toArray] w14 fun (e5 : Ending) (w15 : World) => e5 = Ending.returned (Value.tuple #[]) ∧ KeepX true w.heap.size [] (fun _ => False) w14 w15 ∧ (-9223372036854775808 ≤ x2 -
    1 ∧ x2 - (1 : Int) ≤ 9223372036854775807) ∧ (-9223372036854775808 ≤ x4 - x1 ∧ x4 - x1 ≤ 9223372036854775807) ∧ (-9223372036854775808 ≤ x2 - 1 - (x4 - x1) ∧ x2 - 1 - (x4 - x1) ≤
    9223372036854775807) ∧ (t1 = true → (t2 = true → ((1 : Int) = 1 → ∀ (w16 : World), RowKit.Below w.heap.size w w16 → Kept [] w15 w16 → Calls Tryz.prog 225 #[Value.slice dataa
    datan datac, Value.int IntKind.i64 x1, Value.int IntKind.i64 x2, Value.func (Fn.func cmpf) cmpi.toArray cmpc.toArray] w16 fun (e6 : Ending) (w17 : World) => ∃ (t3 : Bool), e6 =
    Ending.returned (Value.bool t3) ∧ KeepX true w.heap.size [] (fun _ => False) w16 w17 ∧ (t3 = true → ∀ (w18 : World), RowKit.Below w.heap.size w w18 → Kept [] w17 w18 → R
    (Ending.returned (Value.tuple #[])) w18) ∧ (t3 = false → (0 < x1 → (-9223372036854775808 ≤ x1 - 1 ∧ x1 - (1 : Int) ≤ 9223372036854775807) ∧ ∃ (m7 : Nat), ∃ (m8 : Nat), dataa =
    some { block := m7, off := m8 } ∧ (0 ≤ x1 - 1 ∧ x1 - 1 < (↑datan : Int)) ∧ ∃ (x6 : Int), ∃ (x7 : Int), w17.cell? { block := m7, off := m8 + (x1 - 1).toNat * 2 } = some
    (Value.int IntKind.i64 x6) ∧ w17.cell? { block := m7, off := m8 + (x1 - 1).toNat * 2 + 1 } = some (Value.int IntKind.i64 x7) ∧ ∃ (m9 : Nat), ∃ (m10 : Nat), dataa = some
    { block := m9, off := m10 } ∧ (0 ≤ x2 - 1 - (x4 - x1) ∧ x2 - 1 - (x4 - x1) < (↑datan : Int)) ∧ ∃ (x8 : Int), ∃ (x9 : Int), w17.cell?
    { block := m9, off := m10 + (x2 - 1 - (x4 - x1)).toNat * 2 } = some (Value.int IntKind.i64 x8) ∧ w17.cell? { block := m9, off := m10 + (x2 - 1 - (x4 - x1)).toNat * 2 + 1 } =
    some (Value.int IntKind.i64 x9) ∧ Callable Tryz.prog cmpf ∧ ∀ (w19 : World), RowKit.Below w.heap.size w w19 → KeptIn [(0, w17.heap.size)] [] w17 w19 → Calls Tryz.prog cmpf
    (cmpi ++ [Value.agg #[Value.int IntKind.i64 x6, Value.int IntKind.i64 x7], Value.agg #[Value.int IntKind.i64 x8, Value.int IntKind.i64 x9]] ++ cmpc).toArray w19 fun (e7 :
    Ending) (w20 : World) => ∃ (x10 : Int), e7 = Ending.returned (Value.int IntKind.i64 x10) ∧ KeepX true w.heap.size [] (fun _ => False) w19 w20 ∧ (0 ≤ x10 → ∀ (w21 : World),
    RowKit.Below w.heap.size w w21 → Kept [] w20 w21 → Calls Tryz.prog 226 #[Value.slice dataa datan datac, Value.int IntKind.i64 x1, Value.int IntKind.i64 x2, Value.int
    IntKind.i64 (x2 - 1 - (x4 - x1)), Value.func (Fn.func cmpf) cmpi.toArray cmpc.toArray] w21 fun (e8 : Ending) (w22 : World) => ∃ (x11 : Int), e8 = Ending.returned (Value.int
    IntKind.i64 x11) ∧ KeepX true w.heap.size [] (fun _ => False) w21 w22 ∧ ∀ (w23 : World), RowKit.Below w.heap.size w w23 → Kept [] w22 w23 → F1 [Lf.int IntKind.i64 x11, Lf.int
    IntKind.i64 x2, Lf.int IntKind.i64 (x3 - 1), Lf.bool t1, Lf.bool t2] w23 ∧ F2 [Lf.int IntKind.i64 x11, Lf.int IntKind.i64 x2, Lf.int IntKind.i64 (x3 - 1), Lf.bool t1, Lf.bool
    t2] < F2 [Lf.int IntKind.i64 x1, Lf.int IntKind.i64 x2, Lf.int IntKind.i64 x3, Lf.bool t1, Lf.bool t2]) ∧ (x10 < 0 → ∀ (w24 : World), RowKit.Below w.heap.size w w24 → Kept []
    w20 w24 → Calls Tryz.prog 227 #[Value.slice dataa datan datac, Value.int IntKind.i64 x1, Value.int IntKind.i64 x2, Value.int IntKind.i64 (x2 - 1 - (x4 - x1)), Value.func
    (Fn.func cmpf) cmpi.toArray cmpc.toArray] w24 fun (e9 : Ending) (w25 : World) => ∃ (x12 : Int), ∃ (t4 : Bool), e9 = Ending.returned (Value.tuple #[Value.int IntKind.i64 x12,
    Value.bool t4]) ∧ KeepX true w.heap.size [] (fun _ => False) w24 w25 ∧ (-9223372036854775808 ≤ x12 - x1 ∧ x12 - x1 ≤ 9223372036854775807) ∧ (-9223372036854775808 ≤ x2 - x12 ∧
    x2 - x12 ≤ 9223372036854775807) ∧ ((8 : Int) ≠ 0 ∧ -9223372036854775808 ≤ (x2 - x1).tdiv 8 ∧ (x2 - x1).tdiv (8 : Int) ≤ 9223372036854775807) ∧ (x12 - x1 < x2 - x12 → ∀ (w26 :
    World), RowKit.Below w.heap.size w w26 → Kept [] w25 w26 → Calls Tryz.prog 197 #[Value.slice dataa datan datac, Value.int IntKind.i64 x1, Value.int IntKind.i64 x12, Value.int
    IntKind.i64 (x3 - 1), Value.func (Fn.func cmpf) cmpi.toArray cmpc.toArray] w26 fun (e10 : Ending) (w27 : World) => e10 = Ending.returned (Value.tuple #[]) ∧ KeepX true
    w.heap.size [] (fun _ => False) w26 w27 ∧ (-9223372036854775808 ≤ x12 + 1 ∧ x12 + (1 : Int) ≤ 9223372036854775807) ∧ ∀ (w28 : World), RowKit.Below w.heap.size w w28 → Kept []
    w27 w28 → F1 [Lf.int IntKind.i64 (x12 + 1), Lf.int IntKind.i64 x2, Lf.int IntKind.i64 (x3 - 1), Lf.bool (decide ((x2 - x1).tdiv 8 ≤ x12 - x1)), Lf.bool t4] w28 ∧ F2 [Lf.int
    IntKind.i64 (x12 + 1), Lf.int IntKind.i64 x2, Lf.int IntKind.i64 (x3 - 1), Lf.bool (decide ((x2 - x1).tdiv 8 ≤ x12 - x1)), Lf.bool t4] < F2 [Lf.int IntKind.i64 x1, Lf.int
    IntKind.i64 x2, Lf.int IntKind.i64 x3, Lf.bool t1, Lf.bool t2]) ∧ (x2 - x12 ≤ x12 - x1 → (-9223372036854775808 ≤ x12 + 1 ∧ x12 + (1 : Int) ≤ 9223372036854775807) ∧ ∀ (w29 :
    World), RowKit.Below w.heap.size w w29 → Kept [] w25 w29 → Calls Tryz.prog 197 #[Value.slice dataa datan datac, Value.int IntKind.i64 (x12 + 1), Value.int IntKind.i64 x2,
    Value.int IntKind.i64 (x3 - 1), Value.func (Fn.func cmpf) cmpi.toArray cmpc.toArray] w29 fun (e11 : Ending) (w30 : World) => e11 = Ending.returned (Value.tuple #[]) ∧ KeepX
    true w.heap.size [] (fun _ => False) w29 w30 ∧ ∀ (w31 : World), RowKit.Below w.heap.size w w31 → Kept [] w30 w31 → F1 [Lf.int IntKind.i64 x1, Lf.int IntKind.i64 x12, Lf.int
    IntKind.i64 (x3 - 1), Lf.bool (decide ((x2 - x1).tdiv 8 ≤ x2 - x12)), Lf.bool t4] w31 ∧ F2 [Lf.int IntKind.i64 x1, Lf.int IntKind.i64 x12, Lf.int IntKind.i64 (x3 - 1), Lf.bool
    (decide ((x2 - x1).tdiv 8 ≤ x2 - x12)), Lf.bool t4] < F2 [Lf.int IntKind.i64 x1, Lf.int IntKind.i64 x2, Lf.int IntKind.i64 x3, Lf.bool t1, Lf.bool t2]))) ∧ (x1 ≤ 0 → ∀ (w32 :
    World), RowKit.Below w.heap.size w w32 → Kept [] w17 w32 → Calls Tryz.prog 227 #[Value.slice dataa datan datac, Value.int IntKind.i64 x1, Value.int IntKind.i64 x2, Value.int
    IntKind.i64 (x2 - 1 - (x4 - x1)), Value.func (Fn.func cmpf) cmpi.toArray cmpc.toArray] w32 fun (e12 : Ending) (w33 : World) => ∃ (x17 : Int), ∃ (t5 : Bool), e12 =
    Ending.returned (Value.tuple #[Value.int IntKind.i64 x17, Value.bool t5]) ∧ KeepX true w.heap.size [] (fun _ => False) w32 w33 ∧ (-9223372036854775808 ≤ x17 - x1 ∧ x17 - x1 ≤
    9223372036854775807) ∧ (-9223372036854775808 ≤ x2 - x17 ∧ x2 - x17 ≤ 9223372036854775807) ∧ ((8 : Int) ≠ 0 ∧ -9223372036854775808 ≤ (x2 - x1).tdiv 8 ∧ (x2 - x1).tdiv (8 : Int)
    ≤ 9223372036854775807) ∧ (x17 - x1 < x2 - x17 → ∀ (w34 : World), RowKit.Below w.heap.size w w34 → Kept [] w33 w34 → Calls Tryz.prog 197 #[Value.slice dataa datan datac,
    Value.int IntKind.i64 x1, Value.int IntKind.i64 x17, Value.int IntKind.i64 (x3 - 1), Value.func (Fn.func cmpf) cmpi.toArray cmpc.toArray] w34 fun (e13 : Ending) (w35 : World)
    => e13 = Ending.returned (Value.tuple #[]) ∧ KeepX true w.heap.size [] (fun _ => False) w34 w35 ∧ (-9223372036854775808 ≤ x17 + 1 ∧ x17 + (1 : Int) ≤ 9223372036854775807) ∧ ∀
    (w36 : World), RowKit.Below w.heap.size w w36 → Kept [] w35 w36 → F1 [Lf.int IntKind.i64 (x17 + 1), Lf.int IntKind.i64 x2, Lf.int IntKind.i64 (x3 - 1), Lf.bool (decide ((x2 -
    x1).tdiv 8 ≤ x17 - x1)), Lf.bool t5] w36 ∧ F2 [Lf.int IntKind.i64 (x17 + 1), Lf.int IntKind.i64 x2, Lf.int IntKind.i64 (x3 - 1), Lf.bool (decide ((x2 - x1).tdiv 8 ≤ x17 - x1)),
    Lf.bool t5] < F2 [Lf.int IntKind.i64 x1, Lf.int IntKind.i64 x2, Lf.int IntKind.i64 x3, Lf.bool t1, Lf.bool t2]) ∧ (x2 - x17 ≤ x17 - x1 → (-9223372036854775808 ≤ x17 + 1 ∧ x17 +
    (1 : Int) ≤ 9223372036854775807) ∧ ∀ (w37 : World), RowKit.Below w.heap.size w w37 → Kept [] w33 w37 → Calls Tryz.prog 197 #[Value.slice dataa datan datac, Value.int
    IntKind.i64 (x17 + 1), Value.int IntKind.i64 x2, Value.int IntKind.i64 (x3 - 1), Value.func (Fn.func cmpf) cmpi.toArray cmpc.toArray] w37 fun (e14 : Ending) (w38 : World) =>
    e14 = Ending.returned (Value.tuple #[]) ∧ KeepX true w.heap.size [] (fun _ => False) w37 w38 ∧ ∀ (w39 : World), RowKit.Below w.heap.size w w39 → Kept [] w38 w39 → F1 [Lf.int
    IntKind.i64 x1, Lf.int IntKind.i64 x17, Lf.int IntKind.i64 (x3 - 1), Lf.bool (decide ((x2 - x1).tdiv 8 ≤ x2 - x17)), Lf.bool t5] w39 ∧ F2 [Lf.int IntKind.i64 x1, Lf.int
    IntKind.i64 x17, Lf.int IntKind.i64 (x3 - 1), Lf.bool (decide ((x2 - x1).tdiv 8 ≤ x2 - x17)), Lf.bool t5] < F2 [Lf.int IntKind.i64 x1, Lf.int IntKind.i64 x2, Lf.int IntKind.i64
    x3, Lf.bool t1, Lf.bool t2])))) ∧ ((1 : Int) ≠ 1 → (0 < x1 → (-9223372036854775808 ≤ x1 - 1 ∧ x1 - (1 : Int) ≤ 9223372036854775807) ∧ ∃ (m35 : Nat), ∃ (m36 : Nat), dataa = some
    { block := m35, off := m36 } ∧ (0 ≤ x1 - 1 ∧ x1 - 1 < (↑datan : Int)) ∧ ∃ (x22 : Int), ∃ (x23 : Int), w15.cell? { block := m35, off := m36 + (x1 - 1).toNat * 2 } = some
    (Value.int IntKind.i64 x22) ∧ w15.cell? { block := m35, off := m36 + (x1 - 1).toNat * 2 + 1 } = some (Value.int IntKind.i64 x23) ∧ ∃ (m37 : Nat), ∃ (m38 : Nat), dataa = some
    { block := m37, off := m38 } ∧ (0 ≤ x2 - 1 - (x4 - x1) ∧ x2 - 1 - (x4 - x1) < (↑datan : Int)) ∧ ∃ (x24 : Int), ∃ (x25 : Int), w15.cell?
    { block := m37, off := m38 + (x2 - 1 - (x4 - x1)).toNat * 2 } = some (Value.int IntKind.i64 x24) ∧ w15.cell? { block := m37, off := m38 + (x2 - 1 - (x4 - x1)).toNat * 2 + 1 } =
    some (Value.int IntKind.i64 x25) ∧ Callable Tryz.prog cmpf ∧ ∀ (w40 : World), RowKit.Below w.heap.size w w40 → KeptIn [(0, w15.heap.size)] [] w15 w40 → Calls Tryz.prog cmpf
    (cmpi ++ [Value.agg #[Value.int IntKind.i64 x22, Value.int IntKind.i64 x23], Value.agg #[Value.int IntKind.i64 x24, Value.int IntKind.i64 x25]] ++ cmpc).toArray w40 fun (e15 :
    Ending) (w41 : World) => ∃ (x26 : Int), e15 = Ending.returned (Value.int IntKind.i64 x26) ∧ KeepX true w.heap.size [] (fun _ => False) w40 w41 ∧ (0 ≤ x26 → ∀ (w42 : World),
    RowKit.Below w.heap.size w w42 → Kept [] w41 w42 → Calls Tryz.prog 226 #[Value.slice dataa datan datac, Value.int IntKind.i64 x1, Value.int IntKind.i64 x2, Value.int
    IntKind.i64 (x2 - 1 - (x4 - x1)), Value.func (Fn.func cmpf) cmpi.toArray cmpc.toArray] w42 fun (e16 : Ending) (w43 : World) => ∃ (x27 : Int), e16 = Ending.returned (Value.int
    IntKind.i64 x27) ∧ KeepX true w.heap.size [] (fun _ => False) w42 w43 ∧ ∀ (w44 : World), RowKit.Below w.heap.size w w44 → Kept [] w43 w44 → F1 [Lf.int IntKind.i64 x27, Lf.int
    IntKind.i64 x2, Lf.int IntKind.i64 (x3 - 1), Lf.bool t1, Lf.bool t2] w44 ∧ F2 [Lf.int IntKind.i64 x27, Lf.int IntKind.i64 x2, Lf.int IntKind.i64 (x3 - 1), Lf.bool t1, Lf.bool
    t2] < F2 [Lf.int IntKind.i64 x1, Lf.int IntKind.i64 x2, Lf.int IntKind.i64 x3, Lf.bool t1, Lf.bool t2]) ∧ (x26 < 0 → ∀ (w45 : World), RowKit.Below w.heap.size w w45 → Kept []
    w41 w45 → Calls Tryz.prog 227 #[Value.slice dataa datan datac, Value.int IntKind.i64 x1, Value.int IntKind.i64 x2, Value.int IntKind.i64 (x2 - 1 - (x4 - x1)), Value.func
    (Fn.func cmpf) cmpi.toArray cmpc.toArray] w45 fun (e17 : Ending) (w46 : World) => ∃ (x28 : Int), ∃ (t6 : Bool), e17 = Ending.returned (Value.tuple #[Value.int IntKind.i64 x28,
    Value.bool t6]) ∧ KeepX true w.heap.size [] (fun _ => False) w45 w46 ∧ (-9223372036854775808 ≤ x28 - x1 ∧ x28 - x1 ≤ 9223372036854775807) ∧ (-9223372036854775808 ≤ x2 - x28 ∧
    x2 - x28 ≤ 9223372036854775807) ∧ ((8 : Int) ≠ 0 ∧ -9223372036854775808 ≤ (x2 - x1).tdiv 8 ∧ (x2 - x1).tdiv (8 : Int) ≤ 9223372036854775807) ∧ (x28 - x1 < x2 - x28 → ∀ (w47 :
    World), RowKit.Below w.heap.size w w47 → Kept [] w46 w47 → Calls Tryz.prog 197 #[Value.slice dataa datan datac, Value.int IntKind.i64 x1, Value.int IntKind.i64 x28, Value.int
    IntKind.i64 (x3 - 1), Value.func (Fn.func cmpf) cmpi.toArray cmpc.toArray] w47 fun (e18 : Ending) (w48 : World) => e18 = Ending.returned (Value.tuple #[]) ∧ KeepX true
    w.heap.size [] (fun _ => False) w47 w48 ∧ (-9223372036854775808 ≤ x28 + 1 ∧ x28 + (1 : Int) ≤ 9223372036854775807) ∧ ∀ (w49 : World), RowKit.Below w.heap.size w w49 → Kept []
    w48 w49 → F1 [Lf.int IntKind.i64 (x28 + 1), Lf.int IntKind.i64 x2, Lf.int IntKind.i64 (x3 - 1), Lf.bool (decide ((x2 - x1).tdiv 8 ≤ x28 - x1)), Lf.bool t6] w49 ∧ F2 [Lf.int
    IntKind.i64 (x28 + 1), Lf.int IntKind.i64 x2, Lf.int IntKind.i64 (x3 - 1), Lf.bool (decide ((x2 - x1).tdiv 8 ≤ x28 - x1)), Lf.bool t6] < F2 [Lf.int IntKind.i64 x1, Lf.int
    IntKind.i64 x2, Lf.int IntKind.i64 x3, Lf.bool t1, Lf.bool t2]) ∧ (x2 - x28 ≤ x28 - x1 → (-9223372036854775808 ≤ x28 + 1 ∧ x28 + (1 : Int) ≤ 9223372036854775807) ∧ ∀ (w50 :
    World), RowKit.Below w.heap.size w w50 → Kept [] w46 w50 → Calls Tryz.prog 197 #[Value.slice dataa datan datac, Value.int IntKind.i64 (x28 + 1), Value.int IntKind.i64 x2,
    Value.int IntKind.i64 (x3 - 1), Value.func (Fn.func cmpf) cmpi.toArray cmpc.toArray] w50 fun (e19 : Ending) (w51 : World) => e19 = Ending.returned (Value.tuple #[]) ∧ KeepX
    true w.heap.size [] (fun _ => False) w50 w51 ∧ ∀ (w52 : World), RowKit.Below w.heap.size w w52 → Kept [] w51 w52 → F1 [Lf.int IntKind.i64 x1, Lf.int IntKind.i64 x28, Lf.int
    IntKind.i64 (x3 - 1), Lf.bool (decide ((x2 - x1).tdiv 8 ≤ x2 - x28)), Lf.bool t6] w52 ∧ F2 [Lf.int IntKind.i64 x1, Lf.int IntKind.i64 x28, Lf.int IntKind.i64 (x3 - 1), Lf.bool
    (decide ((x2 - x1).tdiv 8 ≤ x2 - x28)), Lf.bool t6] < F2 [Lf.int IntKind.i64 x1, Lf.int IntKind.i64 x2, Lf.int IntKind.i64 x3, Lf.bool t1, Lf.bool t2]))) ∧ (x1 ≤ 0 → ∀ (w53 :
    World), RowKit.Below w.heap.size w w53 → Kept [] w15 w53 → Calls Tryz.prog 227 #[Value.slice dataa datan datac, Value.int IntKind.i64 x1, Value.int IntKind.i64 x2, Value.int
    IntKind.i64 (x2 - 1 - (x4 - x1)), Value.func (Fn.func cmpf) cmpi.toArray cmpc.toArray] w53 fun (e20 : Ending) (w54 : World) => ∃ (x33 : Int), ∃ (t7 : Bool), e20 =
    Ending.returned (Value.tuple #[Value.int IntKind.i64 x33, Value.bool t7]) ∧ KeepX true w.heap.size [] (fun _ => False) w53 w54 ∧ (-9223372036854775808 ≤ x33 - x1 ∧ x33 - x1 ≤
    9223372036854775807) ∧ (-9223372036854775808 ≤ x2 - x33 ∧ x2 - x33 ≤ 9223372036854775807) ∧ ((8 : Int) ≠ 0 ∧ -9223372036854775808 ≤ (x2 - x1).tdiv 8 ∧ (x2 - x1).tdiv (8 : Int)
    ≤ 9223372036854775807) ∧ (x33 - x1 < x2 - x33 → ∀ (w55 : World), RowKit.Below w.heap.size w w55 → Kept [] w54 w55 → Calls Tryz.prog 197 #[Value.slice dataa datan datac,
    Value.int IntKind.i64 x1, Value.int IntKind.i64 x33, Value.int IntKind.i64 (x3 - 1), Value.func (Fn.func cmpf) cmpi.toArray cmpc.toArray] w55 fun (e21 : Ending) (w56 : World)
    => e21 = Ending.returned (Value.tuple #[]) ∧ KeepX true w.heap.size [] (fun _ => False) w55 w56 ∧ (-9223372036854775808 ≤ x33 + 1 ∧ x33 + (1 : Int) ≤ 9223372036854775807) ∧ ∀
    (w57 : World), RowKit.Below w.heap.size w w57 → Kept [] w56 w57 → F1 [Lf.int IntKind.i64 (x33 + 1), Lf.int IntKind.i64 x2, Lf.int IntKind.i64 (x3 - 1), Lf.bool (decide ((x2 -
    x1).tdiv 8 ≤ x33 - x1)), Lf.bool t7] w57 ∧ F2 [Lf.int IntKind.i64 (x33 + 1), Lf.int IntKind.i64 x2, Lf.int IntKind.i64 (x3 - 1), Lf.bool (decide ((x2 - x1).tdiv 8 ≤ x33 - x1)),
    Lf.bool t7] < F2 [Lf.int IntKind.i64 x1, Lf.int IntKind.i64 x2, Lf.int IntKind.i64 x3, Lf.bool t1, Lf.bool t2]) ∧ (x2 - x33 ≤ x33 - x1 → (-9223372036854775808 ≤ x33 + 1 ∧ x33 +
    (1 : Int) ≤ 9223372036854775807) ∧ ∀ (w58 : World), RowKit.Below w.heap.size w w58 → Kept [] w54 w58 → Calls Tryz.prog 197 #[Value.slice dataa datan datac, Value.int
    IntKind.i64 (x33 + 1), Value.int IntKind.i64 x2, Value.int IntKind.i64 (x3 - 1), Value.func (Fn.func cmpf) cmpi.toArray cmpc.toArray] w58 fun (e22 : Ending) (w59 : World) =>
    e22 = Ending.returned (Value.tuple #[]) ∧ KeepX true w.heap.size [] (fun _ => False) w58 w59 ∧ ∀ (w60 : World), RowKit.Below w.heap.size w w60 → Kept [] w59 w60 → F1 [Lf.int
    IntKind.i64 x1, Lf.int IntKind.i64 x33, Lf.int IntKind.i64 (x3 - 1), Lf.bool (decide ((x2 - x1).tdiv 8 ≤ x2 - x33)), Lf.bool t7] w60 ∧ F2 [Lf.int IntKind.i64 x1, Lf.int
    IntKind.i64 x33, Lf.int IntKind.i64 (x3 - 1), Lf.bool (decide ((x2 - x1).tdiv 8 ≤ x2 - x33)), Lf.bool t7] < F2 [Lf.int IntKind.i64 x1, Lf.int IntKind.i64 x2, Lf.int IntKind.i64
    x3, Lf.bool t1, Lf.bool t2])))) ∧ (t2 = false → (0 < x1 → (-9223372036854775808 ≤ x1 - 1 ∧ x1 - (1 : Int) ≤ 9223372036854775807) ∧ ∃ (m63 : Nat), ∃ (m64 : Nat), dataa = some
    { block := m63, off := m64 } ∧ (0 ≤ x1 - 1 ∧ x1 - 1 < (↑datan : Int)) ∧ ∃ (x38 : Int), ∃ (x39 : Int), w15.cell? { block := m63, off := m64 + (x1 - 1).toNat * 2 } = some
    (Value.int IntKind.i64 x38) ∧ w15.cell? { block := m63, off := m64 + (x1 - 1).toNat * 2 + 1 } = some (Value.int IntKind.i64 x39) ∧ ∃ (m65 : Nat), ∃ (m66 : Nat), dataa = some
    { block := m65, off := m66 } ∧ (0 ≤ x2 - 1 - (x4 - x1) ∧ x2 - 1 - (x4 - x1) < (↑datan : Int)) ∧ ∃ (x40 : Int), ∃ (x41 : Int), w15.cell?
    { block := m65, off := m66 + (x2 - 1 - (x4 - x1)).toNat * 2 } = some (Value.int IntKind.i64 x40) ∧ w15.cell? { block := m65, off := m66 + (x2 - 1 - (x4 - x1)).toNat * 2 + 1 } =
    some (Value.int IntKind.i64 x41) ∧ Callable Tryz.prog cmpf ∧ ∀ (w61 : World), RowKit.Below w.heap.size w w61 → KeptIn [(0, w15.heap.size)] [] w15 w61 → Calls Tryz.prog cmpf
    (cmpi ++ [Value.agg #[Value.int IntKind.i64 x38, Value.int IntKind.i64 x39], Value.agg #[Value.int IntKind.i64 x40, Value.int IntKind.i64 x41]] ++ cmpc).toArray w61 fun (e23 :
    Ending) (w62 : World) => ∃ (x42 : Int), e23 = Ending.returned (Value.int IntKind.i64 x42) ∧ KeepX true w.heap.size [] (fun _ => False) w61 w62 ∧ (0 ≤ x42 → ∀ (w63 : World),
    RowKit.Below w.heap.size w w63 → Kept [] w62 w63 → Calls Tryz.prog 226 #[Value.slice dataa datan datac, Value.int IntKind.i64 x1, Value.int IntKind.i64 x2, Value.int
    IntKind.i64 (x2 - 1 - (x4 - x1)), Value.func (Fn.func cmpf) cmpi.toArray cmpc.toArray] w63 fun (e24 : Ending) (w64 : World) => ∃ (x43 : Int), e24 = Ending.returned (Value.int
    IntKind.i64 x43) ∧ KeepX true w.heap.size [] (fun _ => False) w63 w64 ∧ ∀ (w65 : World), RowKit.Below w.heap.size w w65 → Kept [] w64 w65 → F1 [Lf.int IntKind.i64 x43, Lf.int
    IntKind.i64 x2, Lf.int IntKind.i64 (x3 - 1), Lf.bool t1, Lf.bool t2] w65 ∧ F2 [Lf.int IntKind.i64 x43, Lf.int IntKind.i64 x2, Lf.int IntKind.i64 (x3 - 1), Lf.bool t1, Lf.bool
    t2] < F2 [Lf.int IntKind.i64 x1, Lf.int IntKind.i64 x2, Lf.int IntKind.i64 x3, Lf.bool t1, Lf.bool t2]) ∧ (x42 < 0 → ∀ (w66 : World), RowKit.Below w.heap.size w w66 → Kept []
    w62 w66 → Calls Tryz.prog 227 #[Value.slice dataa datan datac, Value.int IntKind.i64 x1, Value.int IntKind.i64 x2, Value.int IntKind.i64 (x2 - 1 - (x4 - x1)), Value.func
    (Fn.func cmpf) cmpi.toArray cmpc.toArray] w66 fun (e25 : Ending) (w67 : World) => ∃ (x44 : Int), ∃ (t8 : Bool), e25 = Ending.returned (Value.tuple #[Value.int IntKind.i64 x44,
    Value.bool t8]) ∧ KeepX true w.heap.size [] (fun _ => False) w66 w67 ∧ (-9223372036854775808 ≤ x44 - x1 ∧ x44 - x1 ≤ 9223372036854775807) ∧ (-9223372036854775808 ≤ x2 - x44 ∧
    x2 - x44 ≤ 9223372036854775807) ∧ ((8 : Int) ≠ 0 ∧ -9223372036854775808 ≤ (x2 - x1).tdiv 8 ∧ (x2 - x1).tdiv (8 : Int) ≤ 9223372036854775807) ∧ (x44 - x1 < x2 - x44 → ∀ (w68 :
    World), RowKit.Below w.heap.size w w68 → Kept [] w67 w68 → Calls Tryz.prog 197 #[Value.slice dataa datan datac, Value.int IntKind.i64 x1, Value.int IntKind.i64 x44, Value.int
    IntKind.i64 (x3 - 1), Value.func (Fn.func cmpf) cmpi.toArray cmpc.toArray] w68 fun (e26 : Ending) (w69 : World) => e26 = Ending.returned (Value.tuple #[]) ∧ KeepX true
    w.heap.size [] (fun _ => False) w68 w69 ∧ (-9223372036854775808 ≤ x44 + 1 ∧ x44 + (1 : Int) ≤ 9223372036854775807) ∧ ∀ (w70 : World), RowKit.Below w.heap.size w w70 → Kept []
    w69 w70 → F1 [Lf.int IntKind.i64 (x44 + 1), Lf.int IntKind.i64 x2, Lf.int IntKind.i64 (x3 - 1), Lf.bool (decide ((x2 - x1).tdiv 8 ≤ x44 - x1)), Lf.bool t8] w70 ∧ F2 [Lf.int
    IntKind.i64 (x44 + 1), Lf.int IntKind.i64 x2, Lf.int IntKind.i64 (x3 - 1), Lf.bool (decide ((x2 - x1).tdiv 8 ≤ x44 - x1)), Lf.bool t8] < F2 [Lf.int IntKind.i64 x1, Lf.int
    IntKind.i64 x2, Lf.int IntKind.i64 x3, Lf.bool t1, Lf.bool t2]) ∧ (x2 - x44 ≤ x44 - x1 → (-9223372036854775808 ≤ x44 + 1 ∧ x44 + (1 : Int) ≤ 9223372036854775807) ∧ ∀ (w71 :
    World), RowKit.Below w.heap.size w w71 → Kept [] w67 w71 → Calls Tryz.prog 197 #[Value.slice dataa datan datac, Value.int IntKind.i64 (x44 + 1), Value.int IntKind.i64 x2,
    Value.int IntKind.i64 (x3 - 1), Value.func (Fn.func cmpf) cmpi.toArray cmpc.toArray] w71 fun (e27 : Ending) (w72 : World) => e27 = Ending.returned (Value.tuple #[]) ∧ KeepX
    true w.heap.size [] (fun _ => False) w71 w72 ∧ ∀ (w73 : World), RowKit.Below w.heap.size w w73 → Kept [] w72 w73 → F1 [Lf.int IntKind.i64 x1, Lf.int IntKind.i64 x44, Lf.int
    IntKind.i64 (x3 - 1), Lf.bool (decide ((x2 - x1).tdiv 8 ≤ x2 - x44)), Lf.bool t8] w73 ∧ F2 [Lf.int IntKind.i64 x1, Lf.int IntKind.i64 x44, Lf.int IntKind.i64 (x3 - 1), Lf.bool
    (decide ((x2 - x1).tdiv 8 ≤ x2 - x44)), Lf.bool t8] < F2 [Lf.int IntKind.i64 x1, Lf.int IntKind.i64 x2, Lf.int IntKind.i64 x3, Lf.bool t1, Lf.bool t2]))) ∧ (x1 ≤ 0 → ∀ (w74 :
    World), RowKit.Below w.heap.size w w74 → Kept [] w15 w74 → Calls Tryz.prog 227 #[Value.slice dataa datan datac, Value.int IntKind.i64 x1, Value.int IntKind.i64 x2, Value.int
    IntKind.i64 (x2 - 1 - (x4 - x1)), Value.func (Fn.func cmpf) cmpi.toArray cmpc.toArray] w74 fun (e28 : Ending) (w75 : World) => ∃ (x49 : Int), ∃ (t9 : Bool), e28 =
    Ending.returned (Value.tuple #[Value.int IntKind.i64 x49, Value.bool t9]) ∧ KeepX true w.heap.size [] (fun _ => False) w74 w75 ∧ (-9223372036854775808 ≤ x49 - x1 ∧ x49 - x1 ≤
    9223372036854775807) ∧ (-9223372036854775808 ≤ x2 - x49 ∧ x2 - x49 ≤ 9223372036854775807) ∧ ((8 : Int) ≠ 0 ∧ -9223372036854775808 ≤ (x2 - x1).tdiv 8 ∧ (x2 - x1).tdiv (8 : Int)
    ≤ 9223372036854775807) ∧ (x49 - x1 < x2 - x49 → ∀ (w76 : World), RowKit.Below w.heap.size w w76 → Kept [] w75 w76 → Calls Tryz.prog 197 #[Value.slice dataa datan datac,
    Value.int IntKind.i64 x1, Value.int IntKind.i64 x49, Value.int IntKind.i64 (x3 - 1), Value.func (Fn.func cmpf) cmpi.toArray cmpc.toArray] w76 fun (e29 : Ending) (w77 : World)
    => e29 = Ending.returned (Value.tuple #[]) ∧ KeepX true w.heap.size [] (fun _ => False) w76 w77 ∧ (-9223372036854775808 ≤ x49 + 1 ∧ x49 + (1 : Int) ≤ 9223372036854775807) ∧ ∀
    (w78 : World), RowKit.Below w.heap.size w w78 → Kept [] w77 w78 → F1 [Lf.int IntKind.i64 (x49 + 1), Lf.int IntKind.i64 x2, Lf.int IntKind.i64 (x3 - 1), Lf.bool (decide ((x2 -
    x1).tdiv 8 ≤ x49 - x1)), Lf.bool t9] w78 ∧ F2 [Lf.int IntKind.i64 (x49 + 1), Lf.int IntKind.i64 x2, Lf.int IntKind.i64 (x3 - 1), Lf.bool (decide ((x2 - x1).tdiv 8 ≤ x49 - x1)),
    Lf.bool t9] < F2 [Lf.int IntKind.i64 x1, Lf.int IntKind.i64 x2, Lf.int IntKind.i64 x3, Lf.bool t1, Lf.bool t2]) ∧ (x2 - x49 ≤ x49 - x1 → (-9223372036854775808 ≤ x49 + 1 ∧ x49 +
    (1 : Int) ≤ 9223372036854775807) ∧ ∀ (w79 : World), RowKit.Below w.heap.size w w79 → Kept [] w75 w79 → Calls Tryz.prog 197 #[Value.slice dataa datan datac, Value.int
    IntKind.i64 (x49 + 1), Value.int IntKind.i64 x2, Value.int IntKind.i64 (x3 - 1), Value.func (Fn.func cmpf) cmpi.toArray cmpc.toArray] w79 fun (e30 : Ending) (w80 : World) =>
    e30 = Ending.returned (Value.tuple #[]) ∧ KeepX true w.heap.size [] (fun _ => False) w79 w80 ∧ ∀ (w81 : World), RowKit.Below w.heap.size w w81 → Kept [] w80 w81 → F1 [Lf.int
    IntKind.i64 x1, Lf.int IntKind.i64 x49, Lf.int IntKind.i64 (x3 - 1), Lf.bool (decide ((x2 - x1).tdiv 8 ≤ x2 - x49)), Lf.bool t9] w81 ∧ F2 [Lf.int IntKind.i64 x1, Lf.int
    IntKind.i64 x49, Lf.int IntKind.i64 (x3 - 1), Lf.bool (decide ((x2 - x1).tdiv 8 ≤ x2 - x49)), Lf.bool t9] < F2 [Lf.int IntKind.i64 x1, Lf.int IntKind.i64 x2, Lf.int IntKind.i64
    x3, Lf.bool t1, Lf.bool t2])))) ∧ (t1 = false → (0 < x1 → (-9223372036854775808 ≤ x1 - 1 ∧ x1 - (1 : Int) ≤ 9223372036854775807) ∧ ∃ (m91 : Nat), ∃ (m92 : Nat), dataa = some
    { block := m91, off := m92 } ∧ (0 ≤ x1 - 1 ∧ x1 - 1 < (↑datan : Int)) ∧ ∃ (x54 : Int), ∃ (x55 : Int), w15.cell? { block := m91, off := m92 + (x1 - 1).toNat * 2 } = some
    (Value.int IntKind.i64 x54) ∧ w15.cell? { block := m91, off := m92 + (x1 - 1).toNat * 2 + 1 } = some (Value.int IntKind.i64 x55) ∧ ∃ (m93 : Nat), ∃ (m94 : Nat), dataa = some
    { block := m93, off := m94 } ∧ (0 ≤ x2 - 1 - (x4 - x1) ∧ x2 - 1 - (x4 - x1) < (↑datan : Int)) ∧ ∃ (x56 : Int), ∃ (x57 : Int), w15.cell?
    { block := m93, off := m94 + (x2 - 1 - (x4 - x1)).toNat * 2 } = some (Value.int IntKind.i64 x56) ∧ w15.cell? { block := m93, off := m94 + (x2 - 1 - (x4 - x1)).toNat * 2 + 1 } =
    some (Value.int IntKind.i64 x57) ∧ Callable Tryz.prog cmpf ∧ ∀ (w82 : World), RowKit.Below w.heap.size w w82 → KeptIn [(0, w15.heap.size)] [] w15 w82 → Calls Tryz.prog cmpf
    (cmpi ++ [Value.agg #[Value.int IntKind.i64 x54, Value.int IntKind.i64 x55], Value.agg #[Value.int IntKind.i64 x56, Value.int IntKind.i64 x57]] ++ cmpc).toArray w82 fun (e31 :
    Ending) (w83 : World) => ∃ (x58 : Int), e31 = Ending.returned (Value.int IntKind.i64 x58) ∧ KeepX true w.heap.size [] (fun _ => False) w82 w83 ∧ (0 ≤ x58 → ∀ (w84 : World),
    RowKit.Below w.heap.size w w84 → Kept [] w83 w84 → Calls Tryz.prog 226 #[Value.slice dataa datan datac, Value.int IntKind.i64 x1, Value.int IntKind.i64 x2, Value.int
    IntKind.i64 (x2 - 1 - (x4 - x1)), Value.func (Fn.func cmpf) cmpi.toArray cmpc.toArray] w84 fun (e32 : Ending) (w85 : World) => ∃ (x59 : Int), e32 = Ending.returned (Value.int
    IntKind.i64 x59) ∧ KeepX true w.heap.size [] (fun _ => False) w84 w85 ∧ ∀ (w86 : World), RowKit.Below w.heap.size w w86 → Kept [] w85 w86 → F1 [Lf.int IntKind.i64 x59, Lf.int
    IntKind.i64 x2, Lf.int IntKind.i64 (x3 - 1), Lf.bool t1, Lf.bool t2] w86 ∧ F2 [Lf.int IntKind.i64 x59, Lf.int IntKind.i64 x2, Lf.int IntKind.i64 (x3 - 1), Lf.bool t1, Lf.bool
    t2] < F2 [Lf.int IntKind.i64 x1, Lf.int IntKind.i64 x2, Lf.int IntKind.i64 x3, Lf.bool t1, Lf.bool t2]) ∧ (x58 < 0 → ∀ (w87 : World), RowKit.Below w.heap.size w w87 → Kept []
    w83 w87 → Calls Tryz.prog 227 #[Value.slice dataa datan datac, Value.int IntKind.i64 x1, Value.int IntKind.i64 x2, Value.int IntKind.i64 (x2 - 1 - (x4 - x1)), Value.func
    (Fn.func cmpf) cmpi.toArray cmpc.toArray] w87 fun (e33 : Ending) (w88 : World) => ∃ (x60 : Int), ∃ (t10 : Bool), e33 = Ending.returned (Value.tuple #[Value.int IntKind.i64 x60,
    Value.bool t10]) ∧ KeepX true w.heap.size [] (fun _ => False) w87 w88 ∧ (-9223372036854775808 ≤ x60 - x1 ∧ x60 - x1 ≤ 9223372036854775807) ∧ (-9223372036854775808 ≤ x2 - x60 ∧
    x2 - x60 ≤ 9223372036854775807) ∧ ((8 : Int) ≠ 0 ∧ -9223372036854775808 ≤ (x2 - x1).tdiv 8 ∧ (x2 - x1).tdiv (8 : Int) ≤ 9223372036854775807) ∧ (x60 - x1 < x2 - x60 → ∀ (w89 :
    World), RowKit.Below w.heap.size w w89 → Kept [] w88 w89 → Calls Tryz.prog 197 #[Value.slice dataa datan datac, Value.int IntKind.i64 x1, Value.int IntKind.i64 x60, Value.int
    IntKind.i64 (x3 - 1), Value.func (Fn.func cmpf) cmpi.toArray cmpc.toArray] w89 fun (e34 : Ending) (w90 : World) => e34 = Ending.returned (Value.tuple #[]) ∧ KeepX true
    w.heap.size [] (fun _ => False) w89 w90 ∧ (-9223372036854775808 ≤ x60 + 1 ∧ x60 + (1 : Int) ≤ 9223372036854775807) ∧ ∀ (w91 : World), RowKit.Below w.heap.size w w91 → Kept []
    w90 w91 → F1 [Lf.int IntKind.i64 (x60 + 1), Lf.int IntKind.i64 x2, Lf.int IntKind.i64 (x3 - 1), Lf.bool (decide ((x2 - x1).tdiv 8 ≤ x60 - x1)), Lf.bool t10] w91 ∧ F2 [Lf.int
    IntKind.i64 (x60 + 1), Lf.int IntKind.i64 x2, Lf.int IntKind.i64 (x3 - 1), Lf.bool (decide ((x2 - x1).tdiv 8 ≤ x60 - x1)), Lf.bool t10] < F2 [Lf.int IntKind.i64 x1, Lf.int
    IntKind.i64 x2, Lf.int IntKind.i64 x3, Lf.bool t1, Lf.bool t2]) ∧ (x2 - x60 ≤ x60 - x1 → (-9223372036854775808 ≤ x60 + 1 ∧ x60 + (1 : Int) ≤ 9223372036854775807) ∧ ∀ (w92 :
    World), RowKit.Below w.heap.size w w92 → Kept [] w88 w92 → Calls Tryz.prog 197 #[Value.slice dataa datan datac, Value.int IntKind.i64 (x60 + 1), Value.int IntKind.i64 x2,
    Value.int IntKind.i64 (x3 - 1), Value.func (Fn.func cmpf) cmpi.toArray cmpc.toArray] w92 fun (e35 : Ending) (w93 : World) => e35 = Ending.returned (Value.tuple #[]) ∧ KeepX
    true w.heap.size [] (fun _ => False) w92 w93 ∧ ∀ (w94 : World), RowKit.Below w.heap.size w w94 → Kept [] w93 w94 → F1 [Lf.int IntKind.i64 x1, Lf.int IntKind.i64 x60, Lf.int
    IntKind.i64 (x3 - 1), Lf.bool (decide ((x2 - x1).tdiv 8 ≤ x2 - x60)), Lf.bool t10] w94 ∧ F2 [Lf.int IntKind.i64 x1, Lf.int IntKind.i64 x60, Lf.int IntKind.i64 (x3 - 1), Lf.bool
    (decide ((x2 - x1).tdiv 8 ≤ x2 - x60)), Lf.bool t10] < F2 [Lf.int IntKind.i64 x1, Lf.int IntKind.i64 x2, Lf.int IntKind.i64 x3, Lf.bool t1, Lf.bool t2]))) ∧ (x1 ≤ 0 → ∀ (w95 :
    World), RowKit.Below w.heap.size w w95 → Kept [] w15 w95 → Calls Tryz.prog 227 #[Value.slice dataa datan datac, Value.int IntKind.i64 x1, Value.int IntKind.i64 x2, Value.int
    IntKind.i64 (x2 - 1 - (x4 - x1)), Value.func (Fn.func cmpf) cmpi.toArray cmpc.toArray] w95 fun (e36 : Ending) (w96 : World) => ∃ (x65 : Int), ∃ (t11 : Bool), e36 =
    Ending.returned (Value.tuple #[Value.int IntKind.i64 x65, Value.bool t11]) ∧ KeepX true w.heap.size [] (fun _ => False) w95 w96 ∧ (-9223372036854775808 ≤ x65 - x1 ∧ x65 - x1 ≤
    9223372036854775807) ∧ (-9223372036854775808 ≤ x2 - x65 ∧ x2 - x65 ≤ 9223372036854775807) ∧ ((8 : Int) ≠ 0 ∧ -9223372036854775808 ≤ (x2 - x1).tdiv 8 ∧ (x2 - x1).tdiv (8 : Int)
    ≤ 9223372036854775807) ∧ (x65 - x1 < x2 - x65 → ∀ (w97 : World), RowKit.Below w.heap.size w w97 → Kept [] w96 w97 → Calls Tryz.prog 197 #[Value.slice dataa datan datac,
    Value.int IntKind.i64 x1, Value.int IntKind.i64 x65, Value.int IntKind.i64 (x3 - 1), Value.func (Fn.func cmpf) cmpi.toArray cmpc.toArray] w97 fun (e37 : Ending) (w98 : World)
    => e37 = Ending.returned (Value.tuple #[]) ∧ KeepX true w.heap.size [] (fun _ => False) w97 w98 ∧ (-9223372036854775808 ≤ x65 + 1 ∧ x65 + (1 : Int) ≤ 9223372036854775807) ∧ ∀
    (w99 : World), RowKit.Below w.heap.size w w99 → Kept [] w98 w99 → F1 [Lf.int IntKind.i64 (x65 + 1), Lf.int IntKind.i64 x2, Lf.int IntKind.i64 (x3 - 1), Lf.bool (decide ((x2 -
    x1).tdiv 8 ≤ x65 - x1)), Lf.bool t11] w99 ∧ F2 [Lf.int IntKind.i64 (x65 + 1), Lf.int IntKind.i64 x2, Lf.int IntKind.i64 (x3 - 1), Lf.bool (decide ((x2 - x1).tdiv 8 ≤ x65 -
    x1)), Lf.bool t11] < F2 [Lf.int IntKind.i64 x1, Lf.int IntKind.i64 x2, Lf.int IntKind.i64 x3, Lf.bool t1, Lf.bool t2]) ∧ (x2 - x65 ≤ x65 - x1 → (-9223372036854775808 ≤ x65 + 1
    ∧ x65 + (1 : Int) ≤ 9223372036854775807) ∧ ∀ (w100 : World), RowKit.Below w.heap.size w w100 → Kept [] w96 w100 → Calls Tryz.prog 197 #[Value.slice dataa datan datac, Value.int
    IntKind.i64 (x65 + 1), Value.int IntKind.i64 x2, Value.int IntKind.i64 (x3 - 1), Value.func (Fn.func cmpf) cmpi.toArray cmpc.toArray] w100 fun (e38 : Ending) (w101 : World) =>
    e38 = Ending.returned (Value.tuple #[]) ∧ KeepX true w.heap.size [] (fun _ => False) w100 w101 ∧ ∀ (w102 : World), RowKit.Below w.heap.size w w102 → Kept [] w101 w102 → F1
    [Lf.int IntKind.i64 x1, Lf.int IntKind.i64 x65, Lf.int IntKind.i64 (x3 - 1), Lf.bool (decide ((x2 - x1).tdiv 8 ≤ x2 - x65)), Lf.bool t11] w102 ∧ F2 [Lf.int IntKind.i64 x1,
    Lf.int IntKind.i64 x65, Lf.int IntKind.i64 (x3 - 1), Lf.bool (decide ((x2 - x1).tdiv 8 ≤ x2 - x65)), Lf.bool t11] < F2 [Lf.int IntKind.i64 x1, Lf.int IntKind.i64 x2, Lf.int
    IntKind.i64 x3, Lf.bool t1, Lf.bool t2])))) ∧ (x5 ≠ 2 → (t1 = true → (t2 = true → (x5 = 1 → ∀ (w103 : World), RowKit.Below w.heap.size w w103 → Kept [] w13 w103 → Calls
    Tryz.prog 225 #[Value.slice dataa datan datac, Value.int IntKind.i64 x1, Value.int IntKind.i64 x2, Value.func (Fn.func cmpf) cmpi.toArray cmpc.toArray] w103 fun (e39 : Ending)
    (w104 : World) => ∃ (t12 : Bool), e39 = Ending.returned (Value.bool t12) ∧ KeepX true w.heap.size [] (fun _ => False) w103 w104 ∧ (t12 = true → ∀ (w105 : World), RowKit.Below
    w.heap.size w w105 → Kept [] w104 w105 → R (Ending.returned (Value.tuple #[])) w105) ∧ (t12 = false → (0 < x1 → (-9223372036854775808 ≤ x1 - 1 ∧ x1 - (1 : Int) ≤
    9223372036854775807) ∧ ∃ (m120 : Nat), ∃ (m121 : Nat), dataa = some { block := m120, off := m121 } ∧ (0 ≤ x1 - 1 ∧ x1 - 1 < (↑datan : Int)) ∧ ∃ (x70 : Int), ∃ (x71 : Int),
    w104.cell? { block := m120, off := m121 + (x1 - 1).toNat * 2 } = some (Value.int IntKind.i64 x70) ∧ w104.cell? { block := m120, off := m121 + (x1 - 1).toNat * 2 + 1 } = some
    (Value.int IntKind.i64 x71) ∧ ∃ (m122 : Nat), ∃ (m123 : Nat), dataa = some { block := m122, off := m123 } ∧ (0 ≤ x4 ∧ x4 < (↑datan : Int)) ∧ ∃ (x72 : Int), ∃ (x73 : Int),
    w104.cell? { block := m122, off := m123 + x4.toNat * 2 } = some (Value.int IntKind.i64 x72) ∧ w104.cell? { block := m122, off := m123 + x4.toNat * 2 + 1 } = some (Value.int
    IntKind.i64 x73) ∧ Callable Tryz.prog cmpf ∧ ∀ (w106 : World), RowKit.Below w.heap.size w w106 → KeptIn [(0, w104.heap.size)] [] w104 w106 → Calls Tryz.prog cmpf (cmpi ++
    [Value.agg #[Value.int IntKind.i64 x70, Value.int IntKind.i64 x71], Value.agg #[Value.int IntKind.i64 x72, Value.int IntKind.i64 x73]] ++ cmpc).toArray w106 fun (e40 : Ending)
    (w107 : World) => ∃ (x74 : Int), e40 = Ending.returned (Value.int IntKind.i64 x74) ∧ KeepX true w.heap.size [] (fun _ => False) w106 w107 ∧ (0 ≤ x74 → ∀ (w108 : World),
    RowKit.Below w.heap.size w w108 → Kept [] w107 w108 → Calls Tryz.prog 226 #[Value.slice dataa datan datac, Value.int IntKind.i64 x1, Value.int IntKind.i64 x2, Value.int
    IntKind.i64 x4, Value.func (Fn.func cmpf) cmpi.toArray cmpc.toArray] w108 fun (e41 : Ending) (w109 : World) => ∃ (x75 : Int), e41 = Ending.returned (Value.int IntKind.i64 x75)
    ∧ KeepX true w.heap.size [] (fun _ => False) w108 w109 ∧ ∀ (w110 : World), RowKit.Below w.heap.size w w110 → Kept [] w109 w110 → F1 [Lf.int IntKind.i64 x75, Lf.int IntKind.i64
    x2, Lf.int IntKind.i64 (x3 - 1), Lf.bool t1, Lf.bool t2] w110 ∧ F2 [Lf.int IntKind.i64 x75, Lf.int IntKind.i64 x2, Lf.int IntKind.i64 (x3 - 1), Lf.bool t1, Lf.bool t2] < F2
    [Lf.int IntKind.i64 x1, Lf.int IntKind.i64 x2, Lf.int IntKind.i64 x3, Lf.bool t1, Lf.bool t2]) ∧ (x74 < 0 → ∀ (w111 : World), RowKit.Below w.heap.size w w111 → Kept [] w107
    w111 → Calls Tryz.prog 227 #[Value.slice dataa datan datac, Value.int IntKind.i64 x1, Value.int IntKind.i64 x2, Value.int IntKind.i64 x4, Value.func (Fn.func cmpf) cmpi.toArray
    cmpc.toArray] w111 fun (e42 : Ending) (w112 : World) => ∃ (x76 : Int), ∃ (t13 : Bool), e42 = Ending.returned (Value.tuple #[Value.int IntKind.i64 x76, Value.bool t13]) ∧ KeepX
    true w.heap.size [] (fun _ => False) w111 w112 ∧ (-9223372036854775808 ≤ x76 - x1 ∧ x76 - x1 ≤ 9223372036854775807) ∧ (-9223372036854775808 ≤ x2 - x76 ∧ x2 - x76 ≤
    9223372036854775807) ∧ ((8 : Int) ≠ 0 ∧ -9223372036854775808 ≤ (x2 - x1).tdiv 8 ∧ (x2 - x1).tdiv (8 : Int) ≤ 9223372036854775807) ∧ (x76 - x1 < x2 - x76 → ∀ (w113 : World),
    RowKit.Below w.heap.size w w113 → Kept [] w112 w113 → Calls Tryz.prog 197 #[Value.slice dataa datan datac, Value.int IntKind.i64 x1, Value.int IntKind.i64 x76, Value.int
    IntKind.i64 (x3 - 1), Value.func (Fn.func cmpf) cmpi.toArray cmpc.toArray] w113 fun (e43 : Ending) (w114 : World) => e43 = Ending.returned (Value.tuple #[]) ∧ KeepX true
    w.heap.size [] (fun _ => False) w113 w114 ∧ (-9223372036854775808 ≤ x76 + 1 ∧ x76 + (1 : Int) ≤ 9223372036854775807) ∧ ∀ (w115 : World), RowKit.Below w.heap.size w w115 → Kept
    [] w114 w115 → F1 [Lf.int IntKind.i64 (x76 + 1), Lf.int IntKind.i64 x2, Lf.int IntKind.i64 (x3 - 1), Lf.bool (decide ((x2 - x1).tdiv 8 ≤ x76 - x1)), Lf.bool t13] w115 ∧ F2
    [Lf.int IntKind.i64 (x76 + 1), Lf.int IntKind.i64 x2, Lf.int IntKind.i64 (x3 - 1), Lf.bool (decide ((x2 - x1).tdiv 8 ≤ x76 - x1)), Lf.bool t13] < F2 [Lf.int IntKind.i64 x1,
    Lf.int IntKind.i64 x2, Lf.int IntKind.i64 x3, Lf.bool t1, Lf.bool t2]) ∧ (x2 - x76 ≤ x76 - x1 → (-9223372036854775808 ≤ x76 + 1 ∧ x76 + (1 : Int) ≤ 9223372036854775807) ∧ ∀
    (w116 : World), RowKit.Below w.heap.size w w116 → Kept [] w112 w116 → Calls Tryz.prog 197 #[Value.slice dataa datan datac, Value.int IntKind.i64 (x76 + 1), Value.int
    IntKind.i64 x2, Value.int IntKind.i64 (x3 - 1), Value.func (Fn.func cmpf) cmpi.toArray cmpc.toArray] w116 fun (e44 : Ending) (w117 : World) => e44 = Ending.returned
    (Value.tuple #[]) ∧ KeepX true w.heap.size [] (fun _ => False) w116 w117 ∧ ∀ (w118 : World), RowKit.Below w.heap.size w w118 → Kept [] w117 w118 → F1 [Lf.int IntKind.i64 x1,
    Lf.int IntKind.i64 x76, Lf.int IntKind.i64 (x3 - 1), Lf.bool (decide ((x2 - x1).tdiv 8 ≤ x2 - x76)), Lf.bool t13] w118 ∧ F2 [Lf.int IntKind.i64 x1, Lf.int IntKind.i64 x76,
    Lf.int IntKind.i64 (x3 - 1), Lf.bool (decide ((x2 - x1).tdiv 8 ≤ x2 - x76)), Lf.bool t13] < F2 [Lf.int IntKind.i64 x1, Lf.int IntKind.i64 x2, Lf.int IntKind.i64 x3, Lf.bool t1,
    Lf.bool t2]))) ∧ (x1 ≤ 0 → ∀ (w119 : World), RowKit.Below w.heap.size w w119 → Kept [] w104 w119 → Calls Tryz.prog 227 #[Value.slice dataa datan datac, Value.int IntKind.i64
    x1, Value.int IntKind.i64 x2, Value.int IntKind.i64 x4, Value.func (Fn.func cmpf) cmpi.toArray cmpc.toArray] w119 fun (e45 : Ending) (w120 : World) => ∃ (x81 : Int), ∃ (t14 :
    Bool), e45 = Ending.returned (Value.tuple #[Value.int IntKind.i64 x81, Value.bool t14]) ∧ KeepX true w.heap.size [] (fun _ => False) w119 w120 ∧ (-9223372036854775808 ≤ x81 -
    x1 ∧ x81 - x1 ≤ 9223372036854775807) ∧ (-9223372036854775808 ≤ x2 - x81 ∧ x2 - x81 ≤ 9223372036854775807) ∧ ((8 : Int) ≠ 0 ∧ -9223372036854775808 ≤ (x2 - x1).tdiv 8 ∧ (x2 -
    x1).tdiv (8 : Int) ≤ 9223372036854775807) ∧ (x81 - x1 < x2 - x81 → ∀ (w121 : World), RowKit.Below w.heap.size w w121 → Kept [] w120 w121 → Calls Tryz.prog 197 #[Value.slice
    dataa datan datac, Value.int IntKind.i64 x1, Value.int IntKind.i64 x81, Value.int IntKind.i64 (x3 - 1), Value.func (Fn.func cmpf) cmpi.toArray cmpc.toArray] w121 fun (e46 :
    Ending) (w122 : World) => e46 = Ending.returned (Value.tuple #[]) ∧ KeepX true w.heap.size [] (fun _ => False) w121 w122 ∧ (-9223372036854775808 ≤ x81 + 1 ∧ x81 + (1 : Int) ≤
    9223372036854775807) ∧ ∀ (w123 : World), RowKit.Below w.heap.size w w123 → Kept [] w122 w123 → F1 [Lf.int IntKind.i64 (x81 + 1), Lf.int IntKind.i64 x2, Lf.int IntKind.i64 (x3 -
    1), Lf.bool (decide ((x2 - x1).tdiv 8 ≤ x81 - x1)), Lf.bool t14] w123 ∧ F2 [Lf.int IntKind.i64 (x81 + 1), Lf.int IntKind.i64 x2, Lf.int IntKind.i64 (x3 - 1), Lf.bool (decide
    ((x2 - x1).tdiv 8 ≤ x81 - x1)), Lf.bool t14] < F2 [Lf.int IntKind.i64 x1, Lf.int IntKind.i64 x2, Lf.int IntKind.i64 x3, Lf.bool t1, Lf.bool t2]) ∧ (x2 - x81 ≤ x81 - x1 →
    (-9223372036854775808 ≤ x81 + 1 ∧ x81 + (1 : Int) ≤ 9223372036854775807) ∧ ∀ (w124 : World), RowKit.Below w.heap.size w w124 → Kept [] w120 w124 → Calls Tryz.prog 197
    #[Value.slice dataa datan datac, Value.int IntKind.i64 (x81 + 1), Value.int IntKind.i64 x2, Value.int IntKind.i64 (x3 - 1), Value.func (Fn.func cmpf) cmpi.toArray cmpc.toArray]
    w124 fun (e47 : Ending) (w125 : World) => e47 = Ending.returned (Value.tuple #[]) ∧ KeepX true w.heap.size [] (fun _ => False) w124 w125 ∧ ∀ (w126 : World), RowKit.Below
    w.heap.size w w126 → Kept [] w125 w126 → F1 [Lf.int IntKind.i64 x1, Lf.int IntKind.i64 x81, Lf.int IntKind.i64 (x3 - 1), Lf.bool (decide ((x2 - x1).tdiv 8 ≤ x2 - x81)), Lf.bool
    t14] w126 ∧ F2 [Lf.int IntKind.i64 x1, Lf.int IntKind.i64 x81, Lf.int IntKind.i64 (x3 - 1), Lf.bool (decide ((x2 - x1).tdiv 8 ≤ x2 - x81)), Lf.bool t14] < F2 [Lf.int
    IntKind.i64 x1, Lf.int IntKind.i64 x2, Lf.int IntKind.i64 x3, Lf.bool t1, Lf.bool t2])))) ∧ (x5 ≠ 1 → (0 < x1 → (-9223372036854775808 ≤ x1 - 1 ∧ x1 - (1 : Int) ≤
    9223372036854775807) ∧ ∃ (m148 : Nat), ∃ (m149 : Nat), dataa = some { block := m148, off := m149 } ∧ (0 ≤ x1 - 1 ∧ x1 - 1 < (↑datan : Int)) ∧ ∃ (x86 : Int), ∃ (x87 : Int),
    w13.cell? { block := m148, off := m149 + (x1 - 1).toNat * 2 } = some (Value.int IntKind.i64 x86) ∧ w13.cell? { block := m148, off := m149 + (x1 - 1).toNat * 2 + 1 } = some
    (Value.int IntKind.i64 x87) ∧ ∃ (m150 : Nat), ∃ (m151 : Nat), dataa = some { block := m150, off := m151 } ∧ (0 ≤ x4 ∧ x4 < (↑datan : Int)) ∧ ∃ (x88 : Int), ∃ (x89 : Int),
    w13.cell? { block := m150, off := m151 + x4.toNat * 2 } = some (Value.int IntKind.i64 x88) ∧ w13.cell? { block := m150, off := m151 + x4.toNat * 2 + 1 } = some (Value.int
    IntKind.i64 x89) ∧ Callable Tryz.prog cmpf ∧ ∀ (w127 : World), RowKit.Below w.heap.size w w127 → KeptIn [(0, w13.heap.size)] [] w13 w127 → Calls Tryz.prog cmpf (cmpi ++
    [Value.agg #[Value.int IntKind.i64 x86, Value.int IntKind.i64 x87], Value.agg #[Value.int IntKind.i64 x88, Value.int IntKind.i64 x89]] ++ cmpc).toArray w127 fun (e48 : Ending)
    (w128 : World) => ∃ (x90 : Int), e48 = Ending.returned (Value.int IntKind.i64 x90) ∧ KeepX true w.heap.size [] (fun _ => False) w127 w128 ∧ (0 ≤ x90 → ∀ (w129 : World),
    RowKit.Below w.heap.size w w129 → Kept [] w128 w129 → Calls Tryz.prog 226 #[Value.slice dataa datan datac, Value.int IntKind.i64 x1, Value.int IntKind.i64 x2, Value.int
    IntKind.i64 x4, Value.func (Fn.func cmpf) cmpi.toArray cmpc.toArray] w129 fun (e49 : Ending) (w130 : World) => ∃ (x91 : Int), e49 = Ending.returned (Value.int IntKind.i64 x91)
    ∧ KeepX true w.heap.size [] (fun _ => False) w129 w130 ∧ ∀ (w131 : World), RowKit.Below w.heap.size w w131 → Kept [] w130 w131 → F1 [Lf.int IntKind.i64 x91, Lf.int IntKind.i64
    x2, Lf.int IntKind.i64 (x3 - 1), Lf.bool t1, Lf.bool t2] w131 ∧ F2 [Lf.int IntKind.i64 x91, Lf.int IntKind.i64 x2, Lf.int IntKind.i64 (x3 - 1), Lf.bool t1, Lf.bool t2] < F2
    [Lf.int IntKind.i64 x1, Lf.int IntKind.i64 x2, Lf.int IntKind.i64 x3, Lf.bool t1, Lf.bool t2]) ∧ (x90 < 0 → ∀ (w132 : World), RowKit.Below w.heap.size w w132 → Kept [] w128
    w132 → Calls Tryz.prog 227 #[Value.slice dataa datan datac, Value.int IntKind.i64 x1, Value.int IntKind.i64 x2, Value.int IntKind.i64 x4, Value.func (Fn.func cmpf) cmpi.toArray
    cmpc.toArray] w132 fun (e50 : Ending) (w133 : World) => ∃ (x92 : Int), ∃ (t15 : Bool), e50 = Ending.returned (Value.tuple #[Value.int IntKind.i64 x92, Value.bool t15]) ∧ KeepX
    true w.heap.size [] (fun _ => False) w132 w133 ∧ (-9223372036854775808 ≤ x92 - x1 ∧ x92 - x1 ≤ 9223372036854775807) ∧ (-9223372036854775808 ≤ x2 - x92 ∧ x2 - x92 ≤
    9223372036854775807) ∧ ((8 : Int) ≠ 0 ∧ -9223372036854775808 ≤ (x2 - x1).tdiv 8 ∧ (x2 - x1).tdiv (8 : Int) ≤ 9223372036854775807) ∧ (x92 - x1 < x2 - x92 → ∀ (w134 : World),
    RowKit.Below w.heap.size w w134 → Kept [] w133 w134 → Calls Tryz.prog 197 #[Value.slice dataa datan datac, Value.int IntKind.i64 x1, Value.int IntKind.i64 x92, Value.int
    IntKind.i64 (x3 - 1), Value.func (Fn.func cmpf) cmpi.toArray cmpc.toArray] w134 fun (e51 : Ending) (w135 : World) => e51 = Ending.returned (Value.tuple #[]) ∧ KeepX true
    w.heap.size [] (fun _ => False) w134 w135 ∧ (-9223372036854775808 ≤ x92 + 1 ∧ x92 + (1 : Int) ≤ 9223372036854775807) ∧ ∀ (w136 : World), RowKit.Below w.heap.size w w136 → Kept
    [] w135 w136 → F1 [Lf.int IntKind.i64 (x92 + 1), Lf.int IntKind.i64 x2, Lf.int IntKind.i64 (x3 - 1), Lf.bool (decide ((x2 - x1).tdiv 8 ≤ x92 - x1)), Lf.bool t15] w136 ∧ F2
    [Lf.int IntKind.i64 (x92 + 1), Lf.int IntKind.i64 x2, Lf.int IntKind.i64 (x3 - 1), Lf.bool (decide ((x2 - x1).tdiv 8 ≤ x92 - x1)), Lf.bool t15] < F2 [Lf.int IntKind.i64 x1,
    Lf.int IntKind.i64 x2, Lf.int IntKind.i64 x3, Lf.bool t1, Lf.bool t2]) ∧ (x2 - x92 ≤ x92 - x1 → (-9223372036854775808 ≤ x92 + 1 ∧ x92 + (1 : Int) ≤ 9223372036854775807) ∧ ∀
    (w137 : World), RowKit.Below w.heap.size w w137 → Kept [] w133 w137 → Calls Tryz.prog 197 #[Value.slice dataa datan datac, Value.int IntKind.i64 (x92 + 1), Value.int
    IntKind.i64 x2, Value.int IntKind.i64 (x3 - 1), Value.func (Fn.func cmpf) cmpi.toArray cmpc.toArray] w137 fun (e52 : Ending) (w138 : World) => e52 = Ending.returned
    (Value.tuple #[]) ∧ KeepX true w.heap.size [] (fun _ => False) w137 w138 ∧ ∀ (w139 : World), RowKit.Below w.heap.size w w139 → Kept [] w138 w139 → F1 [Lf.int IntKind.i64 x1,
    Lf.int IntKind.i64 x92, Lf.int IntKind.i64 (x3 - 1), Lf.bool (decide ((x2 - x1).tdiv 8 ≤ x2 - x92)), Lf.bool t15] w139 ∧ F2 [Lf.int IntKind.i64 x1, Lf.int IntKind.i64 x92,
    Lf.int IntKind.i64 (x3 - 1), Lf.bool (decide ((x2 - x1).tdiv 8 ≤ x2 - x92)), Lf.bool t15] < F2 [Lf.int IntKind.i64 x1, Lf.int IntKind.i64 x2, Lf.int IntKind.i64 x3, Lf.bool t1,
    Lf.bool t2]))) ∧ (x1 ≤ 0 → ∀ (w140 : World), RowKit.Below w.heap.size w w140 → Kept [] w13 w140 → Calls Tryz.prog 227 #[Value.slice dataa datan datac, Value.int IntKind.i64 x1,
    Value.int IntKind.i64 x2, Value.int IntKind.i64 x4, Value.func (Fn.func cmpf) cmpi.toArray cmpc.toArray] w140 fun (e53 : Ending) (w141 : World) => ∃ (x97 : Int), ∃ (t16 :
    Bool), e53 = Ending.returned (Value.tuple #[Value.int IntKind.i64 x97, Value.bool t16]) ∧ KeepX true w.heap.size [] (fun _ => False) w140 w141 ∧ (-9223372036854775808 ≤ x97 -
    x1 ∧ x97 - x1 ≤ 9223372036854775807) ∧ (-9223372036854775808 ≤ x2 - x97 ∧ x2 - x97 ≤ 9223372036854775807) ∧ ((8 : Int) ≠ 0 ∧ -9223372036854775808 ≤ (x2 - x1).tdiv 8 ∧ (x2 -
    x1).tdiv (8 : Int) ≤ 9223372036854775807) ∧ (x97 - x1 < x2 - x97 → ∀ (w142 : World), RowKit.Below w.heap.size w w142 → Kept [] w141 w142 → Calls Tryz.prog 197 #[Value.slice
    dataa datan datac, Value.int IntKind.i64 x1, Value.int IntKind.i64 x97, Value.int IntKind.i64 (x3 - 1), Value.func (Fn.func cmpf) cmpi.toArray cmpc.toArray] w142 fun (e54 :
    Ending) (w143 : World) => e54 = Ending.returned (Value.tuple #[]) ∧ KeepX true w.heap.size [] (fun _ => False) w142 w143 ∧ (-9223372036854775808 ≤ x97 + 1 ∧ x97 + (1 : Int) ≤
    9223372036854775807) ∧ ∀ (w144 : World), RowKit.Below w.heap.size w w144 → Kept [] w143 w144 → F1 [Lf.int IntKind.i64 (x97 + 1), Lf.int IntKind.i64 x2, Lf.int IntKind.i64 (x3 -
    1), Lf.bool (decide ((x2 - x1).tdiv 8 ≤ x97 - x1)), Lf.bool t16] w144 ∧ F2 [Lf.int IntKind.i64 (x97 + 1), Lf.int IntKind.i64 x2, Lf.int IntKind.i64 (x3 - 1), Lf.bool (decide
    ((x2 - x1).tdiv 8 ≤ x97 - x1)), Lf.bool t16] < F2 [Lf.int IntKind.i64 x1, Lf.int IntKind.i64 x2, Lf.int IntKind.i64 x3, Lf.bool t1, Lf.bool t2]) ∧ (x2 - x97 ≤ x97 - x1 →
    (-9223372036854775808 ≤ x97 + 1 ∧ x97 + (1 : Int) ≤ 9223372036854775807) ∧ ∀ (w145 : World), RowKit.Below w.heap.size w w145 → Kept [] w141 w145 → Calls Tryz.prog 197
    #[Value.slice dataa datan datac, Value.int IntKind.i64 (x97 + 1), Value.int IntKind.i64 x2, Value.int IntKind.i64 (x3 - 1), Value.func (Fn.func cmpf) cmpi.toArray cmpc.toArray]
    w145 fun (e55 : Ending) (w146 : World) => e55 = Ending.returned (Value.tuple #[]) ∧ KeepX true w.heap.size [] (fun _ => False) w145 w146 ∧ ∀ (w147 : World), RowKit.Below
    w.heap.size w w147 → Kept [] w146 w147 → F1 [Lf.int IntKind.i64 x1, Lf.int IntKind.i64 x97, Lf.int IntKind.i64 (x3 - 1), Lf.bool (decide ((x2 - x1).tdiv 8 ≤ x2 - x97)), Lf.bool
    t16] w147 ∧ F2 [Lf.int IntKind.i64 x1, Lf.int IntKind.i64 x97, Lf.int IntKind.i64 (x3 - 1), Lf.bool (decide ((x2 - x1).tdiv 8 ≤ x2 - x97)), Lf.bool t16] < F2 [Lf.int
    IntKind.i64 x1, Lf.int IntKind.i64 x2, Lf.int IntKind.i64 x3, Lf.bool t1, Lf.bool t2])))) ∧ (t2 = false → (0 < x1 → (-9223372036854775808 ≤ x1 - 1 ∧ x1 - (1 : Int) ≤
    9223372036854775807) ∧ ∃ (m176 : Nat), ∃ (m177 : Nat), dataa = some { block := m176, off := m177 } ∧ (0 ≤ x1 - 1 ∧ x1 - 1 < (↑datan : Int)) ∧ ∃ (x102 : Int), ∃ (x103 : Int),
    w13.cell? { block := m176, off := m177 + (x1 - 1).toNat * 2 } = some (Value.int IntKind.i64 x102) ∧ w13.cell? { block := m176, off := m177 + (x1 - 1).toNat * 2 + 1 } = some
    (Value.int IntKind.i64 x103) ∧ ∃ (m178 : Nat), ∃ (m179 : Nat), dataa = some { block := m178, off := m179 } ∧ (0 ≤ x4 ∧ x4 < (↑datan : Int)) ∧ ∃ (x104 : Int), ∃ (x105 : Int),
    w13.cell? { block := m178, off := m179 + x4.toNat * 2 } = some (Value.int IntKind.i64 x104) ∧ w13.cell? { block := m178, off := m179 + x4.toNat * 2 + 1 } = some (Value.int
    IntKind.i64 x105) ∧ Callable Tryz.prog cmpf ∧ ∀ (w148 : World), RowKit.Below w.heap.size w w148 → KeptIn [(0, w13.heap.size)] [] w13 w148 → Calls Tryz.prog cmpf (cmpi ++
    [Value.agg #[Value.int IntKind.i64 x102, Value.int IntKind.i64 x103], Value.agg #[Value.int IntKind.i64 x104, Value.int IntKind.i64 x105]] ++ cmpc).toArray w148 fun (e56 :
    Ending) (w149 : World) => ∃ (x106 : Int), e56 = Ending.returned (Value.int IntKind.i64 x106) ∧ KeepX true w.heap.size [] (fun _ => False) w148 w149 ∧ (0 ≤ x106 → ∀ (w150 :
    World), RowKit.Below w.heap.size w w150 → Kept [] w149 w150 → Calls Tryz.prog 226 #[Value.slice dataa datan datac, Value.int IntKind.i64 x1, Value.int IntKind.i64 x2, Value.int
    IntKind.i64 x4, Value.func (Fn.func cmpf) cmpi.toArray cmpc.toArray] w150 fun (e57 : Ending) (w151 : World) => ∃ (x107 : Int), e57 = Ending.returned (Value.int IntKind.i64
    x107) ∧ KeepX true w.heap.size [] (fun _ => False) w150 w151 ∧ ∀ (w152 : World), RowKit.Below w.heap.size w w152 → Kept [] w151 w152 → F1 [Lf.int IntKind.i64 x107, Lf.int
    IntKind.i64 x2, Lf.int IntKind.i64 (x3 - 1), Lf.bool t1, Lf.bool t2] w152 ∧ F2 [Lf.int IntKind.i64 x107, Lf.int IntKind.i64 x2, Lf.int IntKind.i64 (x3 - 1), Lf.bool t1, Lf.bool
    t2] < F2 [Lf.int IntKind.i64 x1, Lf.int IntKind.i64 x2, Lf.int IntKind.i64 x3, Lf.bool t1, Lf.bool t2]) ∧ (x106 < 0 → ∀ (w153 : World), RowKit.Below w.heap.size w w153 → Kept
    [] w149 w153 → Calls Tryz.prog 227 #[Value.slice dataa datan datac, Value.int IntKind.i64 x1, Value.int IntKind.i64 x2, Value.int IntKind.i64 x4, Value.func (Fn.func cmpf)
    cmpi.toArray cmpc.toArray] w153 fun (e58 : Ending) (w154 : World) => ∃ (x108 : Int), ∃ (t17 : Bool), e58 = Ending.returned (Value.tuple #[Value.int IntKind.i64 x108, Value.bool
    t17]) ∧ KeepX true w.heap.size [] (fun _ => False) w153 w154 ∧ (-9223372036854775808 ≤ x108 - x1 ∧ x108 - x1 ≤ 9223372036854775807) ∧ (-9223372036854775808 ≤ x2 - x108 ∧ x2 -
    x108 ≤ 9223372036854775807) ∧ ((8 : Int) ≠ 0 ∧ -9223372036854775808 ≤ (x2 - x1).tdiv 8 ∧ (x2 - x1).tdiv (8 : Int) ≤ 9223372036854775807) ∧ (x108 - x1 < x2 - x108 → ∀ (w155 :
    World), RowKit.Below w.heap.size w w155 → Kept [] w154 w155 → Calls Tryz.prog 197 #[Value.slice dataa datan datac, Value.int IntKind.i64 x1, Value.int IntKind.i64 x108,
    Value.int IntKind.i64 (x3 - 1), Value.func (Fn.func cmpf) cmpi.toArray cmpc.toArray] w155 fun (e59 : Ending) (w156 : World) => e59 = Ending.returned (Value.tuple #[]) ∧ KeepX
    true w.heap.size [] (fun _ => False) w155 w156 ∧ (-9223372036854775808 ≤ x108 + 1 ∧ x108 + (1 : Int) ≤ 9223372036854775807) ∧ ∀ (w157 : World), RowKit.Below w.heap.size w w157
    → Kept [] w156 w157 → F1 [Lf.int IntKind.i64 (x108 + 1), Lf.int IntKind.i64 x2, Lf.int IntKind.i64 (x3 - 1), Lf.bool (decide ((x2 - x1).tdiv 8 ≤ x108 - x1)), Lf.bool t17] w157
    ∧ F2 [Lf.int IntKind.i64 (x108 + 1), Lf.int IntKind.i64 x2, Lf.int IntKind.i64 (x3 - 1), Lf.bool (decide ((x2 - x1).tdiv 8 ≤ x108 - x1)), Lf.bool t17] < F2 [Lf.int IntKind.i64
    x1, Lf.int IntKind.i64 x2, Lf.int IntKind.i64 x3, Lf.bool t1, Lf.bool t2]) ∧ (x2 - x108 ≤ x108 - x1 → (-9223372036854775808 ≤ x108 + 1 ∧ x108 + (1 : Int) ≤ 9223372036854775807)
    ∧ ∀ (w158 : World), RowKit.Below w.heap.size w w158 → Kept [] w154 w158 → Calls Tryz.prog 197 #[Value.slice dataa datan datac, Value.int IntKind.i64 (x108 + 1), Value.int
    IntKind.i64 x2, Value.int IntKind.i64 (x3 - 1), Value.func (Fn.func cmpf) cmpi.toArray cmpc.toArray] w158 fun (e60 : Ending) (w159 : World) => e60 = Ending.returned
    (Value.tuple #[]) ∧ KeepX true w.heap.size [] (fun _ => False) w158 w159 ∧ ∀ (w160 : World), RowKit.Below w.heap.size w w160 → Kept [] w159 w160 → F1 [Lf.int IntKind.i64 x1,
    Lf.int IntKind.i64 x108, Lf.int IntKind.i64 (x3 - 1), Lf.bool (decide ((x2 - x1).tdiv 8 ≤ x2 - x108)), Lf.bool t17] w160 ∧ F2 [Lf.int IntKind.i64 x1, Lf.int IntKind.i64 x108,
    Lf.int IntKind.i64 (x3 - 1), Lf.bool (decide ((x2 - x1).tdiv 8 ≤ x2 - x108)), Lf.bool t17] < F2 [Lf.int IntKind.i64 x1, Lf.int IntKind.i64 x2, Lf.int IntKind.i64 x3, Lf.bool
    t1, Lf.bool t2]))) ∧ (x1 ≤ 0 → ∀ (w161 : World), RowKit.Below w.heap.size w w161 → Kept [] w13 w161 → Calls Tryz.prog 227 #[Value.slice dataa datan datac, Value.int IntKind.i64
    x1, Value.int IntKind.i64 x2, Value.int IntKind.i64 x4, Value.func (Fn.func cmpf) cmpi.toArray cmpc.toArray] w161 fun (e61 : Ending) (w162 : World) => ∃ (x113 : Int), ∃ (t18 :
    Bool), e61 = Ending.returned (Value.tuple #[Value.int IntKind.i64 x113, Value.bool t18]) ∧ KeepX true w.heap.size [] (fun _ => False) w161 w162 ∧ (-9223372036854775808 ≤ x113 -
    x1 ∧ x113 - x1 ≤ 9223372036854775807) ∧ (-9223372036854775808 ≤ x2 - x113 ∧ x2 - x113 ≤ 9223372036854775807) ∧ ((8 : Int) ≠ 0 ∧ -9223372036854775808 ≤ (x2 - x1).tdiv 8 ∧ (x2 -
    x1).tdiv (8 : Int) ≤ 9223372036854775807) ∧ (x113 - x1 < x2 - x113 → ∀ (w163 : World), RowKit.Below w.heap.size w w163 → Kept [] w162 w163 → Calls Tryz.prog 197 #[Value.slice
    dataa datan datac, Value.int IntKind.i64 x1, Value.int IntKind.i64 x113, Value.int IntKind.i64 (x3 - 1), Value.func (Fn.func cmpf) cmpi.toArray cmpc.toArray] w163 fun (e62 :
    Ending) (w164 : World) => e62 = Ending.returned (Value.tuple #[]) ∧ KeepX true w.heap.size [] (fun _ => False) w163 w164 ∧ (-9223372036854775808 ≤ x113 + 1 ∧ x113 + (1 : Int) ≤
    9223372036854775807) ∧ ∀ (w165 : World), RowKit.Below w.heap.size w w165 → Kept [] w164 w165 → F1 [Lf.int IntKind.i64 (x113 + 1), Lf.int IntKind.i64 x2, Lf.int IntKind.i64 (x3
    - 1), Lf.bool (decide ((x2 - x1).tdiv 8 ≤ x113 - x1)), Lf.bool t18] w165 ∧ F2 [Lf.int IntKind.i64 (x113 + 1), Lf.int IntKind.i64 x2, Lf.int IntKind.i64 (x3 - 1), Lf.bool
    (decide ((x2 - x1).tdiv 8 ≤ x113 - x1)), Lf.bool t18] < F2 [Lf.int IntKind.i64 x1, Lf.int IntKind.i64 x2, Lf.int IntKind.i64 x3, Lf.bool t1, Lf.bool t2]) ∧ (x2 - x113 ≤ x113 -
    x1 → (-9223372036854775808 ≤ x113 + 1 ∧ x113 + (1 : Int) ≤ 9223372036854775807) ∧ ∀ (w166 : World), RowKit.Below w.heap.size w w166 → Kept [] w162 w166 → Calls Tryz.prog 197
    #[Value.slice dataa datan datac, Value.int IntKind.i64 (x113 + 1), Value.int IntKind.i64 x2, Value.int IntKind.i64 (x3 - 1), Value.func (Fn.func cmpf) cmpi.toArray
    cmpc.toArray] w166 fun (e63 : Ending) (w167 : World) => e63 = Ending.returned (Value.tuple #[]) ∧ KeepX true w.heap.size [] (fun _ => False) w166 w167 ∧ ∀ (w168 : World),
    RowKit.Below w.heap.size w w168 → Kept [] w167 w168 → F1 [Lf.int IntKind.i64 x1, Lf.int IntKind.i64 x113, Lf.int IntKind.i64 (x3 - 1), Lf.bool (decide ((x2 - x1).tdiv 8 ≤ x2 -
    x113)), Lf.bool t18] w168 ∧ F2 [Lf.int IntKind.i64 x1, Lf.int IntKind.i64 x113, Lf.int IntKind.i64 (x3 - 1), Lf.bool (decide ((x2 - x1).tdiv 8 ≤ x2 - x113)), Lf.bool t18] < F2
    [Lf.int IntKind.i64 x1, Lf.int IntKind.i64 x2, Lf.int IntKind.i64 x3, Lf.bool t1, Lf.bool t2])))) ∧ (t1 = false → (0 < x1 → (-9223372036854775808 ≤ x1 - 1 ∧ x1 - (1 : Int) ≤
    9223372036854775807) ∧ ∃ (m204 : Nat), ∃ (m205 : Nat), dataa = some { block := m204, off := m205 } ∧ (0 ≤ x1 - 1 ∧ x1 - 1 < (↑datan : Int)) ∧ ∃ (x118 : Int), ∃ (x119 : Int),
    w13.cell? { block := m204, off := m205 + (x1 - 1).toNat * 2 } = some (Value.int IntKind.i64 x118) ∧ w13.cell? { block := m204, off := m205 + (x1 - 1).toNat * 2 + 1 } = some
    (Value.int IntKind.i64 x119) ∧ ∃ (m206 : Nat), ∃ (m207 : Nat), dataa = some { block := m206, off := m207 } ∧ (0 ≤ x4 ∧ x4 < (↑datan : Int)) ∧ ∃ (x120 : Int), ∃ (x121 : Int),
    w13.cell? { block := m206, off := m207 + x4.toNat * 2 } = some (Value.int IntKind.i64 x120) ∧ w13.cell? { block := m206, off := m207 + x4.toNat * 2 + 1 } = some (Value.int
    IntKind.i64 x121) ∧ Callable Tryz.prog cmpf ∧ ∀ (w169 : World), RowKit.Below w.heap.size w w169 → KeptIn [(0, w13.heap.size)] [] w13 w169 → Calls Tryz.prog cmpf (cmpi ++
    [Value.agg #[Value.int IntKind.i64 x118, Value.int IntKind.i64 x119], Value.agg #[Value.int IntKind.i64 x120, Value.int IntKind.i64 x121]] ++ cmpc).toArray w169 fun (e64 :
    Ending) (w170 : World) => ∃ (x122 : Int), e64 = Ending.returned (Value.int IntKind.i64 x122) ∧ KeepX true w.heap.size [] (fun _ => False) w169 w170 ∧ (0 ≤ x122 → ∀ (w171 :
    World), RowKit.Below w.heap.size w w171 → Kept [] w170 w171 → Calls Tryz.prog 226 #[Value.slice dataa datan datac, Value.int IntKind.i64 x1, Value.int IntKind.i64 x2, Value.int
    IntKind.i64 x4, Value.func (Fn.func cmpf) cmpi.toArray cmpc.toArray] w171 fun (e65 : Ending) (w172 : World) => ∃ (x123 : Int), e65 = Ending.returned (Value.int IntKind.i64
    x123) ∧ KeepX true w.heap.size [] (fun _ => False) w171 w172 ∧ ∀ (w173 : World), RowKit.Below w.heap.size w w173 → Kept [] w172 w173 → F1 [Lf.int IntKind.i64 x123, Lf.int
    IntKind.i64 x2, Lf.int IntKind.i64 (x3 - 1), Lf.bool t1, Lf.bool t2] w173 ∧ F2 [Lf.int IntKind.i64 x123, Lf.int IntKind.i64 x2, Lf.int IntKind.i64 (x3 - 1), Lf.bool t1, Lf.bool
    t2] < F2 [Lf.int IntKind.i64 x1, Lf.int IntKind.i64 x2, Lf.int IntKind.i64 x3, Lf.bool t1, Lf.bool t2]) ∧ (x122 < 0 → ∀ (w174 : World), RowKit.Below w.heap.size w w174 → Kept
    [] w170 w174 → Calls Tryz.prog 227 #[Value.slice dataa datan datac, Value.int IntKind.i64 x1, Value.int IntKind.i64 x2, Value.int IntKind.i64 x4, Value.func (Fn.func cmpf)
    cmpi.toArray cmpc.toArray] w174 fun (e66 : Ending) (w175 : World) => ∃ (x124 : Int), ∃ (t19 : Bool), e66 = Ending.returned (Value.tuple #[Value.int IntKind.i64 x124, Value.bool
    t19]) ∧ KeepX true w.heap.size [] (fun _ => False) w174 w175 ∧ (-9223372036854775808 ≤ x124 - x1 ∧ x124 - x1 ≤ 9223372036854775807) ∧ (-9223372036854775808 ≤ x2 - x124 ∧ x2 -
    x124 ≤ 9223372036854775807) ∧ ((8 : Int) ≠ 0 ∧ -9223372036854775808 ≤ (x2 - x1).tdiv 8 ∧ (x2 - x1).tdiv (8 : Int) ≤ 9223372036854775807) ∧ (x124 - x1 < x2 - x124 → ∀ (w176 :
    World), RowKit.Below w.heap.size w w176 → Kept [] w175 w176 → Calls Tryz.prog 197 #[Value.slice dataa datan datac, Value.int IntKind.i64 x1, Value.int IntKind.i64 x124,
    Value.int IntKind.i64 (x3 - 1), Value.func (Fn.func cmpf) cmpi.toArray cmpc.toArray] w176 fun (e67 : Ending) (w177 : World) => e67 = Ending.returned (Value.tuple #[]) ∧ KeepX
    true w.heap.size [] (fun _ => False) w176 w177 ∧ (-9223372036854775808 ≤ x124 + 1 ∧ x124 + (1 : Int) ≤ 9223372036854775807) ∧ ∀ (w178 : World), RowKit.Below w.heap.size w w178
    → Kept [] w177 w178 → F1 [Lf.int IntKind.i64 (x124 + 1), Lf.int IntKind.i64 x2, Lf.int IntKind.i64 (x3 - 1), Lf.bool (decide ((x2 - x1).tdiv 8 ≤ x124 - x1)), Lf.bool t19] w178
    ∧ F2 [Lf.int IntKind.i64 (x124 + 1), Lf.int IntKind.i64 x2, Lf.int IntKind.i64 (x3 - 1), Lf.bool (decide ((x2 - x1).tdiv 8 ≤ x124 - x1)), Lf.bool t19] < F2 [Lf.int IntKind.i64
    x1, Lf.int IntKind.i64 x2, Lf.int IntKind.i64 x3, Lf.bool t1, Lf.bool t2]) ∧ (x2 - x124 ≤ x124 - x1 → (-9223372036854775808 ≤ x124 + 1 ∧ x124 + (1 : Int) ≤ 9223372036854775807)
    ∧ ∀ (w179 : World), RowKit.Below w.heap.size w w179 → Kept [] w175 w179 → Calls Tryz.prog 197 #[Value.slice dataa datan datac, Value.int IntKind.i64 (x124 + 1), Value.int
    IntKind.i64 x2, Value.int IntKind.i64 (x3 - 1), Value.func (Fn.func cmpf) cmpi.toArray cmpc.toArray] w179 fun (e68 : Ending) (w180 : World) => e68 = Ending.returned
    (Value.tuple #[]) ∧ KeepX true w.heap.size [] (fun _ => False) w179 w180 ∧ ∀ (w181 : World), RowKit.Below w.heap.size w w181 → Kept [] w180 w181 → F1 [Lf.int IntKind.i64 x1,
    Lf.int IntKind.i64 x124, Lf.int IntKind.i64 (x3 - 1), Lf.bool (decide ((x2 - x1).tdiv 8 ≤ x2 - x124)), Lf.bool t19] w181 ∧ F2 [Lf.int IntKind.i64 x1, Lf.int IntKind.i64 x124,
    Lf.int IntKind.i64 (x3 - 1), Lf.bool (decide ((x2 - x1).tdiv 8 ≤ x2 - x124)), Lf.bool t19] < F2 [Lf.int IntKind.i64 x1, Lf.int IntKind.i64 x2, Lf.int IntKind.i64 x3, Lf.bool
    t1, Lf.bool t2]))) ∧ (x1 ≤ 0 → ∀ (w182 : World), RowKit.Below w.heap.size w w182 → Kept [] w13 w182 → Calls Tryz.prog 227 #[Value.slice dataa datan datac, Value.int IntKind.i64
    x1, Value.int IntKind.i64 x2, Value.int IntKind.i64 x4, Value.func (Fn.func cmpf) cmpi.toArray cmpc.toArray] w182 fun (e69 : Ending) (w183 : World) => ∃ (x129 : Int), ∃ (t20 :
    Bool), e69 = Ending.returned (Value.tuple #[Value.int IntKind.i64 x129, Value.bool t20]) ∧ KeepX true w.heap.size [] (fun _ => False) w182 w183 ∧ (-9223372036854775808 ≤ x129 -
    x1 ∧ x129 - x1 ≤ 9223372036854775807) ∧ (-9223372036854775808 ≤ x2 - x129 ∧ x2 - x129 ≤ 9223372036854775807) ∧ ((8 : Int) ≠ 0 ∧ -9223372036854775808 ≤ (x2 - x1).tdiv 8 ∧ (x2 -
    x1).tdiv (8 : Int) ≤ 9223372036854775807) ∧ (x129 - x1 < x2 - x129 → ∀ (w184 : World), RowKit.Below w.heap.size w w184 → Kept [] w183 w184 → Calls Tryz.prog 197 #[Value.slice
    dataa datan datac, Value.int IntKind.i64 x1, Value.int IntKind.i64 x129, Value.int IntKind.i64 (x3 - 1), Value.func (Fn.func cmpf) cmpi.toArray cmpc.toArray] w184 fun (e70 :
    Ending) (w185 : World) => e70 = Ending.returned (Value.tuple #[]) ∧ KeepX true w.heap.size [] (fun _ => False) w184 w185 ∧ (-9223372036854775808 ≤ x129 + 1 ∧ x129 + (1 : Int) ≤
    9223372036854775807) ∧ ∀ (w186 : World), RowKit.Below w.heap.size w w186 → Kept [] w185 w186 → F1 [Lf.int IntKind.i64 (x129 + 1), Lf.int IntKind.i64 x2, Lf.int IntKind.i64 (x3
    - 1), Lf.bool (decide ((x2 - x1).tdiv 8 ≤ x129 - x1)), Lf.bool t20] w186 ∧ F2 [Lf.int IntKind.i64 (x129 + 1), Lf.int IntKind.i64 x2, Lf.int IntKind.i64 (x3 - 1), Lf.bool
    (decide ((x2 - x1).tdiv 8 ≤ x129 - x1)), Lf.bool t20] < F2 [Lf.int IntKind.i64 x1, Lf.int IntKind.i64 x2, Lf.int IntKind.i64 x3, Lf.bool t1, Lf.bool t2]) ∧ (x2 - x129 ≤ x129 -
    x1 → (-9223372036854775808 ≤ x129 + 1 ∧ x129 + (1 : Int) ≤ 9223372036854775807) ∧ ∀ (w187 : World), RowKit.Below w.heap.size w w187 → Kept [] w183 w187 → Calls Tryz.prog 197
    #[Value.slice dataa datan datac, Value.int IntKind.i64 (x129 + 1), Value.int IntKind.i64 x2, Value.int IntKind.i64 (x3 - 1), Value.func (Fn.func cmpf) cmpi.toArray
    cmpc.toArray] w187 fun (e71 : Ending) (w188 : World) => e71 = Ending.returned (Value.tuple #[]) ∧ KeepX true w.heap.size [] (fun _ => False) w187 w188 ∧ ∀ (w189 : World),
    RowKit.Below w.heap.size w w189 → Kept [] w188 w189 → F1 [Lf.int IntKind.i64 x1, Lf.int IntKind.i64 x129, Lf.int IntKind.i64 (x3 - 1), Lf.bool (decide ((x2 - x1).tdiv 8 ≤ x2 -
    x129)), Lf.bool t20] w189 ∧ F2 [Lf.int IntKind.i64 x1, Lf.int IntKind.i64 x129, Lf.int IntKind.i64 (x3 - 1), Lf.bool (decide ((x2 - x1).tdiv 8 ≤ x2 - x129)), Lf.bool t20] < F2
    [Lf.int IntKind.i64 x1, Lf.int IntKind.i64 x2, Lf.int IntKind.i64 x3, Lf.bool t1, Lf.bool t2]))))) ∧ ((!t1) = false → ∀ (w190 : World), RowKit.Below w.heap.size w w190 → Kept
    [] w3 w190 → Calls Tryz.prog 223 #[Value.slice dataa datan datac, Value.int IntKind.i64 x1, Value.int IntKind.i64 x2, Value.func (Fn.func cmpf) cmpi.toArray cmpc.toArray] w190
    fun (e72 : Ending) (w191 : World) => ∃ (x134 : Int), ∃ (x135 : Int), e72 = Ending.returned (Value.tuple #[Value.int IntKind.i64 x134, Value.int IntKind.i64 x135]) ∧ KeepX true
    w.heap.size [] (fun _ => False) w190 w191 ∧ (x135 = 2 → ∀ (w192 : World), RowKit.Below w.heap.size w w192 → Kept [] w191 w192 → Calls Tryz.prog 224 #[Value.slice dataa datan
    datac, Value.int IntKind.i64 x1, Value.int IntKind.i64 x2, Value.func (Fn.func cmpf) cmpi.toArray cmpc.toArray] w192 fun (e73 : Ending) (w193 : World) => e73 = Ending.returned
    (Value.tuple #[]) ∧ KeepX true w.heap.size [] (fun _ => False) w192 w193 ∧ (-9223372036854775808 ≤ x2 - 1 ∧ x2 - (1 : Int) ≤ 9223372036854775807) ∧ (-9223372036854775808 ≤ x134
    - x1 ∧ x134 - x1 ≤ 9223372036854775807) ∧ (-9223372036854775808 ≤ x2 - 1 - (x134 - x1) ∧ x2 - 1 - (x134 - x1) ≤ 9223372036854775807) ∧ (t1 = true → (t2 = true → ((1 : Int) = 1
    → ∀ (w194 : World), RowKit.Below w.heap.size w w194 → Kept [] w193 w194 → Calls Tryz.prog 225 #[Value.slice dataa datan datac, Value.int IntKind.i64 x1, Value.int IntKind.i64
    x2, Value.func (Fn.func cmpf) cmpi.toArray cmpc.toArray] w194 fun (e74 : Ending) (w195 : World) => ∃ (t21 : Bool), e74 = Ending.returned (Value.bool t21) ∧ KeepX true
    w.heap.size [] (fun _ => False) w194 w195 ∧ (t21 = true → ∀ (w196 : World), RowKit.Below w.heap.size w w196 → Kept [] w195 w196 → R (Ending.returned (Value.tuple #[])) w196) ∧
    (t21 = false → (0 < x1 → (-9223372036854775808 ≤ x1 - 1 ∧ x1 - (1 : Int) ≤ 9223372036854775807) ∧ ∃ (m235 : Nat), ∃ (m236 : Nat), dataa = some { block := m235, off := m236 } ∧
    (0 ≤ x1 - 1 ∧ x1 - 1 < (↑datan : Int)) ∧ ∃ (x136 : Int), ∃ (x137 : Int), w195.cell? { block := m235, off := m236 + (x1 - 1).toNat * 2 } = some (Value.int IntKind.i64 x136) ∧
    w195.cell? { block := m235, off := m236 + (x1 - 1).toNat * 2 + 1 } = some (Value.int IntKind.i64 x137) ∧ ∃ (m237 : Nat), ∃ (m238 : Nat), dataa = some
    { block := m237, off := m238 } ∧ (0 ≤ x2 - 1 - (x134 - x1) ∧ x2 - 1 - (x134 - x1) < (↑datan : Int)) ∧ ∃ (x138 : Int), ∃ (x139 : Int), w195.cell?
    { block := m237, off := m238 + (x2 - 1 - (x134 - x1)).toNat * 2 } = some (Value.int IntKind.i64 x138) ∧ w195.cell?
    { block := m237, off := m238 + (x2 - 1 - (x134 - x1)).toNat * 2 + 1 } = some (Value.int IntKind.i64 x139) ∧ Callable Tryz.prog cmpf ∧ ∀ (w197 : World), RowKit.Below w.heap.size
    w w197 → KeptIn [(0, w195.heap.size)] [] w195 w197 → Calls Tryz.prog cmpf (cmpi ++ [Value.agg #[Value.int IntKind.i64 x136, Value.int IntKind.i64 x137], Value.agg #[Value.int
    IntKind.i64 x138, Value.int IntKind.i64 x139]] ++ cmpc).toArray w197 fun (e75 : Ending) (w198 : World) => ∃ (x140 : Int), e75 = Ending.returned (Value.int IntKind.i64 x140) ∧
    KeepX true w.heap.size [] (fun _ => False) w197 w198 ∧ (0 ≤ x140 → ∀ (w199 : World), RowKit.Below w.heap.size w w199 → Kept [] w198 w199 → Calls Tryz.prog 226 #[Value.slice
    dataa datan datac, Value.int IntKind.i64 x1, Value.int IntKind.i64 x2, Value.int IntKind.i64 (x2 - 1 - (x134 - x1)), Value.func (Fn.func cmpf) cmpi.toArray cmpc.toArray] w199
    fun (e76 : Ending) (w200 : World) => ∃ (x141 : Int), e76 = Ending.returned (Value.int IntKind.i64 x141) ∧ KeepX true w.heap.size [] (fun _ => False) w199 w200 ∧ ∀ (w201 :
    World), RowKit.Below w.heap.size w w201 → Kept [] w200 w201 → F1 [Lf.int IntKind.i64 x141, Lf.int IntKind.i64 x2, Lf.int IntKind.i64 x3, Lf.bool t1, Lf.bool t2] w201 ∧ F2
    [Lf.int IntKind.i64 x141, Lf.int IntKind.i64 x2, Lf.int IntKind.i64 x3, Lf.bool t1, Lf.bool t2] < F2 [Lf.int IntKind.i64 x1, Lf.int IntKind.i64 x2, Lf.int IntKind.i64 x3,
    Lf.bool t1, Lf.bool t2]) ∧ (x140 < 0 → ∀ (w202 : World), RowKit.Below w.heap.size w w202 → Kept [] w198 w202 → Calls Tryz.prog 227 #[Value.slice dataa datan datac, Value.int
    IntKind.i64 x1, Value.int IntKind.i64 x2, Value.int IntKind.i64 (x2 - 1 - (x134 - x1)), Value.func (Fn.func cmpf) cmpi.toArray cmpc.toArray] w202 fun (e77 : Ending) (w203 :
    World) => ∃ (x142 : Int), ∃ (t22 : Bool), e77 = Ending.returned (Value.tuple #[Value.int IntKind.i64 x142, Value.bool t22]) ∧ KeepX true w.heap.size [] (fun _ => False) w202
    w203 ∧ (-9223372036854775808 ≤ x142 - x1 ∧ x142 - x1 ≤ 9223372036854775807) ∧ (-9223372036854775808 ≤ x2 - x142 ∧ x2 - x142 ≤ 9223372036854775807) ∧ ((8 : Int) ≠ 0 ∧
    -9223372036854775808 ≤ (x2 - x1).tdiv 8 ∧ (x2 - x1).tdiv (8 : Int) ≤ 9223372036854775807) ∧ (x142 - x1 < x2 - x142 → ∀ (w204 : World), RowKit.Below w.heap.size w w204 → Kept []
    w203 w204 → Calls Tryz.prog 197 #[Value.slice dataa datan datac, Value.int IntKind.i64 x1, Value.int IntKind.i64 x142, Value.int IntKind.i64 x3, Value.func (Fn.func cmpf)
    cmpi.toArray cmpc.toArray] w204 fun (e78 : Ending) (w205 : World) => e78 = Ending.returned (Value.tuple #[]) ∧ KeepX true w.heap.size [] (fun _ => False) w204 w205 ∧
    (-9223372036854775808 ≤ x142 + 1 ∧ x142 + (1 : Int) ≤ 9223372036854775807) ∧ ∀ (w206 : World), RowKit.Below w.heap.size w w206 → Kept [] w205 w206 → F1 [Lf.int IntKind.i64
    (x142 + 1), Lf.int IntKind.i64 x2, Lf.int IntKind.i64 x3, Lf.bool (decide ((x2 - x1).tdiv 8 ≤ x142 - x1)), Lf.bool t22] w206 ∧ F2 [Lf.int IntKind.i64 (x142 + 1), Lf.int
    IntKind.i64 x2, Lf.int IntKind.i64 x3, Lf.bool (decide ((x2 - x1).tdiv 8 ≤ x142 - x1)), Lf.bool t22] < F2 [Lf.int IntKind.i64 x1, Lf.int IntKind.i64 x2, Lf.int IntKind.i64 x3,
    Lf.bool t1, Lf.bool t2]) ∧ (x2 - x142 ≤ x142 - x1 → (-9223372036854775808 ≤ x142 + 1 ∧ x142 + (1 : Int) ≤ 9223372036854775807) ∧ ∀ (w207 : World), RowKit.Below w.heap.size w
    w207 → Kept [] w203 w207 → Calls Tryz.prog 197 #[Value.slice dataa datan datac, Value.int IntKind.i64 (x142 + 1), Value.int IntKind.i64 x2, Value.int IntKind.i64 x3, Value.func
    (Fn.func cmpf) cmpi.toArray cmpc.toArray] w207 fun (e79 : Ending) (w208 : World) => e79 = Ending.returned (Value.tuple #[]) ∧ KeepX true w.heap.size [] (fun _ => False) w207
    w208 ∧ ∀ (w209 : World), RowKit.Below w.heap.size w w209 → Kept [] w208 w209 → F1 [Lf.int IntKind.i64 x1, Lf.int IntKind.i64 x142, Lf.int IntKind.i64 x3, Lf.bool (decide ((x2 -
    x1).tdiv 8 ≤ x2 - x142)), Lf.bool t22] w209 ∧ F2 [Lf.int IntKind.i64 x1, Lf.int IntKind.i64 x142, Lf.int IntKind.i64 x3, Lf.bool (decide ((x2 - x1).tdiv 8 ≤ x2 - x142)),
    Lf.bool t22] < F2 [Lf.int IntKind.i64 x1, Lf.int IntKind.i64 x2, Lf.int IntKind.i64 x3, Lf.bool t1, Lf.bool t2]))) ∧ (x1 ≤ 0 → ∀ (w210 : World), RowKit.Below w.heap.size w w210
    → Kept [] w195 w210 → Calls Tryz.prog 227 #[Value.slice dataa datan datac, Value.int IntKind.i64 x1, Value.int IntKind.i64 x2, Value.int IntKind.i64 (x2 - 1 - (x134 - x1)),
    Value.func (Fn.func cmpf) cmpi.toArray cmpc.toArray] w210 fun (e80 : Ending) (w211 : World) => ∃ (x147 : Int), ∃ (t23 : Bool), e80 = Ending.returned (Value.tuple #[Value.int
    IntKind.i64 x147, Value.bool t23]) ∧ KeepX true w.heap.size [] (fun _ => False) w210 w211 ∧ (-9223372036854775808 ≤ x147 - x1 ∧ x147 - x1 ≤ 9223372036854775807) ∧
    (-9223372036854775808 ≤ x2 - x147 ∧ x2 - x147 ≤ 9223372036854775807) ∧ ((8 : Int) ≠ 0 ∧ -9223372036854775808 ≤ (x2 - x1).tdiv 8 ∧ (x2 - x1).tdiv (8 : Int) ≤
    9223372036854775807) ∧ (x147 - x1 < x2 - x147 → ∀ (w212 : World), RowKit.Below w.heap.size w w212 → Kept [] w211 w212 → Calls Tryz.prog 197 #[Value.slice dataa datan datac,
    Value.int IntKind.i64 x1, Value.int IntKind.i64 x147, Value.int IntKind.i64 x3, Value.func (Fn.func cmpf) cmpi.toArray cmpc.toArray] w212 fun (e81 : Ending) (w213 : World) =>
    e81 = Ending.returned (Value.tuple #[]) ∧ KeepX true w.heap.size [] (fun _ => False) w212 w213 ∧ (-9223372036854775808 ≤ x147 + 1 ∧ x147 + (1 : Int) ≤ 9223372036854775807) ∧ ∀
    (w214 : World), RowKit.Below w.heap.size w w214 → Kept [] w213 w214 → F1 [Lf.int IntKind.i64 (x147 + 1), Lf.int IntKind.i64 x2, Lf.int IntKind.i64 x3, Lf.bool (decide ((x2 -
    x1).tdiv 8 ≤ x147 - x1)), Lf.bool t23] w214 ∧ F2 [Lf.int IntKind.i64 (x147 + 1), Lf.int IntKind.i64 x2, Lf.int IntKind.i64 x3, Lf.bool (decide ((x2 - x1).tdiv 8 ≤ x147 - x1)),
    Lf.bool t23] < F2 [Lf.int IntKind.i64 x1, Lf.int IntKind.i64 x2, Lf.int IntKind.i64 x3, Lf.bool t1, Lf.bool t2]) ∧ (x2 - x147 ≤ x147 - x1 → (-9223372036854775808 ≤ x147 + 1 ∧
    x147 + (1 : Int) ≤ 9223372036854775807) ∧ ∀ (w215 : World), RowKit.Below w.heap.size w w215 → Kept [] w211 w215 → Calls Tryz.prog 197 #[Value.slice dataa datan datac, Value.int
    IntKind.i64 (x147 + 1), Value.int IntKind.i64 x2, Value.int IntKind.i64 x3, Value.func (Fn.func cmpf) cmpi.toArray cmpc.toArray] w215 fun (e82 : Ending) (w216 : World) => e82 =
    Ending.returned (Value.tuple #[]) ∧ KeepX true w.heap.size [] (fun _ => False) w215 w216 ∧ ∀ (w217 : World), RowKit.Below w.heap.size w w217 → Kept [] w216 w217 → F1 [Lf.int
    IntKind.i64 x1, Lf.int IntKind.i64 x147, Lf.int IntKind.i64 x3, Lf.bool (decide ((x2 - x1).tdiv 8 ≤ x2 - x147)), Lf.bool t23] w217 ∧ F2 [Lf.int IntKind.i64 x1, Lf.int
    IntKind.i64 x147, Lf.int IntKind.i64 x3, Lf.bool (decide ((x2 - x1).tdiv 8 ≤ x2 - x147)), Lf.bool t23] < F2 [Lf.int IntKind.i64 x1, Lf.int IntKind.i64 x2, Lf.int IntKind.i64
    x3, Lf.bool t1, Lf.bool t2])))) ∧ ((1 : Int) ≠ 1 → (0 < x1 → (-9223372036854775808 ≤ x1 - 1 ∧ x1 - (1 : Int) ≤ 9223372036854775807) ∧ ∃ (m263 : Nat), ∃ (m264 : Nat), dataa =
    some { block := m263, off := m264 } ∧ (0 ≤ x1 - 1 ∧ x1 - 1 < (↑datan : Int)) ∧ ∃ (x152 : Int), ∃ (x153 : Int), w193.cell? { block := m263, off := m264 + (x1 - 1).toNat * 2 } =
    some (Value.int IntKind.i64 x152) ∧ w193.cell? { block := m263, off := m264 + (x1 - 1).toNat * 2 + 1 } = some (Value.int IntKind.i64 x153) ∧ ∃ (m265 : Nat), ∃ (m266 : Nat),
    dataa = some { block := m265, off := m266 } ∧ (0 ≤ x2 - 1 - (x134 - x1) ∧ x2 - 1 - (x134 - x1) < (↑datan : Int)) ∧ ∃ (x154 : Int), ∃ (x155 : Int), w193.cell?
    { block := m265, off := m266 + (x2 - 1 - (x134 - x1)).toNat * 2 } = some (Value.int IntKind.i64 x154) ∧ w193.cell?
    { block := m265, off := m266 + (x2 - 1 - (x134 - x1)).toNat * 2 + 1 } = some (Value.int IntKind.i64 x155) ∧ Callable Tryz.prog cmpf ∧ ∀ (w218 : World), RowKit.Below w.heap.size
    w w218 → KeptIn [(0, w193.heap.size)] [] w193 w218 → Calls Tryz.prog cmpf (cmpi ++ [Value.agg #[Value.int IntKind.i64 x152, Value.int IntKind.i64 x153], Value.agg #[Value.int
    IntKind.i64 x154, Value.int IntKind.i64 x155]] ++ cmpc).toArray w218 fun (e83 : Ending) (w219 : World) => ∃ (x156 : Int), e83 = Ending.returned (Value.int IntKind.i64 x156) ∧
    KeepX true w.heap.size [] (fun _ => False) w218 w219 ∧ (0 ≤ x156 → ∀ (w220 : World), RowKit.Below w.heap.size w w220 → Kept [] w219 w220 → Calls Tryz.prog 226 #[Value.slice
    dataa datan datac, Value.int IntKind.i64 x1, Value.int IntKind.i64 x2, Value.int IntKind.i64 (x2 - 1 - (x134 - x1)), Value.func (Fn.func cmpf) cmpi.toArray cmpc.toArray] w220
    fun (e84 : Ending) (w221 : World) => ∃ (x157 : Int), e84 = Ending.returned (Value.int IntKind.i64 x157) ∧ KeepX true w.heap.size [] (fun _ => False) w220 w221 ∧ ∀ (w222 :
    World), RowKit.Below w.heap.size w w222 → Kept [] w221 w222 → F1 [Lf.int IntKind.i64 x157, Lf.int IntKind.i64 x2, Lf.int IntKind.i64 x3, Lf.bool t1, Lf.bool t2] w222 ∧ F2
    [Lf.int IntKind.i64 x157, Lf.int IntKind.i64 x2, Lf.int IntKind.i64 x3, Lf.bool t1, Lf.bool t2] < F2 [Lf.int IntKind.i64 x1, Lf.int IntKind.i64 x2, Lf.int IntKind.i64 x3,
    Lf.bool t1, Lf.bool t2]) ∧ (x156 < 0 → ∀ (w223 : World), RowKit.Below w.heap.size w w223 → Kept [] w219 w223 → Calls Tryz.prog 227 #[Value.slice dataa datan datac, Value.int
    IntKind.i64 x1, Value.int IntKind.i64 x2, Value.int IntKind.i64 (x2 - 1 - (x134 - x1)), Value.func (Fn.func cmpf) cmpi.toArray cmpc.toArray] w223 fun (e85 : Ending) (w224 :
    World) => ∃ (x158 : Int), ∃ (t24 : Bool), e85 = Ending.returned (Value.tuple #[Value.int IntKind.i64 x158, Value.bool t24]) ∧ KeepX true w.heap.size [] (fun _ => False) w223
    w224 ∧ (-9223372036854775808 ≤ x158 - x1 ∧ x158 - x1 ≤ 9223372036854775807) ∧ (-9223372036854775808 ≤ x2 - x158 ∧ x2 - x158 ≤ 9223372036854775807) ∧ ((8 : Int) ≠ 0 ∧
    -9223372036854775808 ≤ (x2 - x1).tdiv 8 ∧ (x2 - x1).tdiv (8 : Int) ≤ 9223372036854775807) ∧ (x158 - x1 < x2 - x158 → ∀ (w225 : World), RowKit.Below w.heap.size w w225 → Kept []
    w224 w225 → Calls Tryz.prog 197 #[Value.slice dataa datan datac, Value.int IntKind.i64 x1, Value.int IntKind.i64 x158, Value.int IntKind.i64 x3, Value.func (Fn.func cmpf)
    cmpi.toArray cmpc.toArray] w225 fun (e86 : Ending) (w226 : World) => e86 = Ending.returned (Value.tuple #[]) ∧ KeepX true w.heap.size [] (fun _ => False) w225 w226 ∧
    (-9223372036854775808 ≤ x158 + 1 ∧ x158 + (1 : Int) ≤ 9223372036854775807) ∧ ∀ (w227 : World), RowKit.Below w.heap.size w w227 → Kept [] w226 w227 → F1 [Lf.int IntKind.i64
    (x158 + 1), Lf.int IntKind.i64 x2, Lf.int IntKind.i64 x3, Lf.bool (decide ((x2 - x1).tdiv 8 ≤ x158 - x1)), Lf.bool t24] w227 ∧ F2 [Lf.int IntKind.i64 (x158 + 1), Lf.int
    IntKind.i64 x2, Lf.int IntKind.i64 x3, Lf.bool (decide ((x2 - x1).tdiv 8 ≤ x158 - x1)), Lf.bool t24] < F2 [Lf.int IntKind.i64 x1, Lf.int IntKind.i64 x2, Lf.int IntKind.i64 x3,
    Lf.bool t1, Lf.bool t2]) ∧ (x2 - x158 ≤ x158 - x1 → (-9223372036854775808 ≤ x158 + 1 ∧ x158 + (1 : Int) ≤ 9223372036854775807) ∧ ∀ (w228 : World), RowKit.Below w.heap.size w
    w228 → Kept [] w224 w228 → Calls Tryz.prog 197 #[Value.slice dataa datan datac, Value.int IntKind.i64 (x158 + 1), Value.int IntKind.i64 x2, Value.int IntKind.i64 x3, Value.func
    (Fn.func cmpf) cmpi.toArray cmpc.toArray] w228 fun (e87 : Ending) (w229 : World) => e87 = Ending.returned (Value.tuple #[]) ∧ KeepX true w.heap.size [] (fun _ => False) w228
    w229 ∧ ∀ (w230 : World), RowKit.Below w.heap.size w w230 → Kept [] w229 w230 → F1 [Lf.int IntKind.i64 x1, Lf.int IntKind.i64 x158, Lf.int IntKind.i64 x3, Lf.bool (decide ((x2 -
    x1).tdiv 8 ≤ x2 - x158)), Lf.bool t24] w230 ∧ F2 [Lf.int IntKind.i64 x1, Lf.int IntKind.i64 x158, Lf.int IntKind.i64 x3, Lf.bool (decide ((x2 - x1).tdiv 8 ≤ x2 - x158)),
    Lf.bool t24] < F2 [Lf.int IntKind.i64 x1, Lf.int IntKind.i64 x2, Lf.int IntKind.i64 x3, Lf.bool t1, Lf.bool t2]))) ∧ (x1 ≤ 0 → ∀ (w231 : World), RowKit.Below w.heap.size w w231
    → Kept [] w193 w231 → Calls Tryz.prog 227 #[Value.slice dataa datan datac, Value.int IntKind.i64 x1, Value.int IntKind.i64 x2, Value.int IntKind.i64 (x2 - 1 - (x134 - x1)),
    Value.func (Fn.func cmpf) cmpi.toArray cmpc.toArray] w231 fun (e88 : Ending) (w232 : World) => ∃ (x163 : Int), ∃ (t25 : Bool), e88 = Ending.returned (Value.tuple #[Value.int
    IntKind.i64 x163, Value.bool t25]) ∧ KeepX true w.heap.size [] (fun _ => False) w231 w232 ∧ (-9223372036854775808 ≤ x163 - x1 ∧ x163 - x1 ≤ 9223372036854775807) ∧
    (-9223372036854775808 ≤ x2 - x163 ∧ x2 - x163 ≤ 9223372036854775807) ∧ ((8 : Int) ≠ 0 ∧ -9223372036854775808 ≤ (x2 - x1).tdiv 8 ∧ (x2 - x1).tdiv (8 : Int) ≤
    9223372036854775807) ∧ (x163 - x1 < x2 - x163 → ∀ (w233 : World), RowKit.Below w.heap.size w w233 → Kept [] w232 w233 → Calls Tryz.prog 197 #[Value.slice dataa datan datac,
    Value.int IntKind.i64 x1, Value.int IntKind.i64 x163, Value.int IntKind.i64 x3, Value.func (Fn.func cmpf) cmpi.toArray cmpc.toArray] w233 fun (e89 : Ending) (w234 : World) =>
    e89 = Ending.returned (Value.tuple #[]) ∧ KeepX true w.heap.size [] (fun _ => False) w233 w234 ∧ (-9223372036854775808 ≤ x163 + 1 ∧ x163 + (1 : Int) ≤ 9223372036854775807) ∧ ∀
    (w235 : World), RowKit.Below w.heap.size w w235 → Kept [] w234 w235 → F1 [Lf.int IntKind.i64 (x163 + 1), Lf.int IntKind.i64 x2, Lf.int IntKind.i64 x3, Lf.bool (decide ((x2 -
    x1).tdiv 8 ≤ x163 - x1)), Lf.bool t25] w235 ∧ F2 [Lf.int IntKind.i64 (x163 + 1), Lf.int IntKind.i64 x2, Lf.int IntKind.i64 x3, Lf.bool (decide ((x2 - x1).tdiv 8 ≤ x163 - x1)),
    Lf.bool t25] < F2 [Lf.int IntKind.i64 x1, Lf.int IntKind.i64 x2, Lf.int IntKind.i64 x3, Lf.bool t1, Lf.bool t2]) ∧ (x2 - x163 ≤ x163 - x1 → (-9223372036854775808 ≤ x163 + 1 ∧
    x163 + (1 : Int) ≤ 9223372036854775807) ∧ ∀ (w236 : World), RowKit.Below w.heap.size w w236 → Kept [] w232 w236 → Calls Tryz.prog 197 #[Value.slice dataa datan datac, Value.int
    IntKind.i64 (x163 + 1), Value.int IntKind.i64 x2, Value.int IntKind.i64 x3, Value.func (Fn.func cmpf) cmpi.toArray cmpc.toArray] w236 fun (e90 : Ending) (w237 : World) => e90 =
    Ending.returned (Value.tuple #[]) ∧ KeepX true w.heap.size [] (fun _ => False) w236 w237 ∧ ∀ (w238 : World), RowKit.Below w.heap.size w w238 → Kept [] w237 w238 → F1 [Lf.int
    IntKind.i64 x1, Lf.int IntKind.i64 x163, Lf.int IntKind.i64 x3, Lf.bool (decide ((x2 - x1).tdiv 8 ≤ x2 - x163)), Lf.bool t25] w238 ∧ F2 [Lf.int IntKind.i64 x1, Lf.int
    IntKind.i64 x163, Lf.int IntKind.i64 x3, Lf.bool (decide ((x2 - x1).tdiv 8 ≤ x2 - x163)), Lf.bool t25] < F2 [Lf.int IntKind.i64 x1, Lf.int IntKind.i64 x2, Lf.int IntKind.i64
    x3, Lf.bool t1, Lf.bool t2])))) ∧ (t2 = false → (0 < x1 → (-9223372036854775808 ≤ x1 - 1 ∧ x1 - (1 : Int) ≤ 9223372036854775807) ∧ ∃ (m291 : Nat), ∃ (m292 : Nat), dataa = some
    { block := m291, off := m292 } ∧ (0 ≤ x1 - 1 ∧ x1 - 1 < (↑datan : Int)) ∧ ∃ (x168 : Int), ∃ (x169 : Int), w193.cell? { block := m291, off := m292 + (x1 - 1).toNat * 2 } = some
    (Value.int IntKind.i64 x168) ∧ w193.cell? { block := m291, off := m292 + (x1 - 1).toNat * 2 + 1 } = some (Value.int IntKind.i64 x169) ∧ ∃ (m293 : Nat), ∃ (m294 : Nat), dataa =
    some { block := m293, off := m294 } ∧ (0 ≤ x2 - 1 - (x134 - x1) ∧ x2 - 1 - (x134 - x1) < (↑datan : Int)) ∧ ∃ (x170 : Int), ∃ (x171 : Int), w193.cell?
    { block := m293, off := m294 + (x2 - 1 - (x134 - x1)).toNat * 2 } = some (Value.int IntKind.i64 x170) ∧ w193.cell?
    { block := m293, off := m294 + (x2 - 1 - (x134 - x1)).toNat * 2 + 1 } = some (Value.int IntKind.i64 x171) ∧ Callable Tryz.prog cmpf ∧ ∀ (w239 : World), RowKit.Below w.heap.size
    w w239 → KeptIn [(0, w193.heap.size)] [] w193 w239 → Calls Tryz.prog cmpf (cmpi ++ [Value.agg #[Value.int IntKind.i64 x168, Value.int IntKind.i64 x169], Value.agg #[Value.int
    IntKind.i64 x170, Value.int IntKind.i64 x171]] ++ cmpc).toArray w239 fun (e91 : Ending) (w240 : World) => ∃ (x172 : Int), e91 = Ending.returned (Value.int IntKind.i64 x172) ∧
    KeepX true w.heap.size [] (fun _ => False) w239 w240 ∧ (0 ≤ x172 → ∀ (w241 : World), RowKit.Below w.heap.size w w241 → Kept [] w240 w241 → Calls Tryz.prog 226 #[Value.slice
    dataa datan datac, Value.int IntKind.i64 x1, Value.int IntKind.i64 x2, Value.int IntKind.i64 (x2 - 1 - (x134 - x1)), Value.func (Fn.func cmpf) cmpi.toArray cmpc.toArray] w241
    fun (e92 : Ending) (w242 : World) => ∃ (x173 : Int), e92 = Ending.returned (Value.int IntKind.i64 x173) ∧ KeepX true w.heap.size [] (fun _ => False) w241 w242 ∧ ∀ (w243 :
    World), RowKit.Below w.heap.size w w243 → Kept [] w242 w243 → F1 [Lf.int IntKind.i64 x173, Lf.int IntKind.i64 x2, Lf.int IntKind.i64 x3, Lf.bool t1, Lf.bool t2] w243 ∧ F2
    [Lf.int IntKind.i64 x173, Lf.int IntKind.i64 x2, Lf.int IntKind.i64 x3, Lf.bool t1, Lf.bool t2] < F2 [Lf.int IntKind.i64 x1, Lf.int IntKind.i64 x2, Lf.int IntKind.i64 x3,
    Lf.bool t1, Lf.bool t2]) ∧ (x172 < 0 → ∀ (w244 : World), RowKit.Below w.heap.size w w244 → Kept [] w240 w244 → Calls Tryz.prog 227 #[Value.slice dataa datan datac, Value.int
    IntKind.i64 x1, Value.int IntKind.i64 x2, Value.int IntKind.i64 (x2 - 1 - (x134 - x1)), Value.func (Fn.func cmpf) cmpi.toArray cmpc.toArray] w244 fun (e93 : Ending) (w245 :
    World) => ∃ (x174 : Int), ∃ (t26 : Bool), e93 = Ending.returned (Value.tuple #[Value.int IntKind.i64 x174, Value.bool t26]) ∧ KeepX true w.heap.size [] (fun _ => False) w244
    w245 ∧ (-9223372036854775808 ≤ x174 - x1 ∧ x174 - x1 ≤ 9223372036854775807) ∧ (-9223372036854775808 ≤ x2 - x174 ∧ x2 - x174 ≤ 9223372036854775807) ∧ ((8 : Int) ≠ 0 ∧
    -9223372036854775808 ≤ (x2 - x1).tdiv 8 ∧ (x2 - x1).tdiv (8 : Int) ≤ 9223372036854775807) ∧ (x174 - x1 < x2 - x174 → ∀ (w246 : World), RowKit.Below w.heap.size w w246 → Kept []
    w245 w246 → Calls Tryz.prog 197 #[Value.slice dataa datan datac, Value.int IntKind.i64 x1, Value.int IntKind.i64 x174, Value.int IntKind.i64 x3, Value.func (Fn.func cmpf)
    cmpi.toArray cmpc.toArray] w246 fun (e94 : Ending) (w247 : World) => e94 = Ending.returned (Value.tuple #[]) ∧ KeepX true w.heap.size [] (fun _ => False) w246 w247 ∧
    (-9223372036854775808 ≤ x174 + 1 ∧ x174 + (1 : Int) ≤ 9223372036854775807) ∧ ∀ (w248 : World), RowKit.Below w.heap.size w w248 → Kept [] w247 w248 → F1 [Lf.int IntKind.i64
    (x174 + 1), Lf.int IntKind.i64 x2, Lf.int IntKind.i64 x3, Lf.bool (decide ((x2 - x1).tdiv 8 ≤ x174 - x1)), Lf.bool t26] w248 ∧ F2 [Lf.int IntKind.i64 (x174 + 1), Lf.int
    IntKind.i64 x2, Lf.int IntKind.i64 x3, Lf.bool (decide ((x2 - x1).tdiv 8 ≤ x174 - x1)), Lf.bool t26] < F2 [Lf.int IntKind.i64 x1, Lf.int IntKind.i64 x2, Lf.int IntKind.i64 x3,
    Lf.bool t1, Lf.bool t2]) ∧ (x2 - x174 ≤ x174 - x1 → (-9223372036854775808 ≤ x174 + 1 ∧ x174 + (1 : Int) ≤ 9223372036854775807) ∧ ∀ (w249 : World), RowKit.Below w.heap.size w
    w249 → Kept [] w245 w249 → Calls Tryz.prog 197 #[Value.slice dataa datan datac, Value.int IntKind.i64 (x174 + 1), Value.int IntKind.i64 x2, Value.int IntKind.i64 x3, Value.func
    (Fn.func cmpf) cmpi.toArray cmpc.toArray] w249 fun (e95 : Ending) (w250 : World) => e95 = Ending.returned (Value.tuple #[]) ∧ KeepX true w.heap.size [] (fun _ => False) w249
    w250 ∧ ∀ (w251 : World), RowKit.Below w.heap.size w w251 → Kept [] w250 w251 → F1 [Lf.int IntKind.i64 x1, Lf.int IntKind.i64 x174, Lf.int IntKind.i64 x3, Lf.bool (decide ((x2 -
    x1).tdiv 8 ≤ x2 - x174)), Lf.bool t26] w251 ∧ F2 [Lf.int IntKind.i64 x1, Lf.int IntKind.i64 x174, Lf.int IntKind.i64 x3, Lf.bool (decide ((x2 - x1).tdiv 8 ≤ x2 - x174)),
    Lf.bool t26] < F2 [Lf.int IntKind.i64 x1, Lf.int IntKind.i64 x2, Lf.int IntKind.i64 x3, Lf.bool t1, Lf.bool t2]))) ∧ (x1 ≤ 0 → ∀ (w252 : World), RowKit.Below w.heap.size w w252
    → Kept [] w193 w252 → Calls Tryz.prog 227 #[Value.slice dataa datan datac, Value.int IntKind.i64 x1, Value.int IntKind.i64 x2, Value.int IntKind.i64 (x2 - 1 - (x134 - x1)),
    Value.func (Fn.func cmpf) cmpi.toArray cmpc.toArray] w252 fun (e96 : Ending) (w253 : World) => ∃ (x179 : Int), ∃ (t27 : Bool), e96 = Ending.returned (Value.tuple #[Value.int
    IntKind.i64 x179, Value.bool t27]) ∧ KeepX true w.heap.size [] (fun _ => False) w252 w253 ∧ (-9223372036854775808 ≤ x179 - x1 ∧ x179 - x1 ≤ 9223372036854775807) ∧
    (-9223372036854775808 ≤ x2 - x179 ∧ x2 - x179 ≤ 9223372036854775807) ∧ ((8 : Int) ≠ 0 ∧ -9223372036854775808 ≤ (x2 - x1).tdiv 8 ∧ (x2 - x1).tdiv (8 : Int) ≤
    9223372036854775807) ∧ (x179 - x1 < x2 - x179 → ∀ (w254 : World), RowKit.Below w.heap.size w w254 → Kept [] w253 w254 → Calls Tryz.prog 197 #[Value.slice dataa datan datac,
    Value.int IntKind.i64 x1, Value.int IntKind.i64 x179, Value.int IntKind.i64 x3, Value.func (Fn.func cmpf) cmpi.toArray cmpc.toArray] w254 fun (e97 : Ending) (w255 : World) =>
    e97 = Ending.returned (Value.tuple #[]) ∧ KeepX true w.heap.size [] (fun _ => False) w254 w255 ∧ (-9223372036854775808 ≤ x179 + 1 ∧ x179 + (1 : Int) ≤ 9223372036854775807) ∧ ∀
    (w256 : World), RowKit.Below w.heap.size w w256 → Kept [] w255 w256 → F1 [Lf.int IntKind.i64 (x179 + 1), Lf.int IntKind.i64 x2, Lf.int IntKind.i64 x3, Lf.bool (decide ((x2 -
    x1).tdiv 8 ≤ x179 - x1)), Lf.bool t27] w256 ∧ F2 [Lf.int IntKind.i64 (x179 + 1), Lf.int IntKind.i64 x2, Lf.int IntKind.i64 x3, Lf.bool (decide ((x2 - x1).tdiv 8 ≤ x179 - x1)),
    Lf.bool t27] < F2 [Lf.int IntKind.i64 x1, Lf.int IntKind.i64 x2, Lf.int IntKind.i64 x3, Lf.bool t1, Lf.bool t2]) ∧ (x2 - x179 ≤ x179 - x1 → (-9223372036854775808 ≤ x179 + 1 ∧
    x179 + (1 : Int) ≤ 9223372036854775807) ∧ ∀ (w257 : World), RowKit.Below w.heap.size w w257 → Kept [] w253 w257 → Calls Tryz.prog 197 #[Value.slice dataa datan datac, Value.int
    IntKind.i64 (x179 + 1), Value.int IntKind.i64 x2, Value.int IntKind.i64 x3, Value.func (Fn.func cmpf) cmpi.toArray cmpc.toArray] w257 fun (e98 : Ending) (w258 : World) => e98 =
    Ending.returned (Value.tuple #[]) ∧ KeepX true w.heap.size [] (fun _ => False) w257 w258 ∧ ∀ (w259 : World), RowKit.Below w.heap.size w w259 → Kept [] w258 w259 → F1 [Lf.int
    IntKind.i64 x1, Lf.int IntKind.i64 x179, Lf.int IntKind.i64 x3, Lf.bool (decide ((x2 - x1).tdiv 8 ≤ x2 - x179)), Lf.bool t27] w259 ∧ F2 [Lf.int IntKind.i64 x1, Lf.int
    IntKind.i64 x179, Lf.int IntKind.i64 x3, Lf.bool (decide ((x2 - x1).tdiv 8 ≤ x2 - x179)), Lf.bool t27] < F2 [Lf.int IntKind.i64 x1, Lf.int IntKind.i64 x2, Lf.int IntKind.i64
    x3, Lf.bool t1, Lf.bool t2])))) ∧ (t1 = false → (0 < x1 → (-9223372036854775808 ≤ x1 - 1 ∧ x1 - (1 : Int) ≤ 9223372036854775807) ∧ ∃ (m319 : Nat), ∃ (m320 : Nat), dataa = some
    { block := m319, off := m320 } ∧ (0 ≤ x1 - 1 ∧ x1 - 1 < (↑datan : Int)) ∧ ∃ (x184 : Int), ∃ (x185 : Int), w193.cell? { block := m319, off := m320 + (x1 - 1).toNat * 2 } = some
    (Value.int IntKind.i64 x184) ∧ w193.cell? { block := m319, off := m320 + (x1 - 1).toNat * 2 + 1 } = some (Value.int IntKind.i64 x185) ∧ ∃ (m321 : Nat), ∃ (m322 : Nat), dataa =
    some { block := m321, off := m322 } ∧ (0 ≤ x2 - 1 - (x134 - x1) ∧ x2 - 1 - (x134 - x1) < (↑datan : Int)) ∧ ∃ (x186 : Int), ∃ (x187 : Int), w193.cell?
    { block := m321, off := m322 + (x2 - 1 - (x134 - x1)).toNat * 2 } = some (Value.int IntKind.i64 x186) ∧ w193.cell?
    { block := m321, off := m322 + (x2 - 1 - (x134 - x1)).toNat * 2 + 1 } = some (Value.int IntKind.i64 x187) ∧ Callable Tryz.prog cmpf ∧ ∀ (w260 : World), RowKit.Below w.heap.size
    w w260 → KeptIn [(0, w193.heap.size)] [] w193 w260 → Calls Tryz.prog cmpf (cmpi ++ [Value.agg #[Value.int IntKind.i64 x184, Value.int IntKind.i64 x185], Value.agg #[Value.int
    IntKind.i64 x186, Value.int IntKind.i64 x187]] ++ cmpc).toArray w260 fun (e99 : Ending) (w261 : World) => ∃ (x188 : Int), e99 = Ending.returned (Value.int IntKind.i64 x188) ∧
    KeepX true w.heap.size [] (fun _ => False) w260 w261 ∧ (0 ≤ x188 → ∀ (w262 : World), RowKit.Below w.heap.size w w262 → Kept [] w261 w262 → Calls Tryz.prog 226 #[Value.slice
    dataa datan datac, Value.int IntKind.i64 x1, Value.int IntKind.i64 x2, Value.int IntKind.i64 (x2 - 1 - (x134 - x1)), Value.func (Fn.func cmpf) cmpi.toArray cmpc.toArray] w262
    fun (e100 : Ending) (w263 : World) => ∃ (x189 : Int), e100 = Ending.returned (Value.int IntKind.i64 x189) ∧ KeepX true w.heap.size [] (fun _ => False) w262 w263 ∧ ∀ (w264 :
    World), RowKit.Below w.heap.size w w264 → Kept [] w263 w264 → F1 [Lf.int IntKind.i64 x189, Lf.int IntKind.i64 x2, Lf.int IntKind.i64 x3, Lf.bool t1, Lf.bool t2] w264 ∧ F2
    [Lf.int IntKind.i64 x189, Lf.int IntKind.i64 x2, Lf.int IntKind.i64 x3, Lf.bool t1, Lf.bool t2] < F2 [Lf.int IntKind.i64 x1, Lf.int IntKind.i64 x2, Lf.int IntKind.i64 x3,
    Lf.bool t1, Lf.bool t2]) ∧ (x188 < 0 → ∀ (w265 : World), RowKit.Below w.heap.size w w265 → Kept [] w261 w265 → Calls Tryz.prog 227 #[Value.slice dataa datan datac, Value.int
    IntKind.i64 x1, Value.int IntKind.i64 x2, Value.int IntKind.i64 (x2 - 1 - (x134 - x1)), Value.func (Fn.func cmpf) cmpi.toArray cmpc.toArray] w265 fun (e101 : Ending) (w266 :
    World) => ∃ (x190 : Int), ∃ (t28 : Bool), e101 = Ending.returned (Value.tuple #[Value.int IntKind.i64 x190, Value.bool t28]) ∧ KeepX true w.heap.size [] (fun _ => False) w265
    w266 ∧ (-9223372036854775808 ≤ x190 - x1 ∧ x190 - x1 ≤ 9223372036854775807) ∧ (-9223372036854775808 ≤ x2 - x190 ∧ x2 - x190 ≤ 9223372036854775807) ∧ ((8 : Int) ≠ 0 ∧
    -9223372036854775808 ≤ (x2 - x1).tdiv 8 ∧ (x2 - x1).tdiv (8 : Int) ≤ 9223372036854775807) ∧ (x190 - x1 < x2 - x190 → ∀ (w267 : World), RowKit.Below w.heap.size w w267 → Kept []
    w266 w267 → Calls Tryz.prog 197 #[Value.slice dataa datan datac, Value.int IntKind.i64 x1, Value.int IntKind.i64 x190, Value.int IntKind.i64 x3, Value.func (Fn.func cmpf)
    cmpi.toArray cmpc.toArray] w267 fun (e102 : Ending) (w268 : World) => e102 = Ending.returned (Value.tuple #[]) ∧ KeepX true w.heap.size [] (fun _ => False) w267 w268 ∧
    (-9223372036854775808 ≤ x190 + 1 ∧ x190 + (1 : Int) ≤ 9223372036854775807) ∧ ∀ (w269 : World), RowKit.Below w.heap.size w w269 → Kept [] w268 w269 → F1 [Lf.int IntKind.i64
    (x190 + 1), Lf.int IntKind.i64 x2, Lf.int IntKind.i64 x3, Lf.bool (decide ((x2 - x1).tdiv 8 ≤ x190 - x1)), Lf.bool t28] w269 ∧ F2 [Lf.int IntKind.i64 (x190 + 1), Lf.int
    IntKind.i64 x2, Lf.int IntKind.i64 x3, Lf.bool (decide ((x2 - x1).tdiv 8 ≤ x190 - x1)), Lf.bool t28] < F2 [Lf.int IntKind.i64 x1, Lf.int IntKind.i64 x2, Lf.int IntKind.i64 x3,
    Lf.bool t1, Lf.bool t2]) ∧ (x2 - x190 ≤ x190 - x1 → (-9223372036854775808 ≤ x190 + 1 ∧ x190 + (1 : Int) ≤ 9223372036854775807) ∧ ∀ (w270 : World), RowKit.Below w.heap.size w
    w270 → Kept [] w266 w270 → Calls Tryz.prog 197 #[Value.slice dataa datan datac, Value.int IntKind.i64 (x190 + 1), Value.int IntKind.i64 x2, Value.int IntKind.i64 x3, Value.func
    (Fn.func cmpf) cmpi.toArray cmpc.toArray] w270 fun (e103 : Ending) (w271 : World) => e103 = Ending.returned (Value.tuple #[]) ∧ KeepX true w.heap.size [] (fun _ => False) w270
    w271 ∧ ∀ (w272 : World), RowKit.Below w.heap.size w w272 → Kept [] w271 w272 → F1 [Lf.int IntKind.i64 x1, Lf.int IntKind.i64 x190, Lf.int IntKind.i64 x3, Lf.bool (decide ((x2 -
    x1).tdiv 8 ≤ x2 - x190)), Lf.bool t28] w272 ∧ F2 [Lf.int IntKind.i64 x1, Lf.int IntKind.i64 x190, Lf.int IntKind.i64 x3, Lf.bool (decide ((x2 - x1).tdiv 8 ≤ x2 - x190)),
    Lf.bool t28] < F2 [Lf.int IntKind.i64 x1, Lf.int IntKind.i64 x2, Lf.int IntKind.i64 x3, Lf.bool t1, Lf.bool t2]))) ∧ (x1 ≤ 0 → ∀ (w273 : World), RowKit.Below w.heap.size w w273
    → Kept [] w193 w273 → Calls Tryz.prog 227 #[Value.slice dataa datan datac, Value.int IntKind.i64 x1, Value.int IntKind.i64 x2, Value.int IntKind.i64 (x2 - 1 - (x134 - x1)),
    Value.func (Fn.func cmpf) cmpi.toArray cmpc.toArray] w273 fun (e104 : Ending) (w274 : World) => ∃ (x195 : Int), ∃ (t29 : Bool), e104 = Ending.returned (Value.tuple #[Value.int
    IntKind.i64 x195, Value.bool t29]) ∧ KeepX true w.heap.size [] (fun _ => False) w273 w274 ∧ (-9223372036854775808 ≤ x195 - x1 ∧ x195 - x1 ≤ 9223372036854775807) ∧
    (-9223372036854775808 ≤ x2 - x195 ∧ x2 - x195 ≤ 9223372036854775807) ∧ ((8 : Int) ≠ 0 ∧ -9223372036854775808 ≤ (x2 - x1).tdiv 8 ∧ (x2 - x1).tdiv (8 : Int) ≤
    9223372036854775807) ∧ (x195 - x1 < x2 - x195 → ∀ (w275 : World), RowKit.Below w.heap.size w w275 → Kept [] w274 w275 → Calls Tryz.prog 197 #[Value.slice dataa datan datac,
    Value.int IntKind.i64 x1, Value.int IntKind.i64 x195, Value.int IntKind.i64 x3, Value.func (Fn.func cmpf) cmpi.toArray cmpc.toArray] w275 fun (e105 : Ending) (w276 : World) =>
    e105 = Ending.returned (Value.tuple #[]) ∧ KeepX true w.heap.size [] (fun _ => False) w275 w276 ∧ (-9223372036854775808 ≤ x195 + 1 ∧ x195 + (1 : Int) ≤ 9223372036854775807) ∧ ∀
    (w277 : World), RowKit.Below w.heap.size w w277 → Kept [] w276 w277 → F1 [Lf.int IntKind.i64 (x195 + 1), Lf.int IntKind.i64 x2, Lf.int IntKind.i64 x3, Lf.bool (decide ((x2 -
    x1).tdiv 8 ≤ x195 - x1)), Lf.bool t29] w277 ∧ F2 [Lf.int IntKind.i64 (x195 + 1), Lf.int IntKind.i64 x2, Lf.int IntKind.i64 x3, Lf.bool (decide ((x2 - x1).tdiv 8 ≤ x195 - x1)),
    Lf.bool t29] < F2 [Lf.int IntKind.i64 x1, Lf.int IntKind.i64 x2, Lf.int IntKind.i64 x3, Lf.bool t1, Lf.bool t2]) ∧ (x2 - x195 ≤ x195 - x1 → (-9223372036854775808 ≤ x195 + 1 ∧
    x195 + (1 : Int) ≤ 9223372036854775807) ∧ ∀ (w278 : World), RowKit.Below w.heap.size w w278 → Kept [] w274 w278 → Calls Tryz.prog 197 #[Value.slice dataa datan datac, Value.int
    IntKind.i64 (x195 + 1), Value.int IntKind.i64 x2, Value.int IntKind.i64 x3, Value.func (Fn.func cmpf) cmpi.toArray cmpc.toArray] w278 fun (e106 : Ending) (w279 : World) => e106
    = Ending.returned (Value.tuple #[]) ∧ KeepX true w.heap.size [] (fun _ => False) w278 w279 ∧ ∀ (w280 : World), RowKit.Below w.heap.size w w280 → Kept [] w279 w280 → F1 [Lf.int
    IntKind.i64 x1, Lf.int IntKind.i64 x195, Lf.int IntKind.i64 x3, Lf.bool (decide ((x2 - x1).tdiv 8 ≤ x2 - x195)), Lf.bool t29] w280 ∧ F2 [Lf.int IntKind.i64 x1, Lf.int
    IntKind.i64 x195, Lf.int IntKind.i64 x3, Lf.bool (decide ((x2 - x1).tdiv 8 ≤ x2 - x195)), Lf.bool t29] < F2 [Lf.int IntKind.i64 x1, Lf.int IntKind.i64 x2, Lf.int IntKind.i64
    x3, Lf.bool t1, Lf.bool t2])))) ∧ (x135 ≠ 2 → (t1 = true → (t2 = true → (x135 = 1 → ∀ (w281 : World), RowKit.Below w.heap.size w w281 → Kept [] w191 w281 → Calls Tryz.prog 225
    #[Value.slice dataa datan datac, Value.int IntKind.i64 x1, Value.int IntKind.i64 x2, Value.func (Fn.func cmpf) cmpi.toArray cmpc.toArray] w281 fun (e107 : Ending) (w282 :
    World) => ∃ (t30 : Bool), e107 = Ending.returned (Value.bool t30) ∧ KeepX true w.heap.size [] (fun _ => False) w281 w282 ∧ (t30 = true → ∀ (w283 : World), RowKit.Below
    w.heap.size w w283 → Kept [] w282 w283 → R (Ending.returned (Value.tuple #[])) w283) ∧ (t30 = false → (0 < x1 → (-9223372036854775808 ≤ x1 - 1 ∧ x1 - (1 : Int) ≤
    9223372036854775807) ∧ ∃ (m348 : Nat), ∃ (m349 : Nat), dataa = some { block := m348, off := m349 } ∧ (0 ≤ x1 - 1 ∧ x1 - 1 < (↑datan : Int)) ∧ ∃ (x200 : Int), ∃ (x201 : Int),
    w282.cell? { block := m348, off := m349 + (x1 - 1).toNat * 2 } = some (Value.int IntKind.i64 x200) ∧ w282.cell? { block := m348, off := m349 + (x1 - 1).toNat * 2 + 1 } = some
    (Value.int IntKind.i64 x201) ∧ ∃ (m350 : Nat), ∃ (m351 : Nat), dataa = some { block := m350, off := m351 } ∧ (0 ≤ x134 ∧ x134 < (↑datan : Int)) ∧ ∃ (x202 : Int), ∃ (x203 :
    Int), w282.cell? { block := m350, off := m351 + x134.toNat * 2 } = some (Value.int IntKind.i64 x202) ∧ w282.cell? { block := m350, off := m351 + x134.toNat * 2 + 1 } = some
    (Value.int IntKind.i64 x203) ∧ Callable Tryz.prog cmpf ∧ ∀ (w284 : World), RowKit.Below w.heap.size w w284 → KeptIn [(0, w282.heap.size)] [] w282 w284 → Calls Tryz.prog cmpf
    (cmpi ++ [Value.agg #[Value.int IntKind.i64 x200, Value.int IntKind.i64 x201], Value.agg #[Value.int IntKind.i64 x202, Value.int IntKind.i64 x203]] ++ cmpc).toArray w284 fun
    (e108 : Ending) (w285 : World) => ∃ (x204 : Int), e108 = Ending.returned (Value.int IntKind.i64 x204) ∧ KeepX true w.heap.size [] (fun _ => False) w284 w285 ∧ (0 ≤ x204 → ∀
    (w286 : World), RowKit.Below w.heap.size w w286 → Kept [] w285 w286 → Calls Tryz.prog 226 #[Value.slice dataa datan datac, Value.int IntKind.i64 x1, Value.int IntKind.i64 x2,
    Value.int IntKind.i64 x134, Value.func (Fn.func cmpf) cmpi.toArray cmpc.toArray] w286 fun (e109 : Ending) (w287 : World) => ∃ (x205 : Int), e109 = Ending.returned (Value.int
    IntKind.i64 x205) ∧ KeepX true w.heap.size [] (fun _ => False) w286 w287 ∧ ∀ (w288 : World), RowKit.Below w.heap.size w w288 → Kept [] w287 w288 → F1 [Lf.int IntKind.i64 x205,
    Lf.int IntKind.i64 x2, Lf.int IntKind.i64 x3, Lf.bool t1, Lf.bool t2] w288 ∧ F2 [Lf.int IntKind.i64 x205, Lf.int IntKind.i64 x2, Lf.int IntKind.i64 x3, Lf.bool t1, Lf.bool t2]
    < F2 [Lf.int IntKind.i64 x1, Lf.int IntKind.i64 x2, Lf.int IntKind.i64 x3, Lf.bool t1, Lf.bool t2]) ∧ (x204 < 0 → ∀ (w289 : World), RowKit.Below w.heap.size w w289 → Kept []
    w285 w289 → Calls Tryz.prog 227 #[Value.slice dataa datan datac, Value.int IntKind.i64 x1, Value.int IntKind.i64 x2, Value.int IntKind.i64 x134, Value.func (Fn.func cmpf)
    cmpi.toArray cmpc.toArray] w289 fun (e110 : Ending) (w290 : World) => ∃ (x206 : Int), ∃ (t31 : Bool), e110 = Ending.returned (Value.tuple #[Value.int IntKind.i64 x206,
    Value.bool t31]) ∧ KeepX true w.heap.size [] (fun _ => False) w289 w290 ∧ (-9223372036854775808 ≤ x206 - x1 ∧ x206 - x1 ≤ 9223372036854775807) ∧ (-9223372036854775808 ≤ x2 -
    x206 ∧ x2 - x206 ≤ 9223372036854775807) ∧ ((8 : Int) ≠ 0 ∧ -9223372036854775808 ≤ (x2 - x1).tdiv 8 ∧ (x2 - x1).tdiv (8 : Int) ≤ 9223372036854775807) ∧ (x206 - x1 < x2 - x206 →
    ∀ (w291 : World), RowKit.Below w.heap.size w w291 → Kept [] w290 w291 → Calls Tryz.prog 197 #[Value.slice dataa datan datac, Value.int IntKind.i64 x1, Value.int IntKind.i64
    x206, Value.int IntKind.i64 x3, Value.func (Fn.func cmpf) cmpi.toArray cmpc.toArray] w291 fun (e111 : Ending) (w292 : World) => e111 = Ending.returned (Value.tuple #[]) ∧ KeepX
    true w.heap.size [] (fun _ => False) w291 w292 ∧ (-9223372036854775808 ≤ x206 + 1 ∧ x206 + (1 : Int) ≤ 9223372036854775807) ∧ ∀ (w293 : World), RowKit.Below w.heap.size w w293
    → Kept [] w292 w293 → F1 [Lf.int IntKind.i64 (x206 + 1), Lf.int IntKind.i64 x2, Lf.int IntKind.i64 x3, Lf.bool (decide ((x2 - x1).tdiv 8 ≤ x206 - x1)), Lf.bool t31] w293 ∧ F2
    [Lf.int IntKind.i64 (x206 + 1), Lf.int IntKind.i64 x2, Lf.int IntKind.i64 x3, Lf.bool (decide ((x2 - x1).tdiv 8 ≤ x206 - x1)), Lf.bool t31] < F2 [Lf.int IntKind.i64 x1, Lf.int
    IntKind.i64 x2, Lf.int IntKind.i64 x3, Lf.bool t1, Lf.bool t2]) ∧ (x2 - x206 ≤ x206 - x1 → (-9223372036854775808 ≤ x206 + 1 ∧ x206 + (1 : Int) ≤ 9223372036854775807) ∧ ∀ (w294
    : World), RowKit.Below w.heap.size w w294 → Kept [] w290 w294 → Calls Tryz.prog 197 #[Value.slice dataa datan datac, Value.int IntKind.i64 (x206 + 1), Value.int IntKind.i64 x2,
    Value.int IntKind.i64 x3, Value.func (Fn.func cmpf) cmpi.toArray cmpc.toArray] w294 fun (e112 : Ending) (w295 : World) => e112 = Ending.returned (Value.tuple #[]) ∧ KeepX true
    w.heap.size [] (fun _ => False) w294 w295 ∧ ∀ (w296 : World), RowKit.Below w.heap.size w w296 → Kept [] w295 w296 → F1 [Lf.int IntKind.i64 x1, Lf.int IntKind.i64 x206, Lf.int
    IntKind.i64 x3, Lf.bool (decide ((x2 - x1).tdiv 8 ≤ x2 - x206)), Lf.bool t31] w296 ∧ F2 [Lf.int IntKind.i64 x1, Lf.int IntKind.i64 x206, Lf.int IntKind.i64 x3, Lf.bool (decide
    ((x2 - x1).tdiv 8 ≤ x2 - x206)), Lf.bool t31] < F2 [Lf.int IntKind.i64 x1, Lf.int IntKind.i64 x2, Lf.int IntKind.i64 x3, Lf.bool t1, Lf.bool t2]))) ∧ (x1 ≤ 0 → ∀ (w297 :
    World), RowKit.Below w.heap.size w w297 → Kept [] w282 w297 → Calls Tryz.prog 227 #[Value.slice dataa datan datac, Value.int IntKind.i64 x1, Value.int IntKind.i64 x2, Value.int
    IntKind.i64 x134, Value.func (Fn.func cmpf) cmpi.toArray cmpc.toArray] w297 fun (e113 : Ending) (w298 : World) => ∃ (x211 : Int), ∃ (t32 : Bool), e113 = Ending.returned
    (Value.tuple #[Value.int IntKind.i64 x211, Value.bool t32]) ∧ KeepX true w.heap.size [] (fun _ => False) w297 w298 ∧ (-9223372036854775808 ≤ x211 - x1 ∧ x211 - x1 ≤
    9223372036854775807) ∧ (-9223372036854775808 ≤ x2 - x211 ∧ x2 - x211 ≤ 9223372036854775807) ∧ ((8 : Int) ≠ 0 ∧ -9223372036854775808 ≤ (x2 - x1).tdiv 8 ∧ (x2 - x1).tdiv (8 :
    Int) ≤ 9223372036854775807) ∧ (x211 - x1 < x2 - x211 → ∀ (w299 : World), RowKit.Below w.heap.size w w299 → Kept [] w298 w299 → Calls Tryz.prog 197 #[Value.slice dataa datan
    datac, Value.int IntKind.i64 x1, Value.int IntKind.i64 x211, Value.int IntKind.i64 x3, Value.func (Fn.func cmpf) cmpi.toArray cmpc.toArray] w299 fun (e114 : Ending) (w300 :
    World) => e114 = Ending.returned (Value.tuple #[]) ∧ KeepX true w.heap.size [] (fun _ => False) w299 w300 ∧ (-9223372036854775808 ≤ x211 + 1 ∧ x211 + (1 : Int) ≤
    9223372036854775807) ∧ ∀ (w301 : World), RowKit.Below w.heap.size w w301 → Kept [] w300 w301 → F1 [Lf.int IntKind.i64 (x211 + 1), Lf.int IntKind.i64 x2, Lf.int IntKind.i64 x3,
    Lf.bool (decide ((x2 - x1).tdiv 8 ≤ x211 - x1)), Lf.bool t32] w301 ∧ F2 [Lf.int IntKind.i64 (x211 + 1), Lf.int IntKind.i64 x2, Lf.int IntKind.i64 x3, Lf.bool (decide ((x2 -
    x1).tdiv 8 ≤ x211 - x1)), Lf.bool t32] < F2 [Lf.int IntKind.i64 x1, Lf.int IntKind.i64 x2, Lf.int IntKind.i64 x3, Lf.bool t1, Lf.bool t2]) ∧ (x2 - x211 ≤ x211 - x1 →
    (-9223372036854775808 ≤ x211 + 1 ∧ x211 + (1 : Int) ≤ 9223372036854775807) ∧ ∀ (w302 : World), RowKit.Below w.heap.size w w302 → Kept [] w298 w302 → Calls Tryz.prog 197
    #[Value.slice dataa datan datac, Value.int IntKind.i64 (x211 + 1), Value.int IntKind.i64 x2, Value.int IntKind.i64 x3, Value.func (Fn.func cmpf) cmpi.toArray cmpc.toArray] w302
    fun (e115 : Ending) (w303 : World) => e115 = Ending.returned (Value.tuple #[]) ∧ KeepX true w.heap.size [] (fun _ => False) w302 w303 ∧ ∀ (w304 : World), RowKit.Below
    w.heap.size w w304 → Kept [] w303 w304 → F1 [Lf.int IntKind.i64 x1, Lf.int IntKind.i64 x211, Lf.int IntKind.i64 x3, Lf.bool (decide ((x2 - x1).tdiv 8 ≤ x2 - x211)), Lf.bool
    t32] w304 ∧ F2 [Lf.int IntKind.i64 x1, Lf.int IntKind.i64 x211, Lf.int IntKind.i64 x3, Lf.bool (decide ((x2 - x1).tdiv 8 ≤ x2 - x211)), Lf.bool t32] < F2 [Lf.int IntKind.i64
    x1, Lf.int IntKind.i64 x2, Lf.int IntKind.i64 x3, Lf.bool t1, Lf.bool t2])))) ∧ (x135 ≠ 1 → (0 < x1 → (-9223372036854775808 ≤ x1 - 1 ∧ x1 - (1 : Int) ≤ 9223372036854775807) ∧ ∃
    (m376 : Nat), ∃ (m377 : Nat), dataa = some { block := m376, off := m377 } ∧ (0 ≤ x1 - 1 ∧ x1 - 1 < (↑datan : Int)) ∧ ∃ (x216 : Int), ∃ (x217 : Int), w191.cell?
    { block := m376, off := m377 + (x1 - 1).toNat * 2 } = some (Value.int IntKind.i64 x216) ∧ w191.cell? { block := m376, off := m377 + (x1 - 1).toNat * 2 + 1 } = some (Value.int
    IntKind.i64 x217) ∧ ∃ (m378 : Nat), ∃ (m379 : Nat), dataa = some { block := m378, off := m379 } ∧ (0 ≤ x134 ∧ x134 < (↑datan : Int)) ∧ ∃ (x218 : Int), ∃ (x219 : Int),
    w191.cell? { block := m378, off := m379 + x134.toNat * 2 } = some (Value.int IntKind.i64 x218) ∧ w191.cell? { block := m378, off := m379 + x134.toNat * 2 + 1 } = some
    (Value.int IntKind.i64 x219) ∧ Callable Tryz.prog cmpf ∧ ∀ (w305 : World), RowKit.Below w.heap.size w w305 → KeptIn [(0, w191.heap.size)] [] w191 w305 → Calls Tryz.prog cmpf
    (cmpi ++ [Value.agg #[Value.int IntKind.i64 x216, Value.int IntKind.i64 x217], Value.agg #[Value.int IntKind.i64 x218, Value.int IntKind.i64 x219]] ++ cmpc).toArray w305 fun
    (e116 : Ending) (w306 : World) => ∃ (x220 : Int), e116 = Ending.returned (Value.int IntKind.i64 x220) ∧ KeepX true w.heap.size [] (fun _ => False) w305 w306 ∧ (0 ≤ x220 → ∀
    (w307 : World), RowKit.Below w.heap.size w w307 → Kept [] w306 w307 → Calls Tryz.prog 226 #[Value.slice dataa datan datac, Value.int IntKind.i64 x1, Value.int IntKind.i64 x2,
    Value.int IntKind.i64 x134, Value.func (Fn.func cmpf) cmpi.toArray cmpc.toArray] w307 fun (e117 : Ending) (w308 : World) => ∃ (x221 : Int), e117 = Ending.returned (Value.int
    IntKind.i64 x221) ∧ KeepX true w.heap.size [] (fun _ => False) w307 w308 ∧ ∀ (w309 : World), RowKit.Below w.heap.size w w309 → Kept [] w308 w309 → F1 [Lf.int IntKind.i64 x221,
    Lf.int IntKind.i64 x2, Lf.int IntKind.i64 x3, Lf.bool t1, Lf.bool t2] w309 ∧ F2 [Lf.int IntKind.i64 x221, Lf.int IntKind.i64 x2, Lf.int IntKind.i64 x3, Lf.bool t1, Lf.bool t2]
    < F2 [Lf.int IntKind.i64 x1, Lf.int IntKind.i64 x2, Lf.int IntKind.i64 x3, Lf.bool t1, Lf.bool t2]) ∧ (x220 < 0 → ∀ (w310 : World), RowKit.Below w.heap.size w w310 → Kept []
    w306 w310 → Calls Tryz.prog 227 #[Value.slice dataa datan datac, Value.int IntKind.i64 x1, Value.int IntKind.i64 x2, Value.int IntKind.i64 x134, Value.func (Fn.func cmpf)
    cmpi.toArray cmpc.toArray] w310 fun (e118 : Ending) (w311 : World) => ∃ (x222 : Int), ∃ (t33 : Bool), e118 = Ending.returned (Value.tuple #[Value.int IntKind.i64 x222,
    Value.bool t33]) ∧ KeepX true w.heap.size [] (fun _ => False) w310 w311 ∧ (-9223372036854775808 ≤ x222 - x1 ∧ x222 - x1 ≤ 9223372036854775807) ∧ (-9223372036854775808 ≤ x2 -
    x222 ∧ x2 - x222 ≤ 9223372036854775807) ∧ ((8 : Int) ≠ 0 ∧ -9223372036854775808 ≤ (x2 - x1).tdiv 8 ∧ (x2 - x1).tdiv (8 : Int) ≤ 9223372036854775807) ∧ (x222 - x1 < x2 - x222 →
    ∀ (w312 : World), RowKit.Below w.heap.size w w312 → Kept [] w311 w312 → Calls Tryz.prog 197 #[Value.slice dataa datan datac, Value.int IntKind.i64 x1, Value.int IntKind.i64
    x222, Value.int IntKind.i64 x3, Value.func (Fn.func cmpf) cmpi.toArray cmpc.toArray] w312 fun (e119 : Ending) (w313 : World) => e119 = Ending.returned (Value.tuple #[]) ∧ KeepX
    true w.heap.size [] (fun _ => False) w312 w313 ∧ (-9223372036854775808 ≤ x222 + 1 ∧ x222 + (1 : Int) ≤ 9223372036854775807) ∧ ∀ (w314 : World), RowKit.Below w.heap.size w w314
    → Kept [] w313 w314 → F1 [Lf.int IntKind.i64 (x222 + 1), Lf.int IntKind.i64 x2, Lf.int IntKind.i64 x3, Lf.bool (decide ((x2 - x1).tdiv 8 ≤ x222 - x1)), Lf.bool t33] w314 ∧ F2
    [Lf.int IntKind.i64 (x222 + 1), Lf.int IntKind.i64 x2, Lf.int IntKind.i64 x3, Lf.bool (decide ((x2 - x1).tdiv 8 ≤ x222 - x1)), Lf.bool t33] < F2 [Lf.int IntKind.i64 x1, Lf.int
    IntKind.i64 x2, Lf.int IntKind.i64 x3, Lf.bool t1, Lf.bool t2]) ∧ (x2 - x222 ≤ x222 - x1 → (-9223372036854775808 ≤ x222 + 1 ∧ x222 + (1 : Int) ≤ 9223372036854775807) ∧ ∀ (w315
    : World), RowKit.Below w.heap.size w w315 → Kept [] w311 w315 → Calls Tryz.prog 197 #[Value.slice dataa datan datac, Value.int IntKind.i64 (x222 + 1), Value.int IntKind.i64 x2,
    Value.int IntKind.i64 x3, Value.func (Fn.func cmpf) cmpi.toArray cmpc.toArray] w315 fun (e120 : Ending) (w316 : World) => e120 = Ending.returned (Value.tuple #[]) ∧ KeepX true
    w.heap.size [] (fun _ => False) w315 w316 ∧ ∀ (w317 : World), RowKit.Below w.heap.size w w317 → Kept [] w316 w317 → F1 [Lf.int IntKind.i64 x1, Lf.int IntKind.i64 x222, Lf.int
    IntKind.i64 x3, Lf.bool (decide ((x2 - x1).tdiv 8 ≤ x2 - x222)), Lf.bool t33] w317 ∧ F2 [Lf.int IntKind.i64 x1, Lf.int IntKind.i64 x222, Lf.int IntKind.i64 x3, Lf.bool (decide
    ((x2 - x1).tdiv 8 ≤ x2 - x222)), Lf.bool t33] < F2 [Lf.int IntKind.i64 x1, Lf.int IntKind.i64 x2, Lf.int IntKind.i64 x3, Lf.bool t1, Lf.bool t2]))) ∧ (x1 ≤ 0 → ∀ (w318 :
    World), RowKit.Below w.heap.size w w318 → Kept [] w191 w318 → Calls Tryz.prog 227 #[Value.slice dataa datan datac, Value.int IntKind.i64 x1, Value.int IntKind.i64 x2, Value.int
    IntKind.i64 x134, Value.func (Fn.func cmpf) cmpi.toArray cmpc.toArray] w318 fun (e121 : Ending) (w319 : World) => ∃ (x227 : Int), ∃ (t34 : Bool), e121 = Ending.returned
    (Value.tuple #[Value.int IntKind.i64 x227, Value.bool t34]) ∧ KeepX true w.heap.size [] (fun _ => False) w318 w319 ∧ (-9223372036854775808 ≤ x227 - x1 ∧ x227 - x1 ≤
    9223372036854775807) ∧ (-9223372036854775808 ≤ x2 - x227 ∧ x2 - x227 ≤ 9223372036854775807) ∧ ((8 : Int) ≠ 0 ∧ -9223372036854775808 ≤ (x2 - x1).tdiv 8 ∧ (x2 - x1).tdiv (8 :
    Int) ≤ 9223372036854775807) ∧ (x227 - x1 < x2 - x227 → ∀ (w320 : World), RowKit.Below w.heap.size w w320 → Kept [] w319 w320 → Calls Tryz.prog 197 #[Value.slice dataa datan
    datac, Value.int IntKind.i64 x1, Value.int IntKind.i64 x227, Value.int IntKind.i64 x3, Value.func (Fn.func cmpf) cmpi.toArray cmpc.toArray] w320 fun (e122 : Ending) (w321 :
    World) => e122 = Ending.returned (Value.tuple #[]) ∧ KeepX true w.heap.size [] (fun _ => False) w320 w321 ∧ (-9223372036854775808 ≤ x227 + 1 ∧ x227 + (1 : Int) ≤
    9223372036854775807) ∧ ∀ (w322 : World), RowKit.Below w.heap.size w w322 → Kept [] w321 w322 → F1 [Lf.int IntKind.i64 (x227 + 1), Lf.int IntKind.i64 x2, Lf.int IntKind.i64 x3,
    Lf.bool (decide ((x2 - x1).tdiv 8 ≤ x227 - x1)), Lf.bool t34] w322 ∧ F2 [Lf.int IntKind.i64 (x227 + 1), Lf.int IntKind.i64 x2, Lf.int IntKind.i64 x3, Lf.bool (decide ((x2 -
    x1).tdiv 8 ≤ x227 - x1)), Lf.bool t34] < F2 [Lf.int IntKind.i64 x1, Lf.int IntKind.i64 x2, Lf.int IntKind.i64 x3, Lf.bool t1, Lf.bool t2]) ∧ (x2 - x227 ≤ x227 - x1 →
    (-9223372036854775808 ≤ x227 + 1 ∧ x227 + (1 : Int) ≤ 9223372036854775807) ∧ ∀ (w323 : World), RowKit.Below w.heap.size w w323 → Kept [] w319 w323 → Calls Tryz.prog 197
    #[Value.slice dataa datan datac, Value.int IntKind.i64 (x227 + 1), Value.int IntKind.i64 x2, Value.int IntKind.i64 x3, Value.func (Fn.func cmpf) cmpi.toArray cmpc.toArray] w323
    fun (e123 : Ending) (w324 : World) => e123 = Ending.returned (Value.tuple #[]) ∧ KeepX true w.heap.size [] (fun _ => False) w323 w324 ∧ ∀ (w325 : World), RowKit.Below
    w.heap.size w w325 → Kept [] w324 w325 → F1 [Lf.int IntKind.i64 x1, Lf.int IntKind.i64 x227, Lf.int IntKind.i64 x3, Lf.bool (decide ((x2 - x1).tdiv 8 ≤ x2 - x227)), Lf.bool
    t34] w325 ∧ F2 [Lf.int IntKind.i64 x1, Lf.int IntKind.i64 x227, Lf.int IntKind.i64 x3, Lf.bool (decide ((x2 - x1).tdiv 8 ≤ x2 - x227)), Lf.bool t34] < F2 [Lf.int IntKind.i64
    x1, Lf.int IntKind.i64 x2, Lf.int IntKind.i64 x3, Lf.bool t1, Lf.bool t2])))) ∧ (t2 = false → (0 < x1 → (-9223372036854775808 ≤ x1 - 1 ∧ x1 - (1 : Int) ≤ 9223372036854775807) ∧
    ∃ (m404 : Nat), ∃ (m405 : Nat), dataa = some { block := m404, off := m405 } ∧ (0 ≤ x1 - 1 ∧ x1 - 1 < (↑datan : Int)) ∧ ∃ (x232 : Int), ∃ (x233 : Int), w191.cell?
    { block := m404, off := m405 + (x1 - 1).toNat * 2 } = some (Value.int IntKind.i64 x232) ∧ w191.cell? { block := m404, off := m405 + (x1 - 1).toNat * 2 + 1 } = some (Value.int
    IntKind.i64 x233) ∧ ∃ (m406 : Nat), ∃ (m407 : Nat), dataa = some { block := m406, off := m407 } ∧ (0 ≤ x134 ∧ x134 < (↑datan : Int)) ∧ ∃ (x234 : Int), ∃ (x235 : Int),
    w191.cell? { block := m406, off := m407 + x134.toNat * 2 } = some (Value.int IntKind.i64 x234) ∧ w191.cell? { block := m406, off := m407 + x134.toNat * 2 + 1 } = some
    (Value.int IntKind.i64 x235) ∧ Callable Tryz.prog cmpf ∧ ∀ (w326 : World), RowKit.Below w.heap.size w w326 → KeptIn [(0, w191.heap.size)] [] w191 w326 → Calls Tryz.prog cmpf
    (cmpi ++ [Value.agg #[Value.int IntKind.i64 x232, Value.int IntKind.i64 x233], Value.agg #[Value.int IntKind.i64 x234, Value.int IntKind.i64 x235]] ++ cmpc).toArray w326 fun
    (e124 : Ending) (w327 : World) => ∃ (x236 : Int), e124 = Ending.returned (Value.int IntKind.i64 x236) ∧ KeepX true w.heap.size [] (fun _ => False) w326 w327 ∧ (0 ≤ x236 → ∀
    (w328 : World), RowKit.Below w.heap.size w w328 → Kept [] w327 w328 → Calls Tryz.prog 226 #[Value.slice dataa datan datac, Value.int IntKind.i64 x1, Value.int IntKind.i64 x2,
    Value.int IntKind.i64 x134, Value.func (Fn.func cmpf) cmpi.toArray cmpc.toArray] w328 fun (e125 : Ending) (w329 : World) => ∃ (x237 : Int), e125 = Ending.returned (Value.int
    IntKind.i64 x237) ∧ KeepX true w.heap.size [] (fun _ => False) w328 w329 ∧ ∀ (w330 : World), RowKit.Below w.heap.size w w330 → Kept [] w329 w330 → F1 [Lf.int IntKind.i64 x237,
    Lf.int IntKind.i64 x2, Lf.int IntKind.i64 x3, Lf.bool t1, Lf.bool t2] w330 ∧ F2 [Lf.int IntKind.i64 x237, Lf.int IntKind.i64 x2, Lf.int IntKind.i64 x3, Lf.bool t1, Lf.bool t2]
    < F2 [Lf.int IntKind.i64 x1, Lf.int IntKind.i64 x2, Lf.int IntKind.i64 x3, Lf.bool t1, Lf.bool t2]) ∧ (x236 < 0 → ∀ (w331 : World), RowKit.Below w.heap.size w w331 → Kept []
    w327 w331 → Calls Tryz.prog 227 #[Value.slice dataa datan datac, Value.int IntKind.i64 x1, Value.int IntKind.i64 x2, Value.int IntKind.i64 x134, Value.func (Fn.func cmpf)
    cmpi.toArray cmpc.toArray] w331 fun (e126 : Ending) (w332 : World) => ∃ (x238 : Int), ∃ (t35 : Bool), e126 = Ending.returned (Value.tuple #[Value.int IntKind.i64 x238,
    Value.bool t35]) ∧ KeepX true w.heap.size [] (fun _ => False) w331 w332 ∧ (-9223372036854775808 ≤ x238 - x1 ∧ x238 - x1 ≤ 9223372036854775807) ∧ (-9223372036854775808 ≤ x2 -
    x238 ∧ x2 - x238 ≤ 9223372036854775807) ∧ ((8 : Int) ≠ 0 ∧ -9223372036854775808 ≤ (x2 - x1).tdiv 8 ∧ (x2 - x1).tdiv (8 : Int) ≤ 9223372036854775807) ∧ (x238 - x1 < x2 - x238 →
    ∀ (w333 : World), RowKit.Below w.heap.size w w333 → Kept [] w332 w333 → Calls Tryz.prog 197 #[Value.slice dataa datan datac, Value.int IntKind.i64 x1, Value.int IntKind.i64
    x238, Value.int IntKind.i64 x3, Value.func (Fn.func cmpf) cmpi.toArray cmpc.toArray] w333 fun (e127 : Ending) (w334 : World) => e127 = Ending.returned (Value.tuple #[]) ∧ KeepX
    true w.heap.size [] (fun _ => False) w333 w334 ∧ (-9223372036854775808 ≤ x238 + 1 ∧ x238 + (1 : Int) ≤ 9223372036854775807) ∧ ∀ (w335 : World), RowKit.Below w.heap.size w w335
    → Kept [] w334 w335 → F1 [Lf.int IntKind.i64 (x238 + 1), Lf.int IntKind.i64 x2, Lf.int IntKind.i64 x3, Lf.bool (decide ((x2 - x1).tdiv 8 ≤ x238 - x1)), Lf.bool t35] w335 ∧ F2
    [Lf.int IntKind.i64 (x238 + 1), Lf.int IntKind.i64 x2, Lf.int IntKind.i64 x3, Lf.bool (decide ((x2 - x1).tdiv 8 ≤ x238 - x1)), Lf.bool t35] < F2 [Lf.int IntKind.i64 x1, Lf.int
    IntKind.i64 x2, Lf.int IntKind.i64 x3, Lf.bool t1, Lf.bool t2]) ∧ (x2 - x238 ≤ x238 - x1 → (-9223372036854775808 ≤ x238 + 1 ∧ x238 + (1 : Int) ≤ 9223372036854775807) ∧ ∀ (w336
    : World), RowKit.Below w.heap.size w w336 → Kept [] w332 w336 → Calls Tryz.prog 197 #[Value.slice dataa datan datac, Value.int IntKind.i64 (x238 + 1), Value.int IntKind.i64 x2,
    Value.int IntKind.i64 x3, Value.func (Fn.func cmpf) cmpi.toArray cmpc.toArray] w336 fun (e128 : Ending) (w337 : World) => e128 = Ending.returned (Value.tuple #[]) ∧ KeepX true
    w.heap.size [] (fun _ => False) w336 w337 ∧ ∀ (w338 : World), RowKit.Below w.heap.size w w338 → Kept [] w337 w338 → F1 [Lf.int IntKind.i64 x1, Lf.int IntKind.i64 x238, Lf.int
    IntKind.i64 x3, Lf.bool (decide ((x2 - x1).tdiv 8 ≤ x2 - x238)), Lf.bool t35] w338 ∧ F2 [Lf.int IntKind.i64 x1, Lf.int IntKind.i64 x238, Lf.int IntKind.i64 x3, Lf.bool (decide
    ((x2 - x1).tdiv 8 ≤ x2 - x238)), Lf.bool t35] < F2 [Lf.int IntKind.i64 x1, Lf.int IntKind.i64 x2, Lf.int IntKind.i64 x3, Lf.bool t1, Lf.bool t2]))) ∧ (x1 ≤ 0 → ∀ (w339 :
    World), RowKit.Below w.heap.size w w339 → Kept [] w191 w339 → Calls Tryz.prog 227 #[Value.slice dataa datan datac, Value.int IntKind.i64 x1, Value.int IntKind.i64 x2, Value.int
    IntKind.i64 x134, Value.func (Fn.func cmpf) cmpi.toArray cmpc.toArray] w339 fun (e129 : Ending) (w340 : World) => ∃ (x243 : Int), ∃ (t36 : Bool), e129 = Ending.returned
    (Value.tuple #[Value.int IntKind.i64 x243, Value.bool t36]) ∧ KeepX true w.heap.size [] (fun _ => False) w339 w340 ∧ (-9223372036854775808 ≤ x243 - x1 ∧ x243 - x1 ≤
    9223372036854775807) ∧ (-9223372036854775808 ≤ x2 - x243 ∧ x2 - x243 ≤ 9223372036854775807) ∧ ((8 : Int) ≠ 0 ∧ -9223372036854775808 ≤ (x2 - x1).tdiv 8 ∧ (x2 - x1).tdiv (8 :
    Int) ≤ 9223372036854775807) ∧ (x243 - x1 < x2 - x243 → ∀ (w341 : World), RowKit.Below w.heap.size w w341 → Kept [] w340 w341 → Calls Tryz.prog 197 #[Value.slice dataa datan
    datac, Value.int IntKind.i64 x1, Value.int IntKind.i64 x243, Value.int IntKind.i64 x3, Value.func (Fn.func cmpf) cmpi.toArray cmpc.toArray] w341 fun (e130 : Ending) (w342 :
    World) => e130 = Ending.returned (Value.tuple #[]) ∧ KeepX true w.heap.size [] (fun _ => False) w341 w342 ∧ (-9223372036854775808 ≤ x243 + 1 ∧ x243 + (1 : Int) ≤
    9223372036854775807) ∧ ∀ (w343 : World), RowKit.Below w.heap.size w w343 → Kept [] w342 w343 → F1 [Lf.int IntKind.i64 (x243 + 1), Lf.int IntKind.i64 x2, Lf.int IntKind.i64 x3,
    Lf.bool (decide ((x2 - x1).tdiv 8 ≤ x243 - x1)), Lf.bool t36] w343 ∧ F2 [Lf.int IntKind.i64 (x243 + 1), Lf.int IntKind.i64 x2, Lf.int IntKind.i64 x3, Lf.bool (decide ((x2 -
    x1).tdiv 8 ≤ x243 - x1)), Lf.bool t36] < F2 [Lf.int IntKind.i64 x1, Lf.int IntKind.i64 x2, Lf.int IntKind.i64 x3, Lf.bool t1, Lf.bool t2]) ∧ (x2 - x243 ≤ x243 - x1 →
    (-9223372036854775808 ≤ x243 + 1 ∧ x243 + (1 : Int) ≤ 9223372036854775807) ∧ ∀ (w344 : World), RowKit.Below w.heap.size w w344 → Kept [] w340 w344 → Calls Tryz.prog 197
    #[Value.slice dataa datan datac, Value.int IntKind.i64 (x243 + 1), Value.int IntKind.i64 x2, Value.int IntKind.i64 x3, Value.func (Fn.func cmpf) cmpi.toArray cmpc.toArray] w344
    fun (e131 : Ending) (w345 : World) => e131 = Ending.returned (Value.tuple #[]) ∧ KeepX true w.heap.size [] (fun _ => False) w344 w345 ∧ ∀ (w346 : World), RowKit.Below
    w.heap.size w w346 → Kept [] w345 w346 → F1 [Lf.int IntKind.i64 x1, Lf.int IntKind.i64 x243, Lf.int IntKind.i64 x3, Lf.bool (decide ((x2 - x1).tdiv 8 ≤ x2 - x243)), Lf.bool
    t36] w346 ∧ F2 [Lf.int IntKind.i64 x1, Lf.int IntKind.i64 x243, Lf.int IntKind.i64 x3, Lf.bool (decide ((x2 - x1).tdiv 8 ≤ x2 - x243)), Lf.bool t36] < F2 [Lf.int IntKind.i64
    x1, Lf.int IntKind.i64 x2, Lf.int IntKind.i64 x3, Lf.bool t1, Lf.bool t2])))) ∧ (t1 = false → (0 < x1 → (-9223372036854775808 ≤ x1 - 1 ∧ x1 - (1 : Int) ≤ 9223372036854775807) ∧
    ∃ (m432 : Nat), ∃ (m433 : Nat), dataa = some { block := m432, off := m433 } ∧ (0 ≤ x1 - 1 ∧ x1 - 1 < (↑datan : Int)) ∧ ∃ (x248 : Int), ∃ (x249 : Int), w191.cell?
    { block := m432, off := m433 + (x1 - 1).toNat * 2 } = some (Value.int IntKind.i64 x248) ∧ w191.cell? { block := m432, off := m433 + (x1 - 1).toNat * 2 + 1 } = some (Value.int
    IntKind.i64 x249) ∧ ∃ (m434 : Nat), ∃ (m435 : Nat), dataa = some { block := m434, off := m435 } ∧ (0 ≤ x134 ∧ x134 < (↑datan : Int)) ∧ ∃ (x250 : Int), ∃ (x251 : Int),
    w191.cell? { block := m434, off := m435 + x134.toNat * 2 } = some (Value.int IntKind.i64 x250) ∧ w191.cell? { block := m434, off := m435 + x134.toNat * 2 + 1 } = some
    (Value.int IntKind.i64 x251) ∧ Callable Tryz.prog cmpf ∧ ∀ (w347 : World), RowKit.Below w.heap.size w w347 → KeptIn [(0, w191.heap.size)] [] w191 w347 → Calls Tryz.prog cmpf
    (cmpi ++ [Value.agg #[Value.int IntKind.i64 x248, Value.int IntKind.i64 x249], Value.agg #[Value.int IntKind.i64 x250, Value.int IntKind.i64 x251]] ++ cmpc).toArray w347 fun
    (e132 : Ending) (w348 : World) => ∃ (x252 : Int), e132 = Ending.returned (Value.int IntKind.i64 x252) ∧ KeepX true w.heap.size [] (fun _ => False) w347 w348 ∧ (0 ≤ x252 → ∀
    (w349 : World), RowKit.Below w.heap.size w w349 → Kept [] w348 w349 → Calls Tryz.prog 226 #[Value.slice dataa datan datac, Value.int IntKind.i64 x1, Value.int IntKind.i64 x2,
    Value.int IntKind.i64 x134, Value.func (Fn.func cmpf) cmpi.toArray cmpc.toArray] w349 fun (e133 : Ending) (w350 : World) => ∃ (x253 : Int), e133 = Ending.returned (Value.int
    IntKind.i64 x253) ∧ KeepX true w.heap.size [] (fun _ => False) w349 w350 ∧ ∀ (w351 : World), RowKit.Below w.heap.size w w351 → Kept [] w350 w351 → F1 [Lf.int IntKind.i64 x253,
    Lf.int IntKind.i64 x2, Lf.int IntKind.i64 x3, Lf.bool t1, Lf.bool t2] w351 ∧ F2 [Lf.int IntKind.i64 x253, Lf.int IntKind.i64 x2, Lf.int IntKind.i64 x3, Lf.bool t1, Lf.bool t2]
    < F2 [Lf.int IntKind.i64 x1, Lf.int IntKind.i64 x2, Lf.int IntKind.i64 x3, Lf.bool t1, Lf.bool t2]) ∧ (x252 < 0 → ∀ (w352 : World), RowKit.Below w.heap.size w w352 → Kept []
    w348 w352 → Calls Tryz.prog 227 #[Value.slice dataa datan datac, Value.int IntKind.i64 x1, Value.int IntKind.i64 x2, Value.int IntKind.i64 x134, Value.func (Fn.func cmpf)
    cmpi.toArray cmpc.toArray] w352 fun (e134 : Ending) (w353 : World) => ∃ (x254 : Int), ∃ (t37 : Bool), e134 = Ending.returned (Value.tuple #[Value.int IntKind.i64 x254,
    Value.bool t37]) ∧ KeepX true w.heap.size [] (fun _ => False) w352 w353 ∧ (-9223372036854775808 ≤ x254 - x1 ∧ x254 - x1 ≤ 9223372036854775807) ∧ (-9223372036854775808 ≤ x2 -
    x254 ∧ x2 - x254 ≤ 9223372036854775807) ∧ ((8 : Int) ≠ 0 ∧ -9223372036854775808 ≤ (x2 - x1).tdiv 8 ∧ (x2 - x1).tdiv (8 : Int) ≤ 9223372036854775807) ∧ (x254 - x1 < x2 - x254 →
    ∀ (w354 : World), RowKit.Below w.heap.size w w354 → Kept [] w353 w354 → Calls Tryz.prog 197 #[Value.slice dataa datan datac, Value.int IntKind.i64 x1, Value.int IntKind.i64
    x254, Value.int IntKind.i64 x3, Value.func (Fn.func cmpf) cmpi.toArray cmpc.toArray] w354 fun (e135 : Ending) (w355 : World) => e135 = Ending.returned (Value.tuple #[]) ∧ KeepX
    true w.heap.size [] (fun _ => False) w354 w355 ∧ (-9223372036854775808 ≤ x254 + 1 ∧ x254 + (1 : Int) ≤ 9223372036854775807) ∧ ∀ (w356 : World), RowKit.Below w.heap.size w w356
    → Kept [] w355 w356 → F1 [Lf.int IntKind.i64 (x254 + 1), Lf.int IntKind.i64 x2, Lf.int IntKind.i64 x3, Lf.bool (decide ((x2 - x1).tdiv 8 ≤ x254 - x1)), Lf.bool t37] w356 ∧ F2
    [Lf.int IntKind.i64 (x254 + 1), Lf.int IntKind.i64 x2, Lf.int IntKind.i64 x3, Lf.bool (decide ((x2 - x1).tdiv 8 ≤ x254 - x1)), Lf.bool t37] < F2 [Lf.int IntKind.i64 x1, Lf.int
    IntKind.i64 x2, Lf.int IntKind.i64 x3, Lf.bool t1, Lf.bool t2]) ∧ (x2 - x254 ≤ x254 - x1 → (-9223372036854775808 ≤ x254 + 1 ∧ x254 + (1 : Int) ≤ 9223372036854775807) ∧ ∀ (w357
    : World), RowKit.Below w.heap.size w w357 → Kept [] w353 w357 → Calls Tryz.prog 197 #[Value.slice dataa datan datac, Value.int IntKind.i64 (x254 + 1), Value.int IntKind.i64 x2,
    Value.int IntKind.i64 x3, Value.func (Fn.func cmpf) cmpi.toArray cmpc.toArray] w357 fun (e136 : Ending) (w358 : World) => e136 = Ending.returned (Value.tuple #[]) ∧ KeepX true
    w.heap.size [] (fun _ => False) w357 w358 ∧ ∀ (w359 : World), RowKit.Below w.heap.size w w359 → Kept [] w358 w359 → F1 [Lf.int IntKind.i64 x1, Lf.int IntKind.i64 x254, Lf.int
    IntKind.i64 x3, Lf.bool (decide ((x2 - x1).tdiv 8 ≤ x2 - x254)), Lf.bool t37] w359 ∧ F2 [Lf.int IntKind.i64 x1, Lf.int IntKind.i64 x254, Lf.int IntKind.i64 x3, Lf.bool (decide
    ((x2 - x1).tdiv 8 ≤ x2 - x254)), Lf.bool t37] < F2 [Lf.int IntKind.i64 x1, Lf.int IntKind.i64 x2, Lf.int IntKind.i64 x3, Lf.bool t1, Lf.bool t2]))) ∧ (x1 ≤ 0 → ∀ (w360 :
    World), RowKit.Below w.heap.size w w360 → Kept [] w191 w360 → Calls Tryz.prog 227 #[Value.slice dataa datan datac, Value.int IntKind.i64 x1, Value.int IntKind.i64 x2, Value.int
    IntKind.i64 x134, Value.func (Fn.func cmpf) cmpi.toArray cmpc.toArray] w360 fun (e137 : Ending) (w361 : World) => ∃ (x259 : Int), ∃ (t38 : Bool), e137 = Ending.returned
    (Value.tuple #[Value.int IntKind.i64 x259, Value.bool t38]) ∧ KeepX true w.heap.size [] (fun _ => False) w360 w361 ∧ (-9223372036854775808 ≤ x259 - x1 ∧ x259 - x1 ≤
    9223372036854775807) ∧ (-9223372036854775808 ≤ x2 - x259 ∧ x2 - x259 ≤ 9223372036854775807) ∧ ((8 : Int) ≠ 0 ∧ -9223372036854775808 ≤ (x2 - x1).tdiv 8 ∧ (x2 - x1).tdiv (8 :
    Int) ≤ 9223372036854775807) ∧ (x259 - x1 < x2 - x259 → ∀ (w362 : World), RowKit.Below w.heap.size w w362 → Kept [] w361 w362 → Calls Tryz.prog 197 #[Value.slice dataa datan
    datac, Value.int IntKind.i64 x1, Value.int IntKind.i64 x259, Value.int IntKind.i64 x3, Value.func (Fn.func cmpf) cmpi.toArray cmpc.toArray] w362 fun (e138 : Ending) (w363 :
    World) => e138 = Ending.returned (Value.tuple #[]) ∧ KeepX true w.heap.size [] (fun _ => False) w362 w363 ∧ (-9223372036854775808 ≤ x259 + 1 ∧ x259 + (1 : Int) ≤
    9223372036854775807) ∧ ∀ (w364 : World), RowKit.Below w.heap.size w w364 → Kept [] w363 w364 → F1 [Lf.int IntKind.i64 (x259 + 1), Lf.int IntKind.i64 x2, Lf.int IntKind.i64 x3,
    Lf.bool (decide ((x2 - x1).tdiv 8 ≤ x259 - x1)), Lf.bool t38] w364 ∧ F2 [Lf.int IntKind.i64 (x259 + 1), Lf.int IntKind.i64 x2, Lf.int IntKind.i64 x3, Lf.bool (decide ((x2 -
    x1).tdiv 8 ≤ x259 - x1)), Lf.bool t38] < F2 [Lf.int IntKind.i64 x1, Lf.int IntKind.i64 x2, Lf.int IntKind.i64 x3, Lf.bool t1, Lf.bool t2]) ∧ (x2 - x259 ≤ x259 - x1 →
    (-9223372036854775808 ≤ x259 + 1 ∧ x259 + (1 : Int) ≤ 9223372036854775807) ∧ ∀ (w365 : World), RowKit.Below w.heap.size w w365 → Kept [] w361 w365 → Calls Tryz.prog 197
    #[Value.slice dataa datan datac, Value.int IntKind.i64 (x259 + 1), Value.int IntKind.i64 x2, Value.int IntKind.i64 x3, Value.func (Fn.func cmpf) cmpi.toArray cmpc.toArray] w365
    fun (e139 : Ending) (w366 : World) => e139 = Ending.returned (Value.tuple #[]) ∧ KeepX true w.heap.size [] (fun _ => False) w365 w366 ∧ ∀ (w367 : World), RowKit.Below
    w.heap.size w w367 → Kept [] w366 w367 → F1 [Lf.int IntKind.i64 x1, Lf.int IntKind.i64 x259, Lf.int IntKind.i64 x3, Lf.bool (decide ((x2 - x1).tdiv 8 ≤ x2 - x259)), Lf.bool
    t38] w367 ∧ F2 [Lf.int IntKind.i64 x1, Lf.int IntKind.i64 x259, Lf.int IntKind.i64 x3, Lf.bool (decide ((x2 - x1).tdiv 8 ≤ x2 - x259)), Lf.bool t38] < F2 [Lf.int IntKind.i64
    x1, Lf.int IntKind.i64 x2, Lf.int IntKind.i64 x3, Lf.bool t1, Lf.bool t2])))))))) : Calls Tryz.prog 197 #[Value.slice dataa datan datac, Value.int IntKind.i64 a, Value.int
    IntKind.i64 b, Value.int IntKind.i64 limit, Value.func (Fn.func cmpf) cmpi.toArray cmpc.toArray] w R := calls_of_vc (pure := true) (wrapAt := []) (muts := []) (esc := []) (args
    := [SV.pv (PV.one (Lf.sl dataa datan datac)), SV.pv (PV.one (Lf.int IntKind.i64 a)), SV.pv (PV.one (Lf.int IntKind.i64 b)), SV.pv (PV.one (Lf.int IntKind.i64 limit)), SV.pv
    (PV.one (Lf.fv cmpf cmpi cmpc))]) (vs := [Value.slice dataa datan datac, Value.int IntKind.i64 a, Value.int IntKind.i64 b, Value.int IntKind.i64 limit, Value.func (Fn.func
    cmpf) cmpi.toArray cmpc.toArray]) Tryz.func197 rfl rfl rfl (Eq.mp (by kernel_rfl) h) 
end Go.Proofs
end
