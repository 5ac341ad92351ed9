/- Part 6: own lemmas, and the conditions of the functions. -/
import Derived.Test.YtmbdiifcfcpibaaProg
import Derived.Test.YtmbdiifcfcpibaaRows
import Derived.Test.YtmbdiifcfcpibaaP05
section
/- The conditions of the functions, printed by program; each is what the generator reckons (kernel_rfl). -/
namespace Go.Proofs
open Go.Vc
set_option maxRecDepth 100000 in
set_option maxHeartbeats 2000000 in
theorem vc3 (c0 : Int) (c1 : Int) (c2a : Option Addr) (c2n : Nat) (c2c : Nat) (c3 : Int) (c4 : Int) (c5 : Int) (c6 : Int) (t0a : Option Addr) (t0n : Nat) (t0c : Nat) (t1 : Int) (t2
    : Int) (t3 : Int) (t4 : Int) (t5 : Int) (t6 : Int) (w : World) (R : Ending → World → Prop) (h : ∀ (m1 : Nat), w.heap.size ≤ m1 → ∀ (m2 : Nat), w.heap.size ≤ m2 → ∃ (F1 : List
    Lf → World → Prop), ((12 < (↑c2n : Int) → ∀ (w2 : World), RowKit.Below w.heap.size w w2 → Kept [m2, m1] w w2 → w2.heap[m1]? = some (Obj.cells #[Value.int IntKind.i64 c0,
    Value.int IntKind.i64 c1, Value.slice c2a c2n c2c, Value.int IntKind.i64 c3, Value.int IntKind.i64 c4, Value.int IntKind.i64 c5, Value.int IntKind.i64 c6] 27) → F1 [Lf.bool
    true, Lf.bool true] w2) ∧ ((↑c2n : Int) ≤ 12 → ∀ (w3 : World), RowKit.Below w.heap.size w w3 → Kept [m2, m1] w w3 → w3.heap[m1]? = some (Obj.cells #[Value.int IntKind.i64 c0,
    Value.int IntKind.i64 c1, Value.slice c2a c2n c2c, Value.int IntKind.i64 c3, Value.int IntKind.i64 c4, Value.int IntKind.i64 c5, Value.int IntKind.i64 c6] 27) → w3.heap[m2]? =
    some (Obj.cells #[Value.slice t0a t0n t0c, Value.int IntKind.i64 t1, Value.int IntKind.i64 t2, Value.int IntKind.i64 t3, Value.int IntKind.i64 t4, Value.int IntKind.i64 t5,
    Value.int IntKind.i64 t6] 30) → F1 [Lf.bool false, Lf.bool (decide (12 < (↑t0n : Int)))] w3)) ∧ ∀ (t1_1 t2_1 : Bool) (w4 : World), RowKit.Below w.heap.size w w4 → F1 [Lf.bool
    t1_1, Lf.bool t2_1] w4 → (t2_1 = true → ∀ (w5 : World), RowKit.Below w.heap.size w w5 → Kept [m2, m1] w4 w5 → Calls Try.prog 12 #[] w5 fun (e1 : Ending) (w6 : World) => ∃ (t3 :
    Bool), e1 = Ending.returned (Value.bool t3) ∧ KeepX true w.heap.size [m2, m1] (fun _ => False) w5 w6 ∧ ∀ (w7 : World), RowKit.Below w.heap.size w w7 → Kept [m2, m1] w6
    w7 → R (Ending.returned (Value.bool t3)) w7) ∧ (t2_1 = false → ∀ (w8 : World), RowKit.Below w.heap.size w w8 → Kept [m2, m1] w4 w8 → Calls Try.prog 13 #[Value.agg #[Value.int
    IntKind.i64 c0, Value.int IntKind.i64 c1, Value.slice c2a c2n c2c, Value.int IntKind.i64 c3, Value.int IntKind.i64 c4, Value.int IntKind.i64 c5, Value.int IntKind.i64 c6]] w8
    fun (e2 : Ending) (w9 : World) => ∃ (x2 : Int), ∃ (x3 : Int), ∃ (a1 : Option Addr), ∃ (m9 : Nat), ∃ (m10 : Nat), ∃ (x4 : Int), ∃ (x5 : Int), ∃ (x6 : Int), ∃ (x7 : Int), e2 =
    Ending.returned (Value.agg #[Value.int IntKind.i64 x2, Value.int IntKind.i64 x3, Value.slice a1 m9 m10, Value.int IntKind.i64 x4, Value.int IntKind.i64 x5, Value.int
    IntKind.i64 x6, Value.int IntKind.i64 x7]) ∧ KeepX true w.heap.size [m2, m1] (fun _ => False) w8 w9 ∧ ∀ (m12 : Nat), w9.heap.size ≤ m12 → ∀ (w10 : World),
    RowKit.Below w.heap.size w w10 → Kept [m12, m2, m1] w9 w10 → Calls Try.prog 14 #[Value.agg #[Value.int IntKind.i64 x2, Value.int IntKind.i64 x3, Value.slice a1 m9 m10,
    Value.int IntKind.i64 x4, Value.int IntKind.i64 x5, Value.int IntKind.i64 x6, Value.int IntKind.i64 x7], Value.agg #[Value.slice t0a t0n t0c, Value.int IntKind.i64 t1,
    Value.int IntKind.i64 t2, Value.int IntKind.i64 t3, Value.int IntKind.i64 t4, Value.int IntKind.i64 t5, Value.int IntKind.i64 t6]] w10 fun (e3 : Ending) (w11 : World) => ∃ (x8
    : Int), ∃ (x9 : Int), ∃ (x10 : Int), e3 = Ending.returned (Value.tuple #[Value.agg #[Value.int IntKind.i64 x8, Value.int IntKind.i64 x9], Value.int IntKind.i64 x10]) ∧ KeepX
    true w.heap.size [m12, m2, m1] (fun _ => False) w10 w11 ∧ ∀ (m14 : Nat), w11.heap.size ≤ m14 → ∀ (w12 : World), RowKit.Below w.heap.size w w12 → Kept [m14, m12, m2,
    m1] w11 w12 → Calls Try.prog 15 #[Value.agg #[Value.int IntKind.i64 c0, Value.int IntKind.i64 c1, Value.slice c2a c2n c2c, Value.int IntKind.i64 c3, Value.int IntKind.i64 c4,
    Value.int IntKind.i64 c5, Value.int IntKind.i64 c6]] w12 fun (e4 : Ending) (w13 : World) => ∃ (x11 : Int), e4 = Ending.returned (Value.int IntKind.i64 x11) ∧ KeepX true
    w.heap.size [m14, m12, m2, m1] (fun _ => False) w12 w13 ∧ ∃ (F2 : List Lf → World → Prop), (∀ (w15 : World), RowKit.Below w.heap.size w w15 → Kept [m14, m12, m2, m1]
    w13 w15 → Calls Try.prog 16 #[Value.agg #[Value.int IntKind.i64 x2, Value.int IntKind.i64 x3, Value.slice a1 m9 m10, Value.int IntKind.i64 x4, Value.int IntKind.i64 x5,
    Value.int IntKind.i64 x6, Value.int IntKind.i64 x7], Value.agg #[Value.int IntKind.i64 c0, Value.int IntKind.i64 c1, Value.slice c2a c2n c2c, Value.int IntKind.i64 c3,
    Value.int IntKind.i64 c4, Value.int IntKind.i64 c5, Value.int IntKind.i64 c6]] w15 fun (e5 : Ending) (w16 : World) => ∃ (t4 : Bool), e5 = Ending.returned (Value.bool t4) ∧
    KeepX true w.heap.size [m14, m12, m2, m1] (fun _ => False) w15 w16 ∧ ((!t4) = true → ∀ (w17 : World), RowKit.Below w.heap.size w w17 → Kept [m14, m12, m2, m1] w16 w17
    → F2 [Lf.bool true] w17) ∧ ((!t4) = false → ∀ (w18 : World), RowKit.Below w.heap.size w w18 → Kept [m14, m12, m2, m1] w16 w18 → Calls Try.prog 17 #[Value.agg #[Value.int
    IntKind.i64 x2, Value.int IntKind.i64 x3, Value.slice a1 m9 m10, Value.int IntKind.i64 x4, Value.int IntKind.i64 x5, Value.int IntKind.i64 x6, Value.int IntKind.i64 x7]] w18
    fun (e6 : Ending) (w19 : World) => ∃ (x12 : Int), e6 = Ending.returned (Value.int IntKind.i64 x12) ∧ KeepX true w.heap.size [m14, m12, m2, m1] (fun _ => False) w18
    w19 ∧ ∀ (w20 : World), RowKit.Below w.heap.size w w20 → Kept [m14, m12, m2, m1] w19 w20 → F2 [Lf.bool (x12 != x11)] w20)) ∧ ∀ (t5_1 : Bool) (w21 : World), RowKit.Below
    w.heap.size w w21 → F2 [Lf.bool t5_1] w21 → (t5_1 = true → ∀ (w22 : World), RowKit.Below w.heap.size w w22 → Kept [m14, m12, m2, m1] w21 w22 → R (Ending.returned (Value.bool
    false)) w22) ∧ (t5_1 = false → ∃ (F3 : List Lf → World → Prop), ((x11 = 0 → ∀ (w24 : World), RowKit.Below w.heap.size w w24 → Kept [m14, m12, m2, m1] w21 w24 → Calls Try.prog
    18 #[Value.agg #[Value.int IntKind.i64 c0, Value.int IntKind.i64 c1, Value.slice c2a c2n c2c, Value.int IntKind.i64 c3, Value.int IntKind.i64 c4, Value.int IntKind.i64 c5,
    Value.int IntKind.i64 c6], Value.agg #[Value.slice t0a t0n t0c, Value.int IntKind.i64 t1, Value.int IntKind.i64 t2, Value.int IntKind.i64 t3, Value.int IntKind.i64 t4,
    Value.int IntKind.i64 t5, Value.int IntKind.i64 t6]] w24 fun (e7 : Ending) (w25 : World) => ∃ (t6 : Bool), e7 = Ending.returned (Value.bool t6) ∧ KeepX true w.heap.size [m14,
    m12, m2, m1] (fun _ => False) w24 w25 ∧ ∀ (w26 : World), RowKit.Below w.heap.size w w26 → Kept [m14, m12, m2, m1] w25 w26 → F3 [Lf.bool !t6] w26) ∧ (x11 ≠ 0 → ∀ (w27
    : World), RowKit.Below w.heap.size w w27 → Kept [m14, m12, m2, m1] w21 w27 → F3 [Lf.bool false] w27)) ∧ ∀ (t7 : Bool) (w28 : World), RowKit.Below w.heap.size w w28 → F3
    [Lf.bool t7] w28 → ∃ (F4 : List Lf → World → Prop), ((t7 = true → ∀ (w30 : World), RowKit.Below w.heap.size w w30 → Kept [m14, m12, m2, m1] w28 w30 → F4 [Lf.int IntKind.i64 2]
    w30) ∧ (t7 = false → ∀ (w31 : World), RowKit.Below w.heap.size w w31 → Kept [m14, m12, m2, m1] w28 w31 → F4 [Lf.int IntKind.i64 x11] w31)) ∧ ∀ (x13 : Int) (w32 : World),
    RowKit.Below w.heap.size w w32 → F4 [Lf.int IntKind.i64 x13] w32 → (x13 ≠ 0 → ∃ (F5 : List Lf → World → Prop), ((x10 = x13 → ∀ (w34 : World), RowKit.Below w.heap.size w w34 →
    Kept [m14, m12, m2, m1] w32 w34 → RunsTo Try.prog ((eqGuard BinOp.eql 34 (Operand.tmp 54) (Operand.tmp 55) (Value.agg #[Value.int IntKind.i64 x8, Value.int IntKind.i64 x9])
    (Value.agg #[Value.int IntKind.i64 0, Value.int IntKind.i64 0])) >>= fun _ => binOp BinOp.eql 34 (Value.agg #[Value.int IntKind.i64 x8, Value.int IntKind.i64 x9]) (Value.agg
    #[Value.int IntKind.i64 0, Value.int IntKind.i64 0])) w34 fun (v1 : Value) (w35 : World) => ∃ (t8 : Bool), v1 = Value.bool t8 ∧ KeepX true w.heap.size [m14, m12, m2, m1] (fun _ => False) w34 w35 ∧ (t8 = true → ∀ (w36 : World), RowKit.Below w.heap.size w w36 → Kept [m14, m12, m2, m1] w35 w36 → Calls Try.prog 12 #[] w36 fun (e8 : Ending)
    (w37 : World) => ∃ (t9 : Bool), e8 = Ending.returned (Value.bool t9) ∧ KeepX true w.heap.size [m14, m12, m2, m1] (fun _ => False) w36 w37 ∧ ∀ (w38 : World),
    RowKit.Below w.heap.size w w38 → Kept [m14, m12, m2, m1] w37 w38 → F5 [Lf.bool t9] w38) ∧ (t8 = false → ∀ (w39 : World), RowKit.Below w.heap.size w w39 → Kept [m14, m12, m2,
    m1] w35 w39 → F5 [Lf.bool false] w39)) ∧ (x10 ≠ x13 → ∀ (w40 : World), RowKit.Below w.heap.size w w40 → Kept [m14, m12, m2, m1] w32 w40 → F5 [Lf.bool false] w40)) ∧ ∀ (t10 :
    Bool) (w41 : World), RowKit.Below w.heap.size w w41 → F5 [Lf.bool t10] w41 → ∀ (w42 : World), RowKit.Below w.heap.size w w42 → Kept [m14, m12, m2, m1] w41 w42 → R
    (Ending.returned (Value.bool t10)) w42) ∧ (x13 = 0 → ∃ (F6 : List Lf → World → Prop), ((x10 = 0 → ∀ (w44 : World), RowKit.Below w.heap.size w w44 → KeptIn [(0, w32.heap.size)]
    [m14, m12, m2, m1] w32 w44 → Calls Try.prog 20 #[Value.agg #[Value.int IntKind.i64 c0, Value.int IntKind.i64 c1, Value.slice c2a c2n c2c, Value.int IntKind.i64 c3, Value.int
    IntKind.i64 c4, Value.int IntKind.i64 c5, Value.int IntKind.i64 c6], Value.agg #[Value.slice t0a t0n t0c, Value.int IntKind.i64 t1, Value.int IntKind.i64 t2, Value.int
    IntKind.i64 t3, Value.int IntKind.i64 t4, Value.int IntKind.i64 t5, Value.int IntKind.i64 t6]] w44 fun (e9 : Ending) (w45 : World) => ∃ (x14 : Int), e9 = Ending.returned
    (Value.int IntKind.i64 x14) ∧ KeepX true w.heap.size [m14, m12, m2, m1] (fun _ => False) w44 w45 ∧ ∀ (w46 : World), RowKit.Below w.heap.size w w46 → KeptIn [(0,
    w45.heap.size)] [m14, m12, m2, m1] w45 w46 → Calls Try.prog 21 #[Value.agg #[Value.int IntKind.i64 c0, Value.int IntKind.i64 c1, Value.slice c2a c2n c2c, Value.int IntKind.i64
    c3, Value.int IntKind.i64 c4, Value.int IntKind.i64 c5, Value.int IntKind.i64 c6]] w46 fun (e10 : Ending) (w47 : World) => ∃ (x15 : Int), e10 = Ending.returned (Value.int
    IntKind.i64 x15) ∧ KeepX true w.heap.size [m14, m12, m2, m1] (fun _ => False) w46 w47 ∧ ((-9223372036854775808 : Int) ≤ 10000 * x15 ∧ 10000 * x15 ≤
    9223372036854775807) ∧ ∀ (w48 : World), RowKit.Below w.heap.size w w48 → KeptIn [(0, w47.heap.size)] [m14, m12, m2, m1] w47 w48 → Calls Try.prog 19 #[Value.int IntKind.i64 x14,
    Value.int IntKind.i64 (10000 * x15)] w48 fun (e11 : Ending) (w49 : World) => ∃ (x16 : Int), ∃ (x17 : Int), e11 = Ending.returned (Value.agg #[Value.int IntKind.i64 x16,
    Value.int IntKind.i64 x17]) ∧ KeepX true w.heap.size [m14, m12, m2, m1] (fun _ => False) w48 w49 ∧ ∀ (w50 : World), RowKit.Below w.heap.size w w50 → KeptIn [(0,
    w49.heap.size)] [m14, m12, m2, m1] w49 w50 → RunsTo Try.prog ((eqGuard BinOp.eql 34 (Operand.tmp 64) (Operand.tmp 71) (Value.agg #[Value.int IntKind.i64 x8, Value.int
    IntKind.i64 x9]) (Value.agg #[Value.int IntKind.i64 x16, Value.int IntKind.i64 x17])) >>= fun _ => binOp BinOp.eql 34 (Value.agg #[Value.int IntKind.i64 x8, Value.int
    IntKind.i64 x9]) (Value.agg #[Value.int IntKind.i64 x16, Value.int IntKind.i64 x17])) w50 fun (v2 : Value) (w51 : World) => ∃ (t11 : Bool), v2 = Value.bool t11 ∧ KeepX true
    w.heap.size [m14, m12, m2, m1] (fun _ => False) w50 w51 ∧ (t11 = true → ∀ (w52 : World), RowKit.Below w.heap.size w w52 → KeptIn [(0, w51.heap.size)] [m14, m12, m2,
    m1] w51 w52 → Calls Try.prog 12 #[] w52 fun (e12 : Ending) (w53 : World) => ∃ (t12 : Bool), e12 = Ending.returned (Value.bool t12) ∧ KeepX true w.heap.size [m14, m12, m2, m1]
    (fun _ => False) w52 w53 ∧ ∀ (w54 : World), RowKit.Below w.heap.size w w54 → Kept [m14, m12, m2, m1] w53 w54 → F6 [Lf.bool t12] w54) ∧ (t11 = false → ∀ (w55 : World),
    RowKit.Below w.heap.size w w55 → Kept [m14, m12, m2, m1] w51 w55 → F6 [Lf.bool false] w55)) ∧ (x10 ≠ 0 → ∀ (w56 : World), RowKit.Below w.heap.size w w56 → Kept [m14, m12, m2,
    m1] w32 w56 → F6 [Lf.bool false] w56)) ∧ ∀ (t13 : Bool) (w57 : World), RowKit.Below w.heap.size w w57 → F6 [Lf.bool t13] w57 → ∀ (w58 : World), RowKit.Below w.heap.size w w58 →
    Kept [m14, m12, m2, m1] w57 w58 → R (Ending.returned (Value.bool t13)) w58)))) : Calls Try.prog 3 #[Value.agg #[Value.int IntKind.i64 c0, Value.int IntKind.i64 c1, Value.slice
    c2a c2n c2c, Value.int IntKind.i64 c3, Value.int IntKind.i64 c4, Value.int IntKind.i64 c5, Value.int IntKind.i64 c6], Value.agg #[Value.slice t0a t0n t0c, Value.int IntKind.i64
    t1, Value.int IntKind.i64 t2, Value.int IntKind.i64 t3, Value.int IntKind.i64 t4, Value.int IntKind.i64 t5, Value.int IntKind.i64 t6]] w R := calls_of_vcj (pure := true)
    (wrapAt := []) (muts := []) (esc := []) (joins := [(2000001, [(13, 4), (18, 4)]), (2000006, [(39, 4)]), (2000008, [(47, 4)]), (47, [(8, 35)]), (2000011, [(4, 4)]), (2000012,
    [(4, 4)])]) (args := [SV.pv (PV.agg [Lf.int IntKind.i64 c0, Lf.int IntKind.i64 c1, Lf.sl c2a c2n c2c, Lf.int IntKind.i64 c3, Lf.int IntKind.i64 c4, Lf.int IntKind.i64 c5,
    Lf.int IntKind.i64 c6]), SV.pv (PV.agg [Lf.sl t0a t0n t0c, Lf.int IntKind.i64 t1, Lf.int IntKind.i64 t2, Lf.int IntKind.i64 t3, Lf.int IntKind.i64 t4, Lf.int IntKind.i64 t5,
    Lf.int IntKind.i64 t6])]) (vs := [Value.agg #[Value.int IntKind.i64 c0, Value.int IntKind.i64 c1, Value.slice c2a c2n c2c, Value.int IntKind.i64 c3, Value.int IntKind.i64 c4,
    Value.int IntKind.i64 c5, Value.int IntKind.i64 c6], Value.agg #[Value.slice t0a t0n t0c, Value.int IntKind.i64 t1, Value.int IntKind.i64 t2, Value.int IntKind.i64 t3,
    Value.int IntKind.i64 t4, Value.int IntKind.i64 t5, Value.int IntKind.i64 t6]]) Try.func3 rfl rfl rfl (Eq.mp (by kernel_rfl) h) 
end Go.Proofs
end
section
/- BeatExacts. -/
namespace Go.Proofs.R03
open Go.Vc Go.RowKit Go.Proofs

set_option maxHeartbeats 2000000 in
theorem exacts_any (c : Clk) (t : Tr) {ra ta : Option Addr} {rc tc : Nat} {w : World} (hc : Cells w ra (rods c.rods)) (ht : Cells w ta (ints t.grow)) : Calls Try.prog 3 #[c.v ra rc, t.v ta tc] w (Pure w (.bool true)) := by
  refine vc3 _ _ _ _ _ _ _ _ _ _ _ _ _ _ _ _ _ _ w _ fun m1 h1 m2 h2 => ?_
  refine ⟨fun ls _ => match ls with | [_, .bool b] => b = false → c.rods.length ≤ 12 ∧ t.grow.length ≤ 12 | _ => False, ⟨fun _ w2 _ _ _ h => (by cases h), fun g w3 _ _ _ _ h => ⟨by omega, by simp at h; omega⟩⟩, ?_⟩
  rintro _ b w4 hb4 hF
  refine ⟨fun _ w5 hb5 _ => Pure.calls (known_any w5) fun w6 hb6 => ⟨true, rfl, .all hb6, fun w7 hb7 _ => ⟨rfl, hb7⟩⟩, fun hbf w8 hb8 hk8 => ?_⟩
  obtain ⟨hcl, htl⟩ := hF hbf
  have o8 := hk8.own
  refine (copied_any c (hc.keep hb8) (by omega)).mono fun e w9 he => ?_
  obtain ⟨a', n', rfl, hb9, R9⟩ := he
  refine ⟨_, _, _, _, _, _, _, _, _, rfl, .all hb9, fun m12 h12 w10 hb10 hk10 => ?_⟩
  have z9 := hb9.size
  have L9 := R9.lies (lo := w8.heap.size) (hi := w9.heap.size) fun h0 b o e => R9.in h0 b o e
  have hs : ∀ m14, w9.heap.size ≤ m14 → ∀ x ∈ [m14, m12, m2, m1], x < w8.heap.size ∨ w9.heap.size ≤ x := fun m14 h14 x hx => by
    have u1 := o8 m2 (by simp); have u2 := o8 m1 (by simp)
    simp at hx; omega
  have L10 := L9.out (Chg.kept hk10) fun x hx => hs m12 h12 x (by simp at hx ⊢; omega)
  refine Pure.calls (exact_any c t L10.cells (ht.keep hb10)) fun w11 hb11 => ⟨_, _, _, rfl, .all hb11, fun m14 h14 w12 hb12 hk12 => ?_⟩
  have z10 := hk10.size; have z11 := hb11.size; have z12 := hk12.size
  have hs := hs m14 (by omega)
  have L12 := (L10.below hb11).out (Chg.kept hk12) hs
  refine Pure.calls (rcheck_any c (hc.keep hb12)) fun w13 hb13 => ⟨_, rfl, .all hb13, fun ls _ => match ls with | [.bool b] => b = false | _ => False, fun w15 hb15 hk15 => ?_, ?_⟩
  · have L15 := (L12.below hb13).out (Chg.kept hk15) hs
    refine Pure.calls (same_any c c L15.cells (hc.keep hb15) (by omega)) fun w16 hb16 => ⟨_, rfl, .all hb16, fun h => absurd h (by simp), fun _ w18 hb18 hk18 => ?_⟩
    have L18 := (L15.below hb16).out (Chg.kept hk18) hs
    exact Pure.calls (check_any c L18.cells) fun w19 hb19 => ⟨_, rfl, .all hb19, fun w20 hb20 _ => by simp⟩
  rintro b5 w21 hb21 rfl
  refine ⟨fun h => absurd h (by decide), fun _ => ⟨fun ls _ => match ls with | [.bool b] => b = (decide (check c = 0) && !ofB c t) | _ => False, ⟨fun h0 w24 hb24 hk24 => ?_, fun h0 w27 hb27 _ => ?_⟩, ?_⟩⟩
  · exact Pure.calls (rof_any c t (hc.keep hb24) (ht.keep hb24) (by omega)) fun w25 hb25 => ⟨_, rfl, .all hb25, fun w26 hb26 _ => by rw [decide_eq_true h0]; rfl⟩
  · rw [decide_eq_false h0]; rfl
  rintro b7 w28 hb28 rfl
  refine ⟨fun ls _ => match ls with | [.int _ x] => x = (exactR c t).2 | _ => False, ⟨fun h w30 _ _ => ?_, fun h w31 _ _ => ?_⟩, ?_⟩
  · rw [Bool.and_eq_true, decide_eq_true_eq] at h
    show 2 = (exactR c t).2
    unfold exactR; rw [if_pos h.1, if_neg (by simpa using h.2)]
  · show check c = (exactR c t).2
    unfold exactR
    split
    · rename_i h0
      rw [h0] at h
      rw [if_pos (by simpa using h)]; exact h0
    · rfl
  rintro x13 w32 hb32 rfl
  refine ⟨fun hne => ?_, fun h0 => ?_⟩
  · have hz : (exactR c t).1 = (0, 0) := by
      unfold exactR at hne ⊢
      split
      · rename_i h0
        rw [if_pos h0] at hne
        split
        · rename_i h2; rw [if_pos h2] at hne; exact absurd rfl hne
        · rfl
      · rfl
    refine ⟨fun ls _ => match ls with | [.bool b] => b = true | _ => False, ⟨fun _ w34 hb34 hk34 => ?_, fun h => absurd rfl h⟩, ?_⟩
    · rw [hz]
      refine eql_ratio ⟨_, rfl, .all (.refl _ _), fun _ w36 hb36 _ => Pure.calls (known_any w36) fun w37 hb37 => ⟨true, rfl, .all hb37, fun w38 _ _ => rfl⟩, fun h => absurd h (by decide)⟩
    · rintro b10 w41 hb41 rfl w42 hb42 _
      exact ⟨rfl, hb42⟩
  · have hck : check c = 0 := by
      unfold exactR at h0
      split at h0
      · assumption
      · rename_i h; exact absurd h0 h
    have hof : ofB c t = true := by
      unfold exactR at h0
      rw [if_pos hck] at h0
      split at h0
      · assumption
      · cases h0
    have hr : exactR c t = (lowest (partsR c t) (10000 * lenC c.rods), 0) := by
      unfold exactR; rw [if_pos hck, if_pos hof, rate_exact]
    have hok : OkK (exactK c t) := exactK_ok (newK_ok (open_limits hck)) (ofB_in.1 hof)
    have hbd := rateK_bd hok
    rw [rate_exact] at hbd
    simp only [Bd] at hbd
    have hlen : 100 ≤ lenC c.rods ∧ lenC c.rods ≤ 100000 := hok.len
    refine ⟨fun ls _ => match ls with | [.bool b] => b = true | _ => False, ⟨fun _ w44 hb44 hk44 => ?_, fun h => absurd h0 h⟩, ?_⟩
    · refine Pure.calls (rparts_any c t (hc.keep hb44) (ht.keep hb44) hok) fun w45 hb45 => ⟨_, rfl, .all hb45, fun w46 hb46 _ => ?_⟩
      refine Pure.calls (rlength_any c (hc.keep hb46) (by omega) hok.lens) fun w47 hb47 => ⟨_, rfl, .all hb47, by omega, fun w48 hb48 _ => ?_⟩
      refine Pure.calls (rlowest_any (a := partsR c t) (b := 10000 * lenC c.rods) (by omega) (by omega) w48) fun w49 hb49 => ⟨_, _, rfl, .all hb49, fun w50 hb50 _ => ?_⟩
      rw [hr]
      refine eql_ratio ⟨_, rfl, .all (.refl _ _), fun _ w52 hb52 _ => Pure.calls (known_any w52) fun w53 hb53 => ⟨true, rfl, .all hb53, fun w54 _ _ => rfl⟩, fun h => absurd h (by simp)⟩
    · rintro b13 w57 hb57 rfl w58 hb58 _
      exact ⟨rfl, hb58⟩
end Go.Proofs.R03
end
section
/- The laws' arguments, opened. -/
namespace Go.Proofs.R03
open Go.Vc Go.RowKit Go.Proofs

theorem Try.own : ownKnob Try.prog.godebug = none := by kernel_rfl
theorem Try.laidOut : laidOutB Try.prog = true := by kernel_rfl

abbrev Li : Leaf := .int .i64
abbrev Lrod : Leaf := .sl [Li, Li, Li, .bool]
theorem leaves_clk : leaves Try.prog 5 27 = some [Li, Li, Lrod, Li, Li, Li, Li] := by kernel_rfl
theorem leaves_tr : leaves Try.prog 5 30 = some [.sl [Li], Li, Li, Li, Li, Li, Li] := by kernel_rfl
theorem agg_clk : isAggB Try.prog 27 = true := by kernel_rfl
theorem agg_tr : isAggB Try.prog 30 = true := by kernel_rfl

def In64 (x : Int) : Prop := rng .i64 x
section
variable {w : World}
theorem take_int {ls : List Leaf} {cs : List Value} (h : LeavesAre w (Li :: ls) cs) : ∃ x r, cs = I x :: r ∧ In64 x ∧ LeavesAre w ls r := by
  obtain ⟨v, r, rfl, h1, h2⟩ := h.cons'
  obtain ⟨x, rfl, hx⟩ := h1.int'
  exact ⟨x, r, rfl, hx, h2⟩
theorem take_rods {v : Value} (h : LeafIs w Lrod v) : ∃ a c, ∃ l : List Rod, v = .slice a l.length c ∧ l.length ≤ maxLen ∧ Cells w a (rods l) := by
  obtain ⟨a, c, l, rfl, h1, h2, h3, h4⟩ := h.sl' (fun r : Rod => rodC r) (fun _ => True) fun x hx => by
    obtain ⟨x0, _, rfl, g0, hx⟩ := take_int hx
    obtain ⟨x1, _, rfl, g1, hx⟩ := take_int hx
    obtain ⟨x2, _, rfl, g2, hx⟩ := take_int hx
    obtain ⟨v, r, rfl, g3, g4⟩ := hx.cons'
    obtain ⟨b, rfl⟩ := g3.bool'
    rw [g4.nil']
    exact ⟨⟨x0, x1, x2, b⟩, rfl, trivial⟩
  exact ⟨a, c, l, rfl, Nat.le_trans h1 h2, h3⟩
theorem ints_flat (l : List Int) : (l.flatMap fun x => [I x]) = ints l := by
  induction l with
  | nil => rfl
  | cons b l ih => rw [List.flatMap_cons, ih]; rfl
theorem take_ints {v : Value} (h : LeafIs w (.sl [Li]) v) : ∃ a c, ∃ l : List Int, v = .slice a l.length c ∧ l.length ≤ maxLen ∧ Cells w a (ints l) := by
  obtain ⟨a, c, l, rfl, h1, h2, h3, _⟩ := h.sl' (fun b : Int => [I b]) (fun _ => True) fun x hx => by
    obtain ⟨x0, r, rfl, g0, hx⟩ := take_int hx
    rw [hx.nil']
    exact ⟨x0, rfl, trivial⟩
  refine ⟨a, c, l, rfl, Nat.le_trans h1 h2, ?_⟩
  rw [← ints_flat]
  exact h3

variable {H : Type} {enc : TypeId × Value → H} {base b0 : Nat} {held : Bool} {spare : Nat → Bool} {reach : Reach}
set_option maxRecDepth 100000 in
theorem open_clk {v : Value} {d : DataW H} {ps : List MemPlace} (hv : Value.okWide Try.prog w reach b0 27 v) (hd : DataW.Trod enc Try.prog w base spare held 27 v d ps) :
    ∃ (c : Clk) (a : Option Addr) (n : Nat), v = c.v a n ∧ c.rods.length ≤ maxLen ∧ Cells w a (rods c.rods) := by
  obtain ⟨cs, rfl, h⟩ := open_agg agg_clk leaves_clk hv hd
  obtain ⟨x0, _, rfl, h0, h⟩ := take_int h
  obtain ⟨x1, _, rfl, h1, h⟩ := take_int h
  obtain ⟨u, r1, rfl, gu, g⟩ := h.cons'
  obtain ⟨a, n, l, rfl, hl, hr⟩ := take_rods gu
  obtain ⟨x2, _, rfl, h2, h⟩ := take_int g
  obtain ⟨x3, _, rfl, h3, h⟩ := take_int h
  obtain ⟨x4, _, rfl, h4, h⟩ := take_int h
  obtain ⟨x5, _, rfl, h5, h⟩ := take_int h
  rw [h.nil']
  exact ⟨⟨x0, x1, l, (x2, x3), (x4, x5)⟩, a, n, rfl, hl, hr⟩
set_option maxRecDepth 100000 in
theorem open_tr {v : Value} {d : DataW H} {ps : List MemPlace} (hv : Value.okWide Try.prog w reach b0 30 v) (hd : DataW.Trod enc Try.prog w base spare held 30 v d ps) :
    ∃ (t : Tr) (a : Option Addr) (n : Nat), v = t.v a n ∧ t.grow.length ≤ maxLen ∧ Cells w a (ints t.grow) := by
  obtain ⟨cs, rfl, h⟩ := open_agg agg_tr leaves_tr hv hd
  obtain ⟨u, r1, rfl, gu, g⟩ := h.cons'
  obtain ⟨a, n, l, rfl, hl, hr⟩ := take_ints gu
  obtain ⟨x0, _, rfl, h0, h⟩ := take_int g
  obtain ⟨x1, _, rfl, h1, h⟩ := take_int h
  obtain ⟨x2, _, rfl, h2, h⟩ := take_int h
  obtain ⟨x3, _, rfl, h3, h⟩ := take_int h
  obtain ⟨x4, _, rfl, h4, h⟩ := take_int h
  obtain ⟨x5, _, rfl, h5, h⟩ := take_int h
  rw [h.nil']
  exact ⟨⟨l, x0, x1, x2, x3, x4, x5⟩, a, n, rfl, hl, hr⟩
end
end Go.Proofs.R03
end
