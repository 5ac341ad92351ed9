/- Part 6: own lemmas, and the conditions of the functions. -/
import Derived.Test.YtmbdiifcfcpibaaProg
import Derived.Test.YtmbdiifcfcpibaaRows
import Derived.Test.YtmbdiifcfcpibaaP05
section
/- The conditions of the functions, printed by program; each is what the generator reckons (kernel_rfl). -/
namespace Go.Proofs
open Go.Vc
set_option maxRecDepth 100000 in
set_option maxHeartbeats 2000000 in
theorem vc3 (c0 : Int) (c1 : Int) (c2a : Option Addr) (c2n : Nat) (c2c : Nat) (c3 : Int) (c4 : Int) (c5 : Int) (c6 : Int) (t0a : Option Addr) (t0n : Nat) (t0c : Nat) (t1 : Int) (t2
    : Int) (t3 : Int) (t4 : Int) (t5 : Int) (t6 : Int) (w : World) (R : Ending → World → Prop) (h : ∀ (m1 : Nat), w.heap.size ≤ m1 → ∀ (m2 : Nat), w.heap.size ≤ m2 → ∃ (F1 : List
    Lf → World → Prop), ((12 < (↑c2n : Int) → ∀ (w2 : World), RowKit.Below w.heap.size w w2 → Kept [m2, m1] w w2 → w2.heap[m1]? = some (Obj.cells #[Value.int IntKind.i64 c0,
    Value.int IntKind.i64 c1, Value.slice c2a c2n c2c, Value.int IntKind.i64 c3, Value.int IntKind.i64 c4, Value.int IntKind.i64 c5, Value.int IntKind.i64 c6] 27) → F1 [Lf.bool
    true, Lf.bool true] w2) ∧ ((↑c2n : Int) ≤ 12 → ∀ (w3 : World), RowKit.Below w.heap.size w w3 → Kept [m2, m1] w w3 → w3.heap[m1]? = some (Obj.cells #[Value.int IntKind.i64 c0,
    Value.int IntKind.i64 c1, Value.slice c2a c2n c2c, Value.int IntKind.i64 c3, Value.int IntKind.i64 c4, Value.int IntKind.i64 c5, Value.int IntKind.i64 c6] 27) → w3.heap[m2]? =
    some (Obj.cells #[Value.slice t0a t0n t0c, Value.int IntKind.i64 t1, Value.int IntKind.i64 t2, Value.int IntKind.i64 t3, Value.int IntKind.i64 t4, Value.int IntKind.i64 t5,
    Value.int IntKind.i64 t6] 30) → F1 [Lf.bool false, Lf.bool (decide (12 < (↑t0n : Int)))] w3)) ∧ ∀ (t1_1 t2_1 : Bool) (w4 : World), RowKit.Below w.heap.size w w4 → F1 [Lf.bool
    t1_1, Lf.bool t2_1] w4 → (t2_1 = true → ∀ (w5 : World), RowKit.Below w.heap.size w w5 → Kept [m2, m1] w4 w5 → Calls Try.prog 12 #[] w5 fun (e1 : Ending) (w6 : World) => ∃ (t3 :
    Bool), e1 = Ending.returned (Value.bool t3) ∧ KeepX true w.heap.size [m2, m1] (fun _ => False) w5 w6 ∧ ∀ (w7 : World), RowKit.Below w.heap.size w w7 → Kept [m2, m1] w6
    w7 → R (Ending.returned (Value.bool t3)) w7) ∧ (t2_1 = false → ∀ (w8 : World), RowKit.Below w.heap.size w w8 → Kept [m2, m1] w4 w8 → Calls Try.prog 13 #[Value.agg #[Value.int
    IntKind.i64 c0, Value.int IntKind.i64 c1, Value.slice c2a c2n c2c, Value.int IntKind.i64 c3, Value.int IntKind.i64 c4, Value.int IntKind.i64 c5, Value.int IntKind.i64 c6]] w8
    fun (e2 : Ending) (w9 : World) => ∃ (x2 : Int), ∃ (x3 : Int), ∃ (a1 : Option Addr), ∃ (m9 : Nat), ∃ (m10 : Nat), ∃ (x4 : Int), ∃ (x5 : Int), ∃ (x6 : Int), ∃ (x7 : Int), e2 =
    Ending.returned (Value.agg #[Value.int IntKind.i64 x2, Value.int IntKind.i64 x3, Value.slice a1 m9 m10, Value.int IntKind.i64 x4, Value.int IntKind.i64 x5, Value.int
    IntKind.i64 x6, Value.int IntKind.i64 x7]) ∧ KeepX true w.heap.size [m2, m1] (fun _ => False) w8 w9 ∧ ∀ (m12 : Nat), w9.heap.size ≤ m12 → ∀ (w10 : World),
    RowKit.Below w.heap.size w w10 → Kept [m12, m2, m1] w9 w10 → Calls Try.prog 14 #[Value.agg #[Value.int IntKind.i64 x2, Value.int IntKind.i64 x3, Value.slice a1 m9 m10,
    Value.int IntKind.i64 x4, Value.int IntKind.i64 x5, Value.int IntKind.i64 x6, Value.int IntKind.i64 x7], Value.agg #[Value.slice t0a t0n t0c, Value.int IntKind.i64 t1,
    Value.int IntKind.i64 t2, Value.int IntKind.i64 t3, Value.int IntKind.i64 t4, Value.int IntKind.i64 t5, Value.int IntKind.i64 t6]] w10 fun (e3 : Ending) (w11 : World) => ∃ (x8
    : Int), ∃ (x9 : Int), ∃ (x10 : Int), e3 = Ending.returned (Value.tuple #[Value.agg #[Value.int IntKind.i64 x8, Value.int IntKind.i64 x9], Value.int IntKind.i64 x10]) ∧ KeepX
    true w.heap.size [m12, m2, m1] (fun _ => False) w10 w11 ∧ ∀ (m14 : Nat), w11.heap.size ≤ m14 → ∀ (w12 : World), RowKit.Below w.heap.size w w12 → Kept [m14, m12, m2,
    m1] w11 w12 → Calls Try.prog 15 #[Value.agg #[Value.int IntKind.i64 c0, Value.int IntKind.i64 c1, Value.slice c2a c2n c2c, Value.int IntKind.i64 c3, Value.int IntKind.i64 c4,
    Value.int IntKind.i64 c5, Value.int IntKind.i64 c6]] w12 fun (e4 : Ending) (w13 : World) => ∃ (x11 : Int), e4 = Ending.returned (Value.int IntKind.i64 x11) ∧ KeepX true
    w.heap.size [m14, m12, m2, m1] (fun _ => False) w12 w13 ∧ ∃ (F2 : List Lf → World → Prop), (∀ (w15 : World), RowKit.Below w.heap.size w w15 → Kept [m14, m12, m2, m1]
    w13 w15 → Calls Try.prog 16 #[Value.agg #[Value.int IntKind.i64 x2, Value.int IntKind.i64 x3, Value.slice a1 m9 m10, Value.int IntKind.i64 x4, Value.int IntKind.i64 x5,
    Value.int IntKind.i64 x6, Value.int IntKind.i64 x7], Value.agg #[Value.int IntKind.i64 c0, Value.int IntKind.i64 c1, Value.slice c2a c2n c2c, Value.int IntKind.i64 c3,
    Value.int IntKind.i64 c4, Value.int IntKind.i64 c5, Value.int IntKind.i64 c6]] w15 fun (e5 : Ending) (w16 : World) => ∃ (t4 : Bool), e5 = Ending.returned (Value.bool t4) ∧
    KeepX true w.heap.size [m14, m12, m2, m1] (fun _ => False) w15 w16 ∧ ((!t4) = true → ∀ (w17 : World), RowKit.Below w.heap.size w w17 → Kept [m14, m12, m2, m1] w16 w17
    → F2 [Lf.bool true] w17) ∧ ((!t4) = false → ∀ (w18 : World), RowKit.Below w.heap.size w w18 → Kept [m14, m12, m2, m1] w16 w18 → Calls Try.prog 17 #[Value.agg #[Value.int
    IntKind.i64 x2, Value.int IntKind.i64 x3, Value.slice a1 m9 m10, Value.int IntKind.i64 x4, Value.int IntKind.i64 x5, Value.int IntKind.i64 x6, Value.int IntKind.i64 x7]] w18
    fun (e6 : Ending) (w19 : World) => ∃ (x12 : Int), e6 = Ending.returned (Value.int IntKind.i64 x12) ∧ KeepX true w.heap.size [m14, m12, m2, m1] (fun _ => False) w18
    w19 ∧ ∀ (w20 : World), RowKit.Below w.heap.size w w20 → Kept [m14, m12, m2, m1] w19 w20 → F2 [Lf.bool (x12 != x11)] w20)) ∧ ∀ (t5_1 : Bool) (w21 : World), RowKit.Below
    w.heap.size w w21 → F2 [Lf.bool t5_1] w21 → (t5_1 = true → ∀ (w22 : World), RowKit.Below w.heap.size w w22 → Kept [m14, m12, m2, m1] w21 w22 → R (Ending.returned (Value.bool
    false)) w22) ∧ (t5_1 = false → ∃ (F3 : List Lf → World → Prop), ((x11 = 0 → ∀ (w24 : World), RowKit.Below w.heap.size w w24 → Kept [m14, m12, m2, m1] w21 w24 → Calls Try.prog
    18 #[Value.agg #[Value.int IntKind.i64 c0, Value.int IntKind.i64 c1, Value.slice c2a c2n c2c, Value.int IntKind.i64 c3, Value.int IntKind.i64 c4, Value.int IntKind.i64 c5,
    Value.int IntKind.i64 c6], Value.agg #[Value.slice t0a t0n t0c, Value.int IntKind.i64 t1, Value.int IntKind.i64 t2, Value.int IntKind.i64 t3, Value.int IntKind.i64 t4,
    Value.int IntKind.i64 t5, Value.int IntKind.i64 t6]] w24 fun (e7 : Ending) (w25 : World) => ∃ (t6 : Bool), e7 = Ending.returned (Value.bool t6) ∧ KeepX true w.heap.size [m14,
    m12, m2, m1] (fun _ => False) w24 w25 ∧ ∀ (w26 : World), RowKit.Below w.heap.size w w26 → Kept [m14, m12, m2, m1] w25 w26 → F3 [Lf.bool !t6] w26) ∧ (x11 ≠ 0 → ∀ (w27
    : World), RowKit.Below w.heap.size w w27 → Kept [m14, m12, m2, m1] w21 w27 → F3 [Lf.bool false] w27)) ∧ ∀ (t7 : Bool) (w28 : World), RowKit.Below w.heap.size w w28 → F3
    [Lf.bool t7] w28 → ∃ (F4 : List Lf → World → Prop), ((t7 = true → ∀ (w30 : World), RowKit.Below w.heap.size w w30 → Kept [m14, m12, m2, m1] w28 w30 → F4 [Lf.int IntKind.i64 2]
    w30) ∧ (t7 = false → ∀ (w31 : World), RowKit.Below w.heap.size w w31 → Kept [m14, m12, m2, m1] w28 w31 → F4 [Lf.int IntKind.i64 x11] w31)) ∧ ∀ (x13 : Int) (w32 : World),
    RowKit.Below w.heap.size w w32 → F4 [Lf.int IntKind.i64 x13] w32 → (x13 ≠ 0 → ∃ (F5 : List Lf → World → Prop), ((x10 = x13 → ∀ (w34 : World), RowKit.Below w.heap.size w w34 →
    Kept [m14, m12, m2, m1] w32 w34 → RunsTo Try.prog ((eqGuard BinOp.eql 34 (Operand.tmp 54) (Operand.tmp 55) (Value.agg #[Value.int IntKind.i64 x8, Value.int IntKind.i64 x9])
    (Value.agg #[Value.int IntKind.i64 0, Value.int IntKind.i64 0])) >>= fun _ => binOp BinOp.eql 34 (Value.agg #[Value.int IntKind.i64 x8, Value.int IntKind.i64 x9]) (Value.agg
    #[Value.int IntKind.i64 0, Value.int IntKind.i64 0])) w34 fun (v1 : Value) (w35 : World) => ∃ (t8 : Bool), v1 = Value.bool t8 ∧ KeepX true w.heap.size [m14, m12, m2, m1] (fun _ => False) w34 w35 ∧ (t8 = true → ∀ (w36 : World), RowKit.Below w.heap.size w w36 → Kept [m14, m12, m2, m1] w35 w36 → Calls Try.prog 12 #[] w36 fun (e8 : Ending)
    (w37 : World) => ∃ (t9 : Bool), e8 = Ending.returned (Value.bool t9) ∧ KeepX true w.heap.size [m14, m12, m2, m1] (fun _ => False) w36 w37 ∧ ∀ (w38 : World),
    RowKit.Below w.heap.size w w38 → Kept [m14, m12, m2, m1] w37 w38 → F5 [Lf.bool t9] w38) ∧ (t8 = false → ∀ (w39 : World), RowKit.Below w.heap.size w w39 → Kept [m14, m12, m2,
    m1] w35 w39 → F5 [Lf.bool false] w39)) ∧ (x10 ≠ x13 → ∀ (w40 : World), RowKit.Below w.heap.size w w40 → Kept [m14, m12, m2, m1] w32 w40 → F5 [Lf.bool false] w40)) ∧ ∀ (t10 :
    Bool) (w41 : World), RowKit.Below w.heap.size w w41 → F5 [Lf.bool t10] w41 → ∀ (w42 : World), RowKit.Below w.heap.size w w42 → Kept [m14, m12, m2, m1] w41 w42 → R
    (Ending.returned (Value.bool t10)) w42) ∧ (x13 = 0 → ∃ (F6 : List Lf → World → Prop), ((x10 = 0 → ∀ (w44 : World), RowKit.Below w.heap.size w w44 → KeptIn [(0, w32.heap.size)]
    [m14, m12, m2, m1] w32 w44 → Calls Try.prog 20 #[Value.agg #[Value.int IntKind.i64 c0, Value.int IntKind.i64 c1, Value.slice c2a c2n c2c, Value.int IntKind.i64 c3, Value.int
    IntKind.i64 c4, Value.int IntKind.i64 c5, Value.int IntKind.i64 c6], Value.agg #[Value.slice t0a t0n t0c, Value.int IntKind.i64 t1, Value.int IntKind.i64 t2, Value.int
    IntKind.i64 t3, Value.int IntKind.i64 t4, Value.int IntKind.i64 t5, Value.int IntKind.i64 t6]] w44 fun (e9 : Ending) (w45 : World) => ∃ (x14 : Int), e9 = Ending.returned
    (Value.int IntKind.i64 x14) ∧ KeepX true w.heap.size [m14, m12, m2, m1] (fun _ => False) w44 w45 ∧ ∀ (w46 : World), RowKit.Below w.heap.size w w46 → KeptIn [(0,
    w45.heap.size)] [m14, m12, m2, m1] w45 w46 → Calls Try.prog 21 #[Value.agg #[Value.int IntKind.i64 c0, Value.int IntKind.i64 c1, Value.slice c2a c2n c2c, Value.int IntKind.i64
    c3, Value.int IntKind.i64 c4, Value.int IntKind.i64 c5, Value.int IntKind.i64 c6]] w46 fun (e10 : Ending) (w47 : World) => ∃ (x15 : Int), e10 = Ending.returned (Value.int
    IntKind.i64 x15) ∧ KeepX true w.heap.size [m14, m12, m2, m1] (fun _ => False) w46 w47 ∧ ((-9223372036854775808 : Int) ≤ 10000 * x15 ∧ 10000 * x15 ≤
    9223372036854775807) ∧ ∀ (w48 : World), RowKit.Below w.heap.size w w48 → KeptIn [(0, w47.heap.size)] [m14, m12, m2, m1] w47 w48 → Calls Try.prog 19 #[Value.int IntKind.i64 x14,
    Value.int IntKind.i64 (10000 * x15)] w48 fun (e11 : Ending) (w49 : World) => ∃ (x16 : Int), ∃ (x17 : Int), e11 = Ending.returned (Value.agg #[Value.int IntKind.i64 x16,
    Value.int IntKind.i64 x17]) ∧ KeepX true w.heap.size [m14, m12, m2, m1] (fun _ => False) w48 w49 ∧ ∀ (w50 : World), RowKit.Below w.heap.size w w50 → KeptIn [(0,
    w49.heap.size)] [m14, m12, m2, m1] w49 w50 → RunsTo Try.prog ((eqGuard BinOp.eql 34 (Operand.tmp 64) (Operand.tmp 71) (Value.agg #[Value.int IntKind.i64 x8, Value.int
    IntKind.i64 x9]) (Value.agg #[Value.int IntKind.i64 x16, Value.int IntKind.i64 x17])) >>= fun _ => binOp BinOp.eql 34 (Value.agg #[Value.int IntKind.i64 x8, Value.int
    IntKind.i64 x9]) (Value.agg #[Value.int IntKind.i64 x16, Value.int IntKind.i64 x17])) w50 fun (v2 : Value) (w51 : World) => ∃ (t11 : Bool), v2 = Value.bool t11 ∧ KeepX true
    w.heap.size [m14, m12, m2, m1] (fun _ => False) w50 w51 ∧ (t11 = true → ∀ (w52 : World), RowKit.Below w.heap.size w w52 → KeptIn [(0, w51.heap.size)] [m14, m12, m2,
    m1] w51 w52 → Calls Try.prog 12 #[] w52 fun (e12 : Ending) (w53 : World) => ∃ (t12 : Bool), e12 = Ending.returned (Value.bool t12) ∧ KeepX true w.heap.size [m14, m12, m2, m1]
    (fun _ => False) w52 w53 ∧ ∀ (w54 : World), RowKit.Below w.heap.size w w54 → Kept [m14, m12, m2, m1] w53 w54 → F6 [Lf.bool t12] w54) ∧ (t11 = false → ∀ (w55 : World),
    RowKit.Below w.heap.size w w55 → Kept [m14, m12, m2, m1] w51 w55 → F6 [Lf.bool false] w55)) ∧ (x10 ≠ 0 → ∀ (w56 : World), RowKit.Below w.heap.size w w56 → Kept [m14, m12, m2,
    m1] w32 w56 → F6 [Lf.bool false] w56)) ∧ ∀ (t13 : Bool) (w57 : World), RowKit.Below w.heap.size w w57 → F6 [Lf.bool t13] w57 → ∀ (w58 : World), RowKit.Below w.heap.size w w58 →
    Kept [m14, m12, m2, m1] w57 w58 → R (Ending.returned (Value.bool t13)) w58)))) : Calls Try.prog 3 #[Value.agg #[Value.int IntKind.i64 c0, Value.int IntKind.i64 c1, Value.slice
    c2a c2n c2c, Value.int IntKind.i64 c3, Value.int IntKind.i64 c4, Value.int IntKind.i64 c5, Value.int IntKind.i64 c6], Value.agg #[Value.slice t0a t0n t0c, Value.int IntKind.i64
    t1, Value.int IntKind.i64 t2, Value.int IntKind.i64 t3, Value.int IntKind.i64 t4, Value.int IntKind.i64 t5, Value.int IntKind.i64 t6]] w R := calls_of_vcj (pure := true)
    (wrapAt := []) (muts := []) (esc := []) (joins := [(2000001, [(13, 4), (18, 4)]), (2000006, [(39, 4)]), (2000008, [(47, 4)]), (47, [(8, 35)]), (2000011, [(4, 4)]), (2000012,
    [(4, 4)])]) (args := [SV.pv (PV.agg [Lf.int IntKind.i64 c0, Lf.int IntKind.i64 c1, Lf.sl c2a c2n c2c, Lf.int IntKind.i64 c3, Lf.int IntKind.i64 c4, Lf.int IntKind.i64 c5,
    Lf.int IntKind.i64 c6]), SV.pv (PV.agg [Lf.sl t0a t0n t0c, Lf.int IntKind.i64 t1, Lf.int IntKind.i64 t2, Lf.int IntKind.i64 t3, Lf.int IntKind.i64 t4, Lf.int IntKind.i64 t5,
    Lf.int IntKind.i64 t6])]) (vs := [Value.agg #[Value.int IntKind.i64 c0, Value.int IntKind.i64 c1, Value.slice c2a c2n c2c, Value.int IntKind.i64 c3, Value.int IntKind.i64 c4,
    Value.int IntKind.i64 c5, Value.int IntKind.i64 c6], Value.agg #[Value.slice t0a t0n t0c, Value.int IntKind.i64 t1, Value.int IntKind.i64 t2, Value.int IntKind.i64 t3,
    Value.int IntKind.i64 t4, Value.int IntKind.i64 t5, Value.int IntKind.i64 t6]]) Try.func3 rfl rfl rfl (Eq.mp (by kernel_rfl) h) 
end Go.Proofs
end
section
/- BeatExacts. -/
namespace Go.Proofs.R03
open Go.Vc Go.RowKit Go.Proofs

set_option maxHeartbeats 2000000 in
theorem exacts_any (c : Clk) (t : Tr) {ra ta : Option Addr} {rc tc : Nat} {w : World} (hc : Cells w ra (rods c.rods)) (ht : Cells w ta (ints t.grow)) : Calls Try.prog 3 #[c.v ra rc, t.v ta tc] w (Pure w (.bool true)) := by
  refine vc3 _ _ _ _ _ _ _ _ _ _ _ _ _ _ _ _ _ _ w _ fun m1 h1 m2 h2 => ?_
  refine ⟨fun ls _ => match ls with | [_, .bool b] => b = false → c.rods.length ≤ 12 ∧ t.grow.length ≤ 12 | _ => False, ⟨fun _ w2 _ _ _ h => (by cases h), fun g w3 _ _ _ _ h => ⟨by omega, by simp at h; omega⟩⟩, ?_⟩
  rintro _ b w4 hb4 hF
  refine ⟨fun _ w5 hb5 _ => Pure.calls (known_any w5) fun w6 hb6 => ⟨true, rfl, .all hb6, fun w7 hb7 _ => ⟨rfl, hb7⟩⟩, fun hbf w8 hb8 hk8 => ?_⟩
  obtain ⟨hcl, htl⟩ := hF hbf
  have o8 := hk8.own
  refine (copied_any c (hc.keep hb8) (by omega)).mono fun e w9 he => ?_
  obtain ⟨a', n', rfl, hb9, R9⟩ := he
  refine ⟨_, _, _, _, _, _, _, _, _, rfl, .all hb9, fun m12 h12 w10 hb10 hk10 => ?_⟩
  have z9 := hb9.size
  have L9 := R9.lies (lo := w8.heap.size) (hi := w9.heap.size) fun h0 b o e => R9.in h0 b o e
  have hs : ∀ m14, w9.heap.size ≤ m14 → ∀ x ∈ [m14, m12, m2, m1], x < w8.heap.size ∨ w9.heap.size ≤ x := fun m14 h14 x hx => by
    have u1 := o8 m2 (by simp); have u2 := o8 m1 (by simp)
    simp at hx; omega
  have L10 := L9.out (Chg.kept hk10) fun x hx => hs m12 h12 x (by simp at hx ⊢; omega)
  refine Pure.calls (exact_any c t L10.cells (ht.keep hb10)) fun w11 hb11 => ⟨_, _, _, rfl, .all hb11, fun m14 h14 w12 hb12 hk12 => ?_⟩
  have z10 := hk10.size; have z11 := hb11.size; have z12 := hk12.size
  have hs := hs m14 (by omega)
  have L12 := (L10.below hb11).out (Chg.kept hk12) hs
  refine Pure.calls (rcheck_any c (hc.keep hb12)) fun w13 hb13 => ⟨_, rfl, .all hb13, fun ls _ => match ls with | [.bool b] => b = false | _ => False, fun w15 hb15 hk15 => ?_, ?_⟩
  · have L15 := (L12.below hb13).out (Chg.kept hk15) hs
    refine Pure.calls (same_any c c L15.cells (hc.keep hb15) (by omega)) fun w16 hb16 => ⟨_, rfl, .all hb16, fun h => absurd h (by simp), fun _ w18 hb18 hk18 => ?_⟩
    have L18 := (L15.below hb16).out (Chg.kept hk18) hs
    exact Pure.calls (check_any c L18.cells) fun w19 hb19 => ⟨_, rfl, .all hb19, fun w20 hb20 _ => by simp⟩
  rintro b5 w21 hb21 rfl
  refine ⟨fun h => absurd h (by decide), fun _ => ⟨fun ls _ => match ls with | [.bool b] => b = (decide (check c = 0) && !ofB c t) | _ => False, ⟨fun h0 w24 hb24 hk24 => ?_, fun h0 w27 hb27 _ => ?_⟩, ?_⟩⟩
  · exact Pure.calls (rof_any c t (hc.keep hb24) (ht.keep hb24) (by omega)) fun w25 hb25 => ⟨_, rfl, .all hb25, fun w26 hb26 _ => by rw [decide_eq_true h0]; rfl⟩
  · rw [decide_eq_false h0]; rfl
  rintro b7 w28 hb28 rfl
  refine ⟨fun ls _ => match ls with | [.int _ x] => x = (exactR c t).2 | _ => False, ⟨fun h w30 _ _ => ?_, fun h w31 _ _ => ?_⟩, ?_⟩
  · rw [Bool.and_eq_true, decide_eq_true_eq] at h
    show 2 = (exactR c t).2
    unfold exactR; rw [if_pos h.1, if_neg (by simpa using h.2)]
  · show check c = (exactR c t).2
    unfold exactR
    split
    · rename_i h0
      rw [h0] at h
      rw [if_pos (by simpa using h)]; exact h0
    · rfl
  rintro x13 w32 hb32 rfl
  refine ⟨fun hne => ?_, fun h0 => ?_⟩
  · have hz : (exactR c t).1 = (0, 0) := by
      unfold exactR at hne ⊢
      split
      · rename_i h0
        rw [if_pos h0] at hne
        split
        · rename_i h2; rw [if_pos h2] at hne; exact absurd rfl hne
        · rfl
      · rfl
    refine ⟨fun ls _ => match ls with | [.bool b] => b = true | _ => False, ⟨fun _ w34 hb34 hk34 => ?_, fun h => absurd rfl h⟩, ?_⟩
    · rw [hz]
      refine eql_ratio ⟨_, rfl, .all (.refl _ _), fun _ w36 hb36 _ => Pure.calls (known_any w36) fun w37 hb37 => ⟨true, rfl, .all hb37, fun w38 _ _ => rfl⟩, fun h => absurd h (by decide)⟩
    · rintro b10 w41 hb41 rfl w42 hb42 _
      exact ⟨rfl, hb42⟩
  · have hck : check c = 0 := by
      unfold exactR at h0
      split at h0
      · assumption
      · rename_i h; exact absurd h0 h
    have hof : ofB c t = true := by
      unfold exactR at h0
      rw [if_pos hck] at h0
      split at h0
      · assumption
      · cases h0
    have hr : exactR c t = (lowest (partsR c t) (10000 * lenC c.rods), 0) := by
      unfold exactR; rw [if_pos hck, if_pos hof, rate_exact]
    have hok : OkK (exactK c t) := exactK_ok (newK_ok (open_limits hck)) (ofB_in.1 hof)
    have hbd := rateK_bd hok
    rw [rate_exact] at hbd
    simp only [Bd] at hbd
    have hlen : 100 ≤ lenC c.rods ∧ lenC c.rods ≤ 100000 := hok.len
    refine ⟨fun ls _ => match ls with | [.bool b] => b = true | _ => False, ⟨fun _ w44 hb44 hk44 => ?_, fun h => absurd h0 h⟩, ?_⟩
    · refine Pure.calls (rparts_any c t (hc.keep hb44) (ht.keep hb44) hok) fun w45 hb45 => ⟨_, rfl, .all hb45, fun w46 hb46 _ => ?_⟩
      refine Pure.calls (rlength_any c (hc.keep hb46) (by omega) hok.lens) fun w47 hb47 => ⟨_, rfl, .all hb47, by omega, fun w48 hb48 _ => ?_⟩
      refine Pure.calls (rlowest_any (a := partsR c t) (b := 10000 * lenC c.rods) (by omega) (by omega) w48) fun w49 hb49 => ⟨_, _, rfl, .all hb49, fun w50 hb50 _ => ?_⟩
      rw [hr]
      refine eql_ratio ⟨_, rfl, .all (.refl _ _), fun _ w52 hb52 _ => Pure.calls (known_any w52) fun w53 hb53 => ⟨true, rfl, .all hb53, fun w54 _ _ => rfl⟩, fun h => absurd h (by simp)⟩
    · rintro b13 w57 hb57 rfl w58 hb58 _
      exact ⟨rfl, hb58⟩
end Go.Proofs.R03
end
section
/- The laws' arguments, opened. -/
namespace Go.Proofs.R03
open Go.Vc Go.RowKit Go.Proofs

theorem Try.own : ownKnob Try.prog.godebug = none := by kernel_rfl
theorem Try.laidOut : laidOutB Try.prog = true := by kernel_rfl

abbrev Li : Leaf := .int .i64
abbrev Lrod : Leaf := .sl [Li, Li, Li, .bool]
theorem leaves_clk : leaves Try.prog 5 27 = some [Li, Li, Lrod, Li, Li, Li, Li] := by kernel_rfl
theorem leaves_tr : leaves Try.prog 5 30 = some [.sl [Li], Li, Li, Li, Li, Li, Li] := by kernel_rfl
theorem agg_clk : isAggB Try.prog 27 = true := by kernel_rfl
theorem agg_tr : isAggB Try.prog 30 = true := by kernel_rfl

def In64 (x : Int) : Prop := rng .i64 x
section
variable {w : World}
theorem take_int {ls : List Leaf} {cs : List Value} (h : LeavesAre w (Li :: ls) cs) : ∃ x r, cs = I x :: r ∧ In64 x ∧ LeavesAre w ls r := by
  obtain ⟨v, r, rfl, h1, h2⟩ := h.cons'
  obtain ⟨x, rfl, hx⟩ := h1.int'
  exact ⟨x, r, rfl, hx, h2⟩
theorem take_rods {v : Value} (h : LeafIs w Lrod v) : ∃ a c, ∃ l : List Rod, v = .slice a l.length c ∧ l.length ≤ maxLen ∧ Cells w a (rods l) := by
  obtain ⟨a, c, l, rfl, h1, h2, h3, h4⟩ := h.sl' (fun r : Rod => rodC r) (fun _ => True) fun x hx => by
    obtain ⟨x0, _, rfl, g0, hx⟩ := take_int hx
    obtain ⟨x1, _, rfl, g1, hx⟩ := take_int hx
    obtain ⟨x2, _, rfl, g2, hx⟩ := take_int hx
    obtain ⟨v, r, rfl, g3, g4⟩ := hx.cons'
    obtain ⟨b, rfl⟩ := g3.bool'
    rw [g4.nil']
    exact ⟨⟨x0, x1, x2, b⟩, rfl, trivial⟩
  exact ⟨a, c, l, rfl, Nat.le_trans h1 h2, h3⟩
theorem ints_flat (l : List Int) : (l.flatMap fun x => [I x]) = ints l := by
  induction l with
  | nil => rfl
  | cons b l ih => rw [List.flatMap_cons, ih]; rfl
theorem take_ints {v : Value} (h : LeafIs w (.sl [Li]) v) : ∃ a c, ∃ l : List Int, v = .slice a l.length c ∧ l.length ≤ maxLen ∧ Cells w a (ints l) := by
  obtain ⟨a, c, l, rfl, h1, h2, h3, _⟩ := h.sl' (fun b : Int => [I b]) (fun _ => True) fun x hx => by
    obtain ⟨x0, r, rfl, g0, hx⟩ := take_int hx
    rw [hx.nil']
    exact ⟨x0, rfl, trivial⟩
  refine ⟨a, c, l, rfl, Nat.le_trans h1 h2, ?_⟩
  rw [← ints_flat]
  exact h3

variable {H : Type} {enc : TypeId × Value → H} {base b0 : Nat} {held : Bool} {spare : Nat → Bool} {reach : Reach}
set_option maxRecDepth 100000 in
theorem open_clk {v : Value} {d : DataW H} {ps : List MemPlace} (hv : Value.okWide Try.prog w reach b0 27 v) (hd : DataW.Trod enc Try.prog w base spare held 27 v d ps) :
    ∃ (c : Clk) (a : Option Addr) (n : Nat), v = c.v a n ∧ c.rods.length ≤ maxLen ∧ Cells w a (rods c.rods) := by
  obtain ⟨cs, rfl, h⟩ := open_agg agg_clk leaves_clk hv hd
  obtain ⟨x0, _, rfl, h0, h⟩ := take_int h
  obtain ⟨x1, _, rfl, h1, h⟩ := take_int h
  obtain ⟨u, r1, rfl, gu, g⟩ := h.cons'
  obtain ⟨a, n, l, rfl, hl, hr⟩ := take_rods gu
  obtain ⟨x2, _, rfl, h2, h⟩ := take_int g
  obtain ⟨x3, _, rfl, h3, h⟩ := take_int h
  obtain ⟨x4, _, rfl, h4, h⟩ := take_int h
  obtain ⟨x5, _, rfl, h5, h⟩ := take_int h
  rw [h.nil']
  exact ⟨⟨x0, x1, l, (x2, x3), (x4, x5)⟩, a, n, rfl, hl, hr⟩
set_option maxRecDepth 100000 in
theorem open_tr {v : Value} {d : DataW H} {ps : List MemPlace} (hv : Value.okWide Try.prog w reach b0 30 v) (hd : DataW.Trod enc Try.prog w base spare held 30 v d ps) :
    ∃ (t : Tr) (a : Option Addr) (n : Nat), v = t.v a n ∧ t.grow.length ≤ maxLen ∧ Cells w a (ints t.grow) := by
  obtain ⟨cs, rfl, h⟩ := open_agg agg_tr leaves_tr hv hd
  obtain ⟨u, r1, rfl, gu, g⟩ := h.cons'
  obtain ⟨a, n, l, rfl, hl, hr⟩ := take_ints gu
  obtain ⟨x0, _, rfl, h0, h⟩ := take_int g
  obtain ⟨x1, _, rfl, h1, h⟩ := take_int h
  obtain ⟨x2, _, rfl, h2, h⟩ := take_int h
  obtain ⟨x3, _, rfl, h3, h⟩ := take_int h
  obtain ⟨x4, _, rfl, h4, h⟩ := take_int h
  obtain ⟨x5, _, rfl, h5, h⟩ := take_int h
  rw [h.nil']
  exact ⟨⟨l, x0, x1, x2, x3, x4, x5⟩, a, n, rfl, hl, hr⟩
end
end Go.Proofs.R03
end
section
/- The conditions of the functions, printed by program; each is what the generator reckons (kernel_rfl). -/
namespace Go.Proofs
open Go.Vc
set_option maxRecDepth 100000 in
set_option maxHeartbeats 2000000 in
theorem vc24 (b0 : Int) (b1 : Int) (b2 : Int) (b3 : Int) (b4 : Int) (b5 : Int) (b6 : Int) (b7 : Int) (w : World) (R : Ending → World → Prop) (h : ∀ (m1 : Nat), w.heap.size ≤ m1 → ∀
    (w1 : World), RowKit.Below w.heap.size w w1 → Kept [m1] w w1 → Calls Try.prog 46 #[Value.agg #[Value.int IntKind.i64 b0, Value.int IntKind.i64 b1], Value.int IntKind.i64
    (-1000), Value.int IntKind.i64 1000] w1 fun (e1 : Ending) (w2 : World) => ∃ (t1 : Bool), e1 = Ending.returned (Value.bool t1) ∧ KeepX true w.heap.size [m1] (fun _ => False) w1
    w2 ∧ (t1 = true → ∀ (w3 : World), RowKit.Below w.heap.size w w3 → Kept [m1] w2 w3 → Calls Try.prog 46 #[Value.agg #[Value.int IntKind.i64 b2, Value.int IntKind.i64 b3],
    Value.int IntKind.i64 (-1000), Value.int IntKind.i64 1000] w3 fun (e2 : Ending) (w4 : World) => ∃ (t2 : Bool), e2 = Ending.returned (Value.bool t2) ∧ KeepX true w.heap.size
    [m1] (fun _ => False) w3 w4 ∧ (t2 = true → ∀ (w5 : World), RowKit.Below w.heap.size w w5 → Kept [m1] w4 w5 → Calls Try.prog 46 #[Value.agg #[Value.int IntKind.i64 b4, Value.int
    IntKind.i64 b5], Value.int IntKind.i64 0, Value.int IntKind.i64 600] w5 fun (e3 : Ending) (w6 : World) => ∃ (t3 : Bool), e3 = Ending.returned (Value.bool t3) ∧ KeepX true
    w.heap.size [m1] (fun _ => False) w5 w6 ∧ (t3 = true → ∀ (w7 : World), RowKit.Below w.heap.size w w7 → Kept [m1] w6 w7 → Calls Try.prog 46 #[Value.agg #[Value.int IntKind.i64
    b6, Value.int IntKind.i64 b7], Value.int IntKind.i64 (-100), Value.int IntKind.i64 100] w7 fun (e4 : Ending) (w8 : World) => ∃ (t4 : Bool), e4 = Ending.returned (Value.bool t4)
    ∧ KeepX true w.heap.size [m1] (fun _ => False) w7 w8 ∧ ∀ (w9 : World), RowKit.Below w.heap.size w w9 → Kept [m1] w8 w9 → R (Ending.returned (Value.bool t4)) w9) ∧ (t3 = false →
    ∀ (w10 : World), RowKit.Below w.heap.size w w10 → Kept [m1] w6 w10 → R (Ending.returned (Value.bool false)) w10)) ∧ (t2 = false → ∀ (w11 : World), RowKit.Below w.heap.size w
    w11 → Kept [m1] w4 w11 → R (Ending.returned (Value.bool false)) w11)) ∧ (t1 = false → ∀ (w12 : World), RowKit.Below w.heap.size w w12 → Kept [m1] w2 w12 → R (Ending.returned
    (Value.bool false)) w12)) : Calls Try.prog 24 #[Value.agg #[Value.int IntKind.i64 b0, Value.int IntKind.i64 b1, Value.int IntKind.i64 b2, Value.int IntKind.i64 b3, Value.int
    IntKind.i64 b4, Value.int IntKind.i64 b5, Value.int IntKind.i64 b6, Value.int IntKind.i64 b7]] w R := calls_of_vc (pure := true) (wrapAt := []) (muts := []) (esc := []) (args
    := [SV.pv (PV.agg [Lf.int IntKind.i64 b0, Lf.int IntKind.i64 b1, Lf.int IntKind.i64 b2, Lf.int IntKind.i64 b3, Lf.int IntKind.i64 b4, Lf.int IntKind.i64 b5, Lf.int IntKind.i64
    b6, Lf.int IntKind.i64 b7])]) (vs := [Value.agg #[Value.int IntKind.i64 b0, Value.int IntKind.i64 b1, Value.int IntKind.i64 b2, Value.int IntKind.i64 b3, Value.int IntKind.i64
    b4, Value.int IntKind.i64 b5, Value.int IntKind.i64 b6, Value.int IntKind.i64 b7]]) Try.func24 rfl rfl rfl (Eq.mp (by kernel_rfl) h) 
set_option maxRecDepth 100000 in
set_option maxHeartbeats 2000000 in
theorem vc69 (s0 : Int) (s1 : Int) (w : World) (R : Ending → World → Prop) (h : ∀ (m1 : Nat), w.heap.size ≤ m1 → ∀ (m2 : Nat), w.heap.size ≤ m2 → ∀ (w1 : World), RowKit.Below
    w.heap.size w w1 → Kept [m2, m1] w w1 → R (Ending.returned (Value.agg #[Value.int IntKind.i64 s0, Value.int IntKind.i64 s1])) w1) : Calls Try.prog 69 #[Value.agg #[Value.int
    IntKind.i64 s0, Value.int IntKind.i64 s1]] w R := calls_of_vc (pure := true) (wrapAt := []) (muts := []) (esc := []) (args := [SV.pv (PV.agg [Lf.int IntKind.i64 s0, Lf.int
    IntKind.i64 s1])]) (vs := [Value.agg #[Value.int IntKind.i64 s0, Value.int IntKind.i64 s1]]) Try.func69 rfl rfl rfl (Eq.mp (by kernel_rfl) h) 
set_option maxRecDepth 100000 in
set_option maxHeartbeats 2000000 in
theorem vc27 (num : Int) (den : Int) (w : World) (R : Ending → World → Prop) (h : (den ≠ 0 ∧ -9223372036854775808 ≤ num.tdiv den ∧ num.tdiv den ≤ 9223372036854775807) ∧
    (-9223372036854775808 ≤ num.tdiv den * den ∧ num.tdiv den * den ≤ 9223372036854775807) ∧ (num < num.tdiv den * den → (-9223372036854775808 ≤ num.tdiv den - 1 ∧ num.tdiv den -
    (1 : Int) ≤ 9223372036854775807) ∧ ∀ (w1 : World), RowKit.Below w.heap.size w w1 → Kept [] w w1 → R (Ending.returned (Value.int IntKind.i64 (num.tdiv den - 1))) w1) ∧ (num.tdiv
    den * den ≤ num → ∀ (w2 : World), RowKit.Below w.heap.size w w2 → Kept [] w w2 → R (Ending.returned (Value.int IntKind.i64 (num.tdiv den))) w2)) : Calls Try.prog 27 #[Value.int
    IntKind.i64 num, Value.int IntKind.i64 den] w R := calls_of_vc (pure := true) (wrapAt := []) (muts := []) (esc := []) (args := [SV.pv (PV.one (Lf.int IntKind.i64 num)), SV.pv
    (PV.one (Lf.int IntKind.i64 den))]) (vs := [Value.int IntKind.i64 num, Value.int IntKind.i64 den]) Try.func27 rfl rfl rfl (Eq.mp (by kernel_rfl) h) 
set_option maxRecDepth 100000 in
set_option maxHeartbeats 2000000 in
theorem vc28 (num : Int) (den : Int) (w : World) (R : Ending → World → Prop) (h : ((-9223372036854775808 : Int) ≤ 0 - num ∧ 0 - num ≤ 9223372036854775807) ∧ ∀ (w1 : World),
    RowKit.Below w.heap.size w w1 → Kept [] w w1 → Calls Try.prog 27 #[Value.int IntKind.i64 (0 - num), Value.int IntKind.i64 den] w1 fun (e1 : Ending) (w2 : World) => ∃ (x1 :
    Int), e1 = Ending.returned (Value.int IntKind.i64 x1) ∧ KeepX true w.heap.size [] (fun _ => False) w1 w2 ∧ ((-9223372036854775808 : Int) ≤ 0 - x1 ∧ 0 - x1 ≤
    9223372036854775807) ∧ ∀ (w3 : World), RowKit.Below w.heap.size w w3 → Kept [] w2 w3 → R (Ending.returned (Value.int IntKind.i64 (0 - x1))) w3) : Calls Try.prog 28 #[Value.int
    IntKind.i64 num, Value.int IntKind.i64 den] w R := calls_of_vc (pure := true) (wrapAt := []) (muts := []) (esc := []) (args := [SV.pv (PV.one (Lf.int IntKind.i64 num)), SV.pv
    (PV.one (Lf.int IntKind.i64 den))]) (vs := [Value.int IntKind.i64 num, Value.int IntKind.i64 den]) Try.func28 rfl rfl rfl (Eq.mp (by kernel_rfl) h) 
end Go.Proofs
end
section
/- The reference's Bounds, Down, Up, ends. -/
namespace Go.Proofs.R03
open Go.Vc Go.RowKit Go.Proofs

theorem rbounds_any (b : Bn) (w : World) : Calls Try.prog 24 #[b.v] w (Pure w (.bool (decide (OkB b)))) := by
  refine vc24 _ _ _ _ _ _ _ _ w _ fun m1 h1 w1 hb1 _ => ?_
  have no : ¬OkB b → decide (OkB b) = false := fun h => decide_eq_false h
  refine Pure.calls (rin_any b.heat (-1000) 1000 w1) fun w2 hb2 => ⟨_, rfl, .all hb2, fun k1 w3 hb3 _ => ?_, fun k w12 hb12 _ => ⟨by rw [no fun g => by have := g.1; simp at k; omega], hb12⟩⟩
  refine Pure.calls (rin_any b.press (-1000) 1000 w3) fun w4 hb4 => ⟨_, rfl, .all hb4, fun k2 w5 hb5 _ => ?_, fun k w12 hb12 _ => ⟨by rw [no fun g => by have := g.2.1; simp at k; omega], hb12⟩⟩
  refine Pure.calls (rin_any b.arc 0 600 w5) fun w6 hb6 => ⟨_, rfl, .all hb6, fun k3 w7 hb7 _ => ?_, fun k w12 hb12 _ => ⟨by rw [no fun g => by have := g.2.2.1; simp at k; omega], hb12⟩⟩
  refine Pure.calls (rin_any b.force (-100) 100 w7) fun w8 hb8 => ⟨_, rfl, .all hb8, fun w9 hb9 _ => ⟨?_, hb9⟩⟩
  congr 2
  rw [Bool.eq_iff_iff, decide_eq_true_iff, decide_eq_true_iff]
  exact ⟨fun h => ⟨of_decide_eq_true k1, of_decide_eq_true k2, of_decide_eq_true k3, h⟩, fun h => h.2.2.2⟩
theorem rends_any (s : Sp) (w : World) : Calls Try.prog 69 #[spv s] w (Pure w (spv s)) := vc69 _ _ w _ fun _ _ _ _ _ hb _ => ⟨rfl, hb⟩
theorem rdown_any {a b : Int} (hb : 0 < b) (h : -9000000000000000000 ≤ a ∧ a ≤ 9000000000000000000) (w : World) : Calls Try.prog 27 #[I a, I b] w (Pure w (I (a / b))) := by
  have h1 := tdiv_floor (a := a) hb
  have h2 := ediv_bd hb h
  have he := Int.mul_tdiv_add_tmod a b
  rw [Int.mul_comm] at he
  have hq : -9000000000000000000 ≤ a.tdiv b ∧ a.tdiv b ≤ 9000000000000000001 := by
    by_cases hm : a.tmod b < 0
    · have := h1.1 hm; omega
    · have := h1.2 (by omega); omega
  have hm : -9000000000000000000 ≤ a.tmod b ∧ a.tmod b ≤ 9000000000000000000 := by
    have : (a.tmod b).natAbs ≤ a.natAbs := by rw [Int.natAbs_tmod]; exact Nat.mod_le _ _
    omega
  have hp : -9000000000000000000 ≤ a.tdiv b * b ∧ a.tdiv b * b ≤ 9000000000000000000 := by
    have : (a.tdiv b * b).natAbs ≤ a.natAbs := by
      rw [Int.natAbs_mul, Int.natAbs_tdiv]
      show a.natAbs / b.natAbs * b.natAbs ≤ a.natAbs
      exact Nat.div_mul_le_self _ _
    omega
  refine vc27 _ _ w _ ⟨⟨by omega, by omega, by omega⟩, by omega, fun hl => ⟨by omega, fun w1 hb1 _ => ⟨?_, hb1⟩⟩, fun hl w2 hb2 _ => ⟨?_, hb2⟩⟩
  · rw [h1.1 (by omega)]
  · rw [h1.2 (by omega)]
theorem rup_any {a b : Int} (hb : 0 < b) (h : -9000000000000000000 ≤ a ∧ a ≤ 9000000000000000000) (w : World) : Calls Try.prog 28 #[I a, I b] w (Pure w (I (-(-a / b)))) := by
  have h2 := ediv_bd (a := -a) (A := 9000000000000000000) hb (by omega)
  refine vc28 _ _ w _ ⟨by omega, fun w1 hb1 _ => ?_⟩
  rw [show 0 - a = -a by omega]
  refine Pure.calls (rdown_any (a := -a) hb (by omega) w1) fun w2 hb2 => ⟨_, rfl, .all hb2, by omega, fun w3 hb3 _ => ⟨?_, hb3⟩⟩
  rw [Int.zero_sub]
end Go.Proofs.R03
end
section
/- The conditions of the functions, printed by program; each is what the generator reckons (kernel_rfl). -/
namespace Go.Proofs
open Go.Vc
set_option maxRecDepth 100000 in
set_option maxHeartbeats 2000000 in
theorem vc33 (m0a : Option Addr) (m0n : Nat) (m0c : Nat) (m1 : Int) (m2 : Int) (m3 : Int) (m4 : Int) (m5 : Int) (m6 : Int) (w : World) (R : Ending → World → Prop) (h : ∀ (m1_1 :
    Nat), w.heap.size ≤ m1_1 → ∀ (m2_1 : Nat), w.heap.size ≤ m2_1 → (3 : Int) ≠ 0 ∧ ((0 : Int) ≤ 1 + m1.tmod 3 ∧ 1 + m1.tmod (3 : Int) ≤ 255) ∧ ((-9223372036854775808 : Int) ≤ 1 +
    m1.tmod 3 ∧ 1 + m1.tmod (3 : Int) ≤ 9223372036854775807) ∧ (-9223372036854775808 ≤ m2 ∧ m2 ≤ 9223372036854775807) ∧ ∀ (w1 : World), RowKit.Below w.heap.size w w1 → Kept [m2_1,
    m1_1] w w1 → ∀ (m3_1 : Nat) (w2 : World), m3_1 = w1.heap.size → w2 = w1.alloc (Obj.cells #[Value.int IntKind.i64 9000, Value.int IntKind.i64 1100, Value.int IntKind.i64 1150,
    Value.bool false] 80) → ∀ (m4_1 : Nat), w2.heap.size ≤ m4_1 → ∃ (F1 : List Lf → World → Prop), ∃ (F2 : List Lf → Nat), (∀ (w4 : World), RowKit.Below w.heap.size w w4 → Kept
    [m4_1, m2_1, m1_1] w2 w4 → F1 [Lf.int IntKind.i64 8000, Lf.int IntKind.i64 0, Lf.int IntKind.i64 (1 + m1.tmod 3), Lf.int IntKind.i64 m2, Lf.sl (some
    { block := m3_1, off := 0 }) 1 1, Lf.int IntKind.i64 0, Lf.int IntKind.i64 0, Lf.int IntKind.i64 0, Lf.int IntKind.i64 0] w4) ∧ ∀ (x1 x2 x3 x4 : Int) (a1 : Option Addr) (m5_1
    m6_1 : Nat) (x5 x6 x7 x8 : Int) (w5 : World), RowKit.Below w.heap.size w w5 → F1 [Lf.int IntKind.i64 x1, Lf.int IntKind.i64 x2, Lf.int IntKind.i64 x3, Lf.int IntKind.i64 x4,
    Lf.sl a1 m5_1 m6_1, Lf.int IntKind.i64 x5, Lf.int IntKind.i64 x6, Lf.int IntKind.i64 x7, Lf.int IntKind.i64 x8] w5 → ∃ (F3 : List Lf → World → Prop), ((x2 < (↑m0n : Int) → ∀
    (w7 : World), RowKit.Below w.heap.size w w7 → Kept [m4_1, m2_1, m1_1] w5 w7 → w7.heap[m1_1]? = some (Obj.cells #[Value.slice m0a m0n m0c, Value.int IntKind.u8 m1, Value.int
    IntKind.i16 m2, Value.int IntKind.u8 m3, Value.int IntKind.u8 m4, Value.int IntKind.u8 m5, Value.int IntKind.u8 m6] 68) → F3 [Lf.bool (decide (x2 < 3)), Lf.int IntKind.i64 x3,
    Lf.int IntKind.i64 x4, Lf.sl a1 m5_1 m6_1, Lf.int IntKind.i64 x5, Lf.int IntKind.i64 x6, Lf.int IntKind.i64 x7, Lf.int IntKind.i64 x8] w7) ∧ ((↑m0n : Int) ≤ x2 → ∀ (w8 :
    World), RowKit.Below w.heap.size w w8 → Kept [m4_1, m2_1, m1_1] w5 w8 → w8.heap[m1_1]? = some (Obj.cells #[Value.slice m0a m0n m0c, Value.int IntKind.u8 m1, Value.int
    IntKind.i16 m2, Value.int IntKind.u8 m3, Value.int IntKind.u8 m4, Value.int IntKind.u8 m5, Value.int IntKind.u8 m6] 68) → F3 [Lf.bool false, Lf.int IntKind.i64 x3, Lf.int
    IntKind.i64 x4, Lf.sl a1 m5_1 m6_1, Lf.int IntKind.i64 x5, Lf.int IntKind.i64 x6, Lf.int IntKind.i64 x7, Lf.int IntKind.i64 x8] w8)) ∧ ∀ (t1 : Bool) (x10 x11 : Int) (a2 :
    Option Addr) (m11 m12 : Nat) (x12 x13 x14 x15 : Int) (w9 : World), RowKit.Below w.heap.size w w9 → F3 [Lf.bool t1, Lf.int IntKind.i64 x10, Lf.int IntKind.i64 x11, Lf.sl a2 m11
    m12, Lf.int IntKind.i64 x12, Lf.int IntKind.i64 x13, Lf.int IntKind.i64 x14, Lf.int IntKind.i64 x15] w9 → (t1 = true → ∃ (m13 : Nat), ∃ (m14 : Nat), m0a = some
    { block := m13, off := m14 } ∧ (0 ≤ x2 ∧ x2 < (↑m0n : Int)) ∧ ∃ (x16 : Int), ∃ (x17 : Int), ∃ (x18 : Int), ∃ (t2 : Bool), w9.cell? { block := m13, off := m14 + x2.toNat * 4 } =
    some (Value.int IntKind.u16 x16) ∧ w9.cell? { block := m13, off := m14 + x2.toNat * 4 + 1 } = some (Value.int IntKind.u8 x17) ∧ w9.cell?
    { block := m13, off := m14 + x2.toNat * 4 + 1 + 1 } = some (Value.int IntKind.u8 x18) ∧ w9.cell? { block := m13, off := m14 + x2.toNat * 4 + 1 + 1 + 1 } = some (Value.bool t2)
    ∧ (m13 < w.heap.size ∨ m13 ≠ m4_1 ∧ m13 ≠ m2_1 ∧ m13 ≠ m1_1) ∧ ∀ (m15 : Nat), w9.heap.size ≤ m15 → (-9223372036854775808 ≤ x16 ∧ x16 ≤ 9223372036854775807) ∧ (4000 : Int) ≠ 0 ∧
    ((-9223372036854775808 : Int) ≤ 1 + x16.tmod 4000 ∧ 1 + x16.tmod (4000 : Int) ≤ 9223372036854775807) ∧ (-9223372036854775808 ≤ x17 ∧ x17 ≤ 9223372036854775807) ∧
    ((-9223372036854775808 : Int) ≤ 20 * x17 ∧ 20 * x17 ≤ 9223372036854775807) ∧ ∀ (m16 : Nat), w9.heap.size ≤ m16 → (-9223372036854775808 ≤ x18 ∧ x18 ≤ 9223372036854775807) ∧
    ((-9223372036854775808 : Int) ≤ 3 * x18 ∧ 3 * x18 ≤ 9223372036854775807) ∧ ((-9223372036854775808 : Int) ≤ 20 * x17 + 3 * x18 ∧ 20 * x17 + 3 * x18 ≤ 9223372036854775807) ∧ ∃
    (F4 : List Lf → World → Prop), ((t2 = true → ∀ (w11 : World), RowKit.Below w.heap.size w w11 → Kept [m16, m15, m4_1, m2_1, m1_1] w9 w11 → w11.heap[m15]? = some (Obj.cells
    #[Value.int IntKind.u16 x16, Value.int IntKind.u8 x17, Value.int IntKind.u8 x18, Value.bool t2] 128) → w11.heap[m16]? = some (Obj.cells #[Value.int IntKind.i64 (1 + x16.tmod
    4000), Value.int IntKind.i64 (20 * x17), Value.int IntKind.i64 (20 * x17 + 3 * x18), Value.bool t2] 80) → F4 [Lf.bool (decide (x1 < 1 + x16.tmod 4000)), Lf.int IntKind.i64 x10,
    Lf.int IntKind.i64 x11, Lf.sl a2 m11 m12, Lf.int IntKind.i64 x12, Lf.int IntKind.i64 x13, Lf.int IntKind.i64 x14, Lf.int IntKind.i64 x15, Lf.int IntKind.i64 (1 + x16.tmod
    4000), Lf.int IntKind.i64 (20 * x17), Lf.int IntKind.i64 (20 * x17 + 3 * x18), Lf.bool t2] w11) ∧ (t2 = false → ∀ (w12 : World), RowKit.Below w.heap.size w w12 → Kept [m16,
    m15, m4_1, m2_1, m1_1] w9 w12 → w12.heap[m15]? = some (Obj.cells #[Value.int IntKind.u16 x16, Value.int IntKind.u8 x17, Value.int IntKind.u8 x18, Value.bool t2] 128) → F4
    [Lf.bool false, Lf.int IntKind.i64 x10, Lf.int IntKind.i64 x11, Lf.sl a2 m11 m12, Lf.int IntKind.i64 x12, Lf.int IntKind.i64 x13, Lf.int IntKind.i64 x14, Lf.int IntKind.i64
    x15, Lf.int IntKind.i64 (1 + x16.tmod 4000), Lf.int IntKind.i64 (20 * x17), Lf.int IntKind.i64 (20 * x17 + 3 * x18), Lf.bool t2] w12)) ∧ ∀ (t3 : Bool) (x20 x21 : Int) (a3 :
    Option Addr) (m22 m23 : Nat) (x22 x23 x24 x25 x26 x27 x28 : Int) (t4 : Bool) (w13 : World), RowKit.Below w.heap.size w w13 → F4 [Lf.bool t3, Lf.int IntKind.i64 x20, Lf.int
    IntKind.i64 x21, Lf.sl a3 m22 m23, Lf.int IntKind.i64 x22, Lf.int IntKind.i64 x23, Lf.int IntKind.i64 x24, Lf.int IntKind.i64 x25, Lf.int IntKind.i64 x26, Lf.int IntKind.i64
    x27, Lf.int IntKind.i64 x28, Lf.bool t4] w13 → ∃ (F5 : List Lf → World → Prop), ((t3 = true → ∀ (w15 : World), RowKit.Below w.heap.size w w15 → Kept [m16, m15, m4_1, m2_1,
    m1_1] w13 w15 → w15.heap[m16]? = some (Obj.cells #[Value.int IntKind.i64 x26, Value.int IntKind.i64 x27, Value.int IntKind.i64 x28, Value.bool false] 80) → F5 [Lf.int
    IntKind.i64 x20, Lf.int IntKind.i64 x21, Lf.sl a3 m22 m23, Lf.int IntKind.i64 x22, Lf.int IntKind.i64 x23, Lf.int IntKind.i64 x24, Lf.int IntKind.i64 x25, Lf.int IntKind.i64
    x26, Lf.int IntKind.i64 x27, Lf.int IntKind.i64 x28, Lf.bool false] w15) ∧ (t3 = false → ∀ (w16 : World), RowKit.Below w.heap.size w w16 → Kept [m16, m15, m4_1, m2_1, m1_1] w13
    w16 → F5 [Lf.int IntKind.i64 x20, Lf.int IntKind.i64 x21, Lf.sl a3 m22 m23, Lf.int IntKind.i64 x22, Lf.int IntKind.i64 x23, Lf.int IntKind.i64 x24, Lf.int IntKind.i64 x25,
    Lf.int IntKind.i64 x26, Lf.int IntKind.i64 x27, Lf.int IntKind.i64 x28, Lf.bool t4] w16)) ∧ ∀ (x29 x30 : Int) (a4 : Option Addr) (m25 m26 : Nat) (x31 x32 x33 x34 x35 x36 x37 :
    Int) (t5 : Bool) (w17 : World), RowKit.Below w.heap.size w w17 → F5 [Lf.int IntKind.i64 x29, Lf.int IntKind.i64 x30, Lf.sl a4 m25 m26, Lf.int IntKind.i64 x31, Lf.int
    IntKind.i64 x32, Lf.int IntKind.i64 x33, Lf.int IntKind.i64 x34, Lf.int IntKind.i64 x35, Lf.int IntKind.i64 x36, Lf.int IntKind.i64 x37, Lf.bool t5] w17 → ∃ (F6 : List Lf →
    World → Prop), ((t5 = true → (-9223372036854775808 ≤ x1 - x35 ∧ x1 - x35 ≤ 9223372036854775807) ∧ ∀ (w19 : World), RowKit.Below w.heap.size w w19 → Kept [m16, m15, m4_1, m2_1,
    m1_1] w17 w19 → w19.heap[m16]? = some (Obj.cells #[Value.int IntKind.i64 x35, Value.int IntKind.i64 x36, Value.int IntKind.i64 x37, Value.bool t5] 80) → F6 [Lf.int IntKind.i64
    (x1 - x35), Lf.int IntKind.i64 x29, Lf.int IntKind.i64 x30, Lf.sl a4 m25 m26, Lf.int IntKind.i64 x31, Lf.int IntKind.i64 x32, Lf.int IntKind.i64 x33, Lf.int IntKind.i64 x34,
    Lf.int IntKind.i64 x35, Lf.int IntKind.i64 x36, Lf.int IntKind.i64 x37, Lf.bool t5] w19) ∧ (t5 = false → ∀ (w20 : World), RowKit.Below w.heap.size w w20 → Kept [m16, m15, m4_1,
    m2_1, m1_1] w17 w20 → F6 [Lf.int IntKind.i64 x1, Lf.int IntKind.i64 x29, Lf.int IntKind.i64 x30, Lf.sl a4 m25 m26, Lf.int IntKind.i64 x31, Lf.int IntKind.i64 x32, Lf.int
    IntKind.i64 x33, Lf.int IntKind.i64 x34, Lf.int IntKind.i64 x35, Lf.int IntKind.i64 x36, Lf.int IntKind.i64 x37, Lf.bool t5] w20)) ∧ ∀ (x38 x39 x40 : Int) (a5 : Option Addr)
    (m28 m29 : Nat) (x41 x42 x43 x44 x45 x46 x47 : Int) (t6 : Bool) (w21 : World), RowKit.Below w.heap.size w w21 → F6 [Lf.int IntKind.i64 x38, Lf.int IntKind.i64 x39, Lf.int
    IntKind.i64 x40, Lf.sl a5 m28 m29, Lf.int IntKind.i64 x41, Lf.int IntKind.i64 x42, Lf.int IntKind.i64 x43, Lf.int IntKind.i64 x44, Lf.int IntKind.i64 x45, Lf.int IntKind.i64
    x46, Lf.int IntKind.i64 x47, Lf.bool t6] w21 → ∀ (m30 : Nat), w21.heap.size ≤ m30 → ∀ (w22 : World), RowKit.Below w.heap.size w w22 → Kept [m30, m16, m15, m4_1, m2_1, m1_1] w21
    w22 → w22.heap[m30]? = some (Obj.cells #[Value.int IntKind.i64 x45, Value.int IntKind.i64 x46, Value.int IntKind.i64 x47, Value.bool t6] 80) → RunsTo Try.prog (Builtin.append_
    #[23, 23] 23 #[Value.slice a5 m28 m29, Value.slice (some { block := m30, off := 0 }) 1 1]) w22 fun (v1 : Value) (w23 : World) => ∃ (a6 : Option Addr), ∃ (m32 : Nat), ∃ (m33 :
    Nat), v1 = Value.slice a6 m32 m33 ∧ KeepX true w.heap.size [m30, m16, m15, m4_1, m2_1, m1_1] (fun _ => False) w22 w23 ∧ (-9223372036854775808 ≤ x2 + 1 ∧ x2 + (1 : Int) ≤
    9223372036854775807) ∧ ∀ (w24 : World), RowKit.Below w.heap.size w w24 → Kept [m30, m16, m15, m4_1, m2_1, m1_1] w23 w24 → F1 [Lf.int IntKind.i64 x38, Lf.int IntKind.i64 (x2 +
    1), Lf.int IntKind.i64 x39, Lf.int IntKind.i64 x40, Lf.sl a6 m32 m33, Lf.int IntKind.i64 x41, Lf.int IntKind.i64 x42, Lf.int IntKind.i64 x43, Lf.int IntKind.i64 x44] w24 ∧ F2
    [Lf.int IntKind.i64 x38, Lf.int IntKind.i64 (x2 + 1), Lf.int IntKind.i64 x39, Lf.int IntKind.i64 x40, Lf.sl a6 m32 m33, Lf.int IntKind.i64 x41, Lf.int IntKind.i64 x42, Lf.int
    IntKind.i64 x43, Lf.int IntKind.i64 x44] < F2 [Lf.int IntKind.i64 x1, Lf.int IntKind.i64 x2, Lf.int IntKind.i64 x3, Lf.int IntKind.i64 x4, Lf.sl a1 m5_1 m6_1, Lf.int
    IntKind.i64 x5, Lf.int IntKind.i64 x6, Lf.int IntKind.i64 x7, Lf.int IntKind.i64 x8]) ∧ (t1 = false → (-9223372036854775808 ≤ m3 ∧ m3 ≤ 9223372036854775807) ∧ (100 : Int) ≠ 0 ∧
    (-9223372036854775808 ≤ m3.tmod 100 - 50 ∧ m3.tmod 100 - (50 : Int) ≤ 9223372036854775807) ∧ (-9223372036854775808 ≤ m4 ∧ m4 ≤ 9223372036854775807) ∧ (50 : Int) ≠ 0 ∧
    (-9223372036854775808 ≤ m3.tmod 100 - 50 + m4.tmod 50 ∧ m3.tmod 100 - 50 + m4.tmod (50 : Int) ≤ 9223372036854775807) ∧ ∃ (F7 : List Lf → World → Prop), ((x10 ≠ 3 →
    (-9223372036854775808 ≤ m5 ∧ m5 ≤ 9223372036854775807) ∧ (-9223372036854775808 ≤ m6 ∧ m6 ≤ 9223372036854775807) ∧ (-9223372036854775808 ≤ m5 + m6 ∧ m5 + m6 ≤
    9223372036854775807) ∧ ∃ (F8 : List Lf → World → Prop), ((x10 = 1 → (-9223372036854775808 ≤ m5 - 200 ∧ m5 - (200 : Int) ≤ 9223372036854775807) ∧ ∀ (w27 : World), RowKit.Below
    w.heap.size w w27 → Kept [m4_1, m2_1, m1_1] w9 w27 → w27.heap[m4_1]? = some (Obj.cells #[Value.int IntKind.i64 x10, Value.int IntKind.i64 x11, Value.slice a2 m11 m12, Value.int
    IntKind.i64 (m3.tmod 100 - 50), Value.int IntKind.i64 (m3.tmod 100 - 50 + m4.tmod 50), Value.int IntKind.i64 (m5 - 200), Value.int IntKind.i64 (m5 + m6)] 27) → w27.heap[m4_1]?
    = some (Obj.cells #[Value.int IntKind.i64 x10, Value.int IntKind.i64 x11, Value.slice a2 m11 m12, Value.int IntKind.i64 (m3.tmod 100 - 50), Value.int IntKind.i64 (m3.tmod 100 -
    50 + m4.tmod 50), Value.int IntKind.i64 (m5 - 200), Value.int IntKind.i64 (m5 + m6)] 27) → w27.heap[m4_1]? = some (Obj.cells #[Value.int IntKind.i64 x10, Value.int IntKind.i64
    x11, Value.slice a2 m11 m12, Value.int IntKind.i64 (m3.tmod 100 - 50), Value.int IntKind.i64 (m3.tmod 100 - 50 + m4.tmod 50), Value.int IntKind.i64 (m5 - 200), Value.int
    IntKind.i64 (m5 + m6)] 27) → w27.heap[m4_1]? = some (Obj.cells #[Value.int IntKind.i64 x10, Value.int IntKind.i64 x11, Value.slice a2 m11 m12, Value.int IntKind.i64 (m3.tmod
    100 - 50), Value.int IntKind.i64 (m3.tmod 100 - 50 + m4.tmod 50), Value.int IntKind.i64 (m5 - 200), Value.int IntKind.i64 (m5 + m6)] 27) → F8 [Lf.int IntKind.i64 x10, Lf.int
    IntKind.i64 x11, Lf.sl a2 m11 m12, Lf.int IntKind.i64 (m3.tmod 100 - 50), Lf.int IntKind.i64 (m3.tmod 100 - 50 + m4.tmod 50), Lf.int IntKind.i64 (m5 - 200), Lf.int IntKind.i64
    (m5 + m6)] w27) ∧ (x10 ≠ 1 → ∀ (w28 : World), RowKit.Below w.heap.size w w28 → Kept [m4_1, m2_1, m1_1] w9 w28 → F8 [Lf.int IntKind.i64 x10, Lf.int IntKind.i64 x11, Lf.sl a2 m11
    m12, Lf.int IntKind.i64 (m3.tmod 100 - 50), Lf.int IntKind.i64 (m3.tmod 100 - 50 + m4.tmod 50), Lf.int IntKind.i64 m5, Lf.int IntKind.i64 (m5 + m6)] w28)) ∧ ∀ (x48 x49 : Int)
    (a7 : Option Addr) (m39 m40 : Nat) (x50 x51 x52 x53 : Int) (w29 : World), RowKit.Below w.heap.size w w29 → F8 [Lf.int IntKind.i64 x48, Lf.int IntKind.i64 x49, Lf.sl a7 m39 m40,
    Lf.int IntKind.i64 x50, Lf.int IntKind.i64 x51, Lf.int IntKind.i64 x52, Lf.int IntKind.i64 x53] w29 → ∀ (w30 : World), RowKit.Below w.heap.size w w30 → Kept [m4_1, m2_1, m1_1]
    w29 w30 → w30.heap[m1_1]? = some (Obj.cells #[Value.slice m0a m0n m0c, Value.int IntKind.u8 m1, Value.int IntKind.i16 m2, Value.int IntKind.u8 m3, Value.int IntKind.u8 m4,
    Value.int IntKind.u8 m5, Value.int IntKind.u8 m6] 68) → w30.heap[m1_1]? = some (Obj.cells #[Value.slice m0a m0n m0c, Value.int IntKind.u8 m1, Value.int IntKind.i16 m2,
    Value.int IntKind.u8 m3, Value.int IntKind.u8 m4, Value.int IntKind.u8 m5, Value.int IntKind.u8 m6] 68) → w30.heap[m4_1]? = some (Obj.cells #[Value.int IntKind.i64 x48,
    Value.int IntKind.i64 x49, Value.slice a7 m39 m40, Value.int IntKind.i64 x50, Value.int IntKind.i64 x51, Value.int IntKind.i64 x52, Value.int IntKind.i64 x53] 27) →
    w30.heap[m4_1]? = some (Obj.cells #[Value.int IntKind.i64 x48, Value.int IntKind.i64 x49, Value.slice a7 m39 m40, Value.int IntKind.i64 x50, Value.int IntKind.i64 x51,
    Value.int IntKind.i64 x52, Value.int IntKind.i64 x53] 27) → w30.heap[m4_1]? = some (Obj.cells #[Value.int IntKind.i64 x48, Value.int IntKind.i64 x49, Value.slice a7 m39 m40,
    Value.int IntKind.i64 x50, Value.int IntKind.i64 x51, Value.int IntKind.i64 x52, Value.int IntKind.i64 x53] 27) → w30.heap[m4_1]? = some (Obj.cells #[Value.int IntKind.i64 x48,
    Value.int IntKind.i64 x49, Value.slice a7 m39 m40, Value.int IntKind.i64 x50, Value.int IntKind.i64 x51, Value.int IntKind.i64 x52, Value.int IntKind.i64 x53] 27) →
    w30.heap[m1_1]? = some (Obj.cells #[Value.slice m0a m0n m0c, Value.int IntKind.u8 m1, Value.int IntKind.i16 m2, Value.int IntKind.u8 m3, Value.int IntKind.u8 m4, Value.int
    IntKind.u8 m5, Value.int IntKind.u8 m6] 68) → w30.heap[m1_1]? = some (Obj.cells #[Value.slice m0a m0n m0c, Value.int IntKind.u8 m1, Value.int IntKind.i16 m2, Value.int
    IntKind.u8 m3, Value.int IntKind.u8 m4, Value.int IntKind.u8 m5, Value.int IntKind.u8 m6] 68) → w30.heap[m4_1]? = some (Obj.cells #[Value.int IntKind.i64 x48, Value.int
    IntKind.i64 x49, Value.slice a7 m39 m40, Value.int IntKind.i64 x50, Value.int IntKind.i64 x51, Value.int IntKind.i64 x52, Value.int IntKind.i64 x53] 27) → w30.heap[m4_1]? =
    some (Obj.cells #[Value.int IntKind.i64 x48, Value.int IntKind.i64 x49, Value.slice a7 m39 m40, Value.int IntKind.i64 x50, Value.int IntKind.i64 x51, Value.int IntKind.i64 x52,
    Value.int IntKind.i64 x53] 27) → w30.heap[m4_1]? = some (Obj.cells #[Value.int IntKind.i64 x48, Value.int IntKind.i64 x49, Value.slice a7 m39 m40, Value.int IntKind.i64 x50,
    Value.int IntKind.i64 x51, Value.int IntKind.i64 x52, Value.int IntKind.i64 x53] 27) → F7 [Lf.int IntKind.i64 x48, Lf.int IntKind.i64 x49, Lf.sl a7 m39 m40, Lf.int IntKind.i64
    x50, Lf.int IntKind.i64 x51, Lf.int IntKind.i64 x52, Lf.int IntKind.i64 x53] w30) ∧ (x10 = 3 → ∀ (w31 : World), RowKit.Below w.heap.size w w31 → Kept [m4_1, m2_1, m1_1] w9 w31
    → F7 [Lf.int IntKind.i64 x10, Lf.int IntKind.i64 x11, Lf.sl a2 m11 m12, Lf.int IntKind.i64 (m3.tmod 100 - 50), Lf.int IntKind.i64 (m3.tmod 100 - 50 + m4.tmod 50), Lf.int
    IntKind.i64 x14, Lf.int IntKind.i64 x15] w31)) ∧ ∀ (x54 x55 : Int) (a8 : Option Addr) (m52 m53 : Nat) (x56 x57 x58 x59 : Int) (w32 : World), RowKit.Below w.heap.size w w32 → F7
    [Lf.int IntKind.i64 x54, Lf.int IntKind.i64 x55, Lf.sl a8 m52 m53, Lf.int IntKind.i64 x56, Lf.int IntKind.i64 x57, Lf.int IntKind.i64 x58, Lf.int IntKind.i64 x59] w32 → ∀ (w33
    : World), RowKit.Below w.heap.size w w33 → Kept [m4_1, m2_1, m1_1] w32 w33 → R (Ending.returned (Value.agg #[Value.int IntKind.i64 x54, Value.int IntKind.i64 x55, Value.slice
    a8 m52 m53, Value.int IntKind.i64 x56, Value.int IntKind.i64 x57, Value.int IntKind.i64 x58, Value.int IntKind.i64 x59])) w33)) : Calls Try.prog 33 #[Value.agg #[Value.slice
    m0a m0n m0c, Value.int IntKind.u8 m1, Value.int IntKind.i16 m2, Value.int IntKind.u8 m3, Value.int IntKind.u8 m4, Value.int IntKind.u8 m5, Value.int IntKind.u8 m6]] w R :=
    calls_of_vcj (pure := true) (wrapAt := []) (muts := [3, 4, 7]) (esc := [18]) (joins := [(2000004, [(28, 4)]), (2000009, [(66, 4)]), (66, []), (69, [(4, 3)]), (101, []), (120,
    [])]) (args := [SV.pv (PV.agg [Lf.sl m0a m0n m0c, Lf.int IntKind.u8 m1, Lf.int IntKind.i16 m2, Lf.int IntKind.u8 m3, Lf.int IntKind.u8 m4, Lf.int IntKind.u8 m5, Lf.int
    IntKind.u8 m6])]) (vs := [Value.agg #[Value.slice m0a m0n m0c, Value.int IntKind.u8 m1, Value.int IntKind.i16 m2, Value.int IntKind.u8 m3, Value.int IntKind.u8 m4, Value.int
    IntKind.u8 m5, Value.int IntKind.u8 m6]]) Try.func33 rfl rfl rfl (Eq.mp (by kernel_rfl) h) 
set_option maxRecDepth 100000 in
set_option maxHeartbeats 2000000 in
theorem vc34 (p0w0 : Int) (p0w1 : Int) (p0w2 : Int) (p0w3 : Int) (p0w4 : Int) (p0w5 : Int) (p0w6 : Int) (p0w7 : Int) (w : World) (R : Ending → World → Prop) (h : ∀ (m1 : Nat),
    w.heap.size ≤ m1 → ∀ (m2 : Nat), w.heap.size ≤ m2 → (-9223372036854775808 ≤ p0w0 ∧ p0w0 ≤ 9223372036854775807) ∧ (-9223372036854775808 ≤ p0w4 ∧ p0w4 ≤ 9223372036854775807) ∧ ∀
    (w1 : World), RowKit.Below w.heap.size w w1 → KeptIn [(0, w.heap.size)] [m2, m1] w w1 → Calls Try.prog 76 #[Value.int IntKind.i64 (-400), Value.int IntKind.i64 400, Value.int
    IntKind.i64 p0w0, Value.int IntKind.i64 p0w4] w1 fun (e1 : Ending) (w2 : World) => ∃ (x1 : Int), ∃ (x2 : Int), e1 = Ending.returned (Value.agg #[Value.int IntKind.i64 x1,
    Value.int IntKind.i64 x2]) ∧ KeepX true w.heap.size [m2, m1] (fun _ => False) w1 w2 ∧ (-9223372036854775808 ≤ p0w1 ∧ p0w1 ≤ 9223372036854775807) ∧ (-9223372036854775808 ≤ p0w5
    ∧ p0w5 ≤ 9223372036854775807) ∧ ∀ (w3 : World), RowKit.Below w.heap.size w w3 → KeptIn [(0, w2.heap.size)] [m2, m1] w2 w3 → Calls Try.prog 76 #[Value.int IntKind.i64 (-300),
    Value.int IntKind.i64 300, Value.int IntKind.i64 p0w1, Value.int IntKind.i64 p0w5] w3 fun (e2 : Ending) (w4 : World) => ∃ (x3 : Int), ∃ (x4 : Int), e2 = Ending.returned
    (Value.agg #[Value.int IntKind.i64 x3, Value.int IntKind.i64 x4]) ∧ KeepX true w.heap.size [m2, m1] (fun _ => False) w3 w4 ∧ (-9223372036854775808 ≤ p0w2 ∧ p0w2 ≤
    9223372036854775807) ∧ (-9223372036854775808 ≤ p0w6 ∧ p0w6 ≤ 9223372036854775807) ∧ ∀ (w5 : World), RowKit.Below w.heap.size w w5 → KeptIn [(0, w4.heap.size)] [m2, m1] w4 w5 →
    Calls Try.prog 76 #[Value.int IntKind.i64 0, Value.int IntKind.i64 300, Value.int IntKind.i64 p0w2, Value.int IntKind.i64 p0w6] w5 fun (e3 : Ending) (w6 : World) => ∃ (x5 :
    Int), ∃ (x6 : Int), e3 = Ending.returned (Value.agg #[Value.int IntKind.i64 x5, Value.int IntKind.i64 x6]) ∧ KeepX true w.heap.size [m2, m1] (fun _ => False) w5 w6 ∧
    (-9223372036854775808 ≤ p0w3 ∧ p0w3 ≤ 9223372036854775807) ∧ (-9223372036854775808 ≤ p0w7 ∧ p0w7 ≤ 9223372036854775807) ∧ ∀ (w7 : World), RowKit.Below w.heap.size w w7 → KeptIn
    [(0, w6.heap.size)] [m2, m1] w6 w7 → Calls Try.prog 76 #[Value.int IntKind.i64 (-40), Value.int IntKind.i64 40, Value.int IntKind.i64 p0w3, Value.int IntKind.i64 p0w7] w7 fun
    (e4 : Ending) (w8 : World) => ∃ (x7 : Int), ∃ (x8 : Int), e4 = Ending.returned (Value.agg #[Value.int IntKind.i64 x7, Value.int IntKind.i64 x8]) ∧ KeepX true w.heap.size [m2,
    m1] (fun _ => False) w7 w8 ∧ ∀ (w9 : World), RowKit.Below w.heap.size w w9 → Kept [m2, m1] w8 w9 → R (Ending.returned (Value.agg #[Value.int IntKind.i64 x1, Value.int
    IntKind.i64 x2, Value.int IntKind.i64 x3, Value.int IntKind.i64 x4, Value.int IntKind.i64 x5, Value.int IntKind.i64 x6, Value.int IntKind.i64 x7, Value.int IntKind.i64 x8]))
    w9) : Calls Try.prog 34 #[Value.agg #[Value.int IntKind.u8 p0w0, Value.int IntKind.u8 p0w1, Value.int IntKind.u8 p0w2, Value.int IntKind.u8 p0w3, Value.int IntKind.u8 p0w4,
    Value.int IntKind.u8 p0w5, Value.int IntKind.u8 p0w6, Value.int IntKind.u8 p0w7]] w R := calls_of_vc (pure := true) (wrapAt := []) (muts := []) (esc := []) (args := [SV.pv
    (PV.agg [Lf.int IntKind.u8 p0w0, Lf.int IntKind.u8 p0w1, Lf.int IntKind.u8 p0w2, Lf.int IntKind.u8 p0w3, Lf.int IntKind.u8 p0w4, Lf.int IntKind.u8 p0w5, Lf.int IntKind.u8 p0w6,
    Lf.int IntKind.u8 p0w7])]) (vs := [Value.agg #[Value.int IntKind.u8 p0w0, Value.int IntKind.u8 p0w1, Value.int IntKind.u8 p0w2, Value.int IntKind.u8 p0w3, Value.int IntKind.u8
    p0w4, Value.int IntKind.u8 p0w5, Value.int IntKind.u8 p0w6, Value.int IntKind.u8 p0w7]]) Try.func34 rfl rfl rfl (Eq.mp (by kernel_rfl) h) 
set_option maxRecDepth 100000 in
set_option maxHeartbeats 2000000 in
theorem vc35 (c0 : Int) (c1 : Int) (c2a : Option Addr) (c2n : Nat) (c2c : Nat) (c3 : Int) (c4 : Int) (c5 : Int) (c6 : Int) (b0 : Int) (b1 : Int) (b2 : Int) (b3 : Int) (b4 : Int)
    (b5 : Int) (b6 : Int) (b7 : Int) (p2bya : Option Addr) (p2byn : Nat) (p2byc : Nat) (w : World) (R : Ending → World → Prop) (h : ∀ (m1 : Nat), w.heap.size ≤ m1 → ∀ (m2 : Nat),
    w.heap.size ≤ m2 → ∀ (m3 : Nat), w.heap.size ≤ m3 → ∀ (m4 : Nat), w.heap.size ≤ m4 → ∀ (w1 : World), RowKit.Below w.heap.size w w1 → KeptIn [(0, w.heap.size)] [m4, m3, m2, m1]
    w w1 → w1.heap[m3]? = some (Obj.cells #[Value.slice p2bya p2byn p2byc] 71) → Calls Try.prog 77 #[Value.int IntKind.i64 0, Value.pointer (some { block := m3, off := 0 })] w1 fun
    (e1 : Ending) (w2 : World) => ∃ (x1 : Int), e1 = Ending.returned (Value.int IntKind.i64 x1) ∧ RowKit.Below w1.heap.size w1 w2 ∧ ∀ (w3 : World), RowKit.Below w.heap.size w w3 →
    KeptIn [(0, w.heap.size), (w1.heap.size, w2.heap.size)] [m4, m3, m2, m1] w2 w3 → Calls Try.prog 78 #[Value.agg #[Value.int IntKind.i64 c3, Value.int IntKind.i64 c4], Value.int
    IntKind.i64 x1] w3 fun (e2 : Ending) (w4 : World) => ∃ (x2 : Int), e2 = Ending.returned (Value.int IntKind.i64 x2) ∧ RowKit.Below w3.heap.size w3 w4 ∧ ∀ (w5 : World),
    RowKit.Below w.heap.size w w5 → KeptIn [(0, w.heap.size), (w3.heap.size, w4.heap.size), (w1.heap.size, w2.heap.size)] [m4, m3, m2, m1] w4 w5 → w5.heap[m3]? = some (Obj.cells
    #[Value.slice p2bya p2byn p2byc] 71) → Calls Try.prog 77 #[Value.int IntKind.i64 1, Value.pointer (some { block := m3, off := 0 })] w5 fun (e3 : Ending) (w6 : World) => ∃ (x3 :
    Int), e3 = Ending.returned (Value.int IntKind.i64 x3) ∧ RowKit.Below w5.heap.size w5 w6 ∧ ∀ (w7 : World), RowKit.Below w.heap.size w w7 → KeptIn [(0, w.heap.size),
    (w5.heap.size, w6.heap.size), (w3.heap.size, w4.heap.size), (w1.heap.size, w2.heap.size)] [m4, m3, m2, m1] w6 w7 → Calls Try.prog 78 #[Value.agg #[Value.int IntKind.i64 c5,
    Value.int IntKind.i64 c6], Value.int IntKind.i64 x3] w7 fun (e4 : Ending) (w8 : World) => ∃ (x4 : Int), e4 = Ending.returned (Value.int IntKind.i64 x4) ∧ RowKit.Below
    w7.heap.size w7 w8 ∧ ∀ (w9 : World), RowKit.Below w.heap.size w w9 → KeptIn [(0, w.heap.size), (w7.heap.size, w8.heap.size), (w5.heap.size, w6.heap.size), (w3.heap.size,
    w4.heap.size), (w1.heap.size, w2.heap.size)] [m4, m3, m2, m1] w8 w9 → w9.heap[m3]? = some (Obj.cells #[Value.slice p2bya p2byn p2byc] 71) → Calls Try.prog 77 #[Value.int
    IntKind.i64 2, Value.pointer (some { block := m3, off := 0 })] w9 fun (e5 : Ending) (w10 : World) => ∃ (x5 : Int), e5 = Ending.returned (Value.int IntKind.i64 x5) ∧
    RowKit.Below w9.heap.size w9 w10 ∧ ∀ (w11 : World), RowKit.Below w.heap.size w w11 → KeptIn [(0, w.heap.size), (w9.heap.size, w10.heap.size), (w7.heap.size, w8.heap.size),
    (w5.heap.size, w6.heap.size), (w3.heap.size, w4.heap.size), (w1.heap.size, w2.heap.size)] [m4, m3, m2, m1] w10 w11 → Calls Try.prog 78 #[Value.agg #[Value.int IntKind.i64 b0,
    Value.int IntKind.i64 b1], Value.int IntKind.i64 x5] w11 fun (e6 : Ending) (w12 : World) => ∃ (x6 : Int), e6 = Ending.returned (Value.int IntKind.i64 x6) ∧ RowKit.Below
    w11.heap.size w11 w12 ∧ ∀ (w13 : World), RowKit.Below w.heap.size w w13 → KeptIn [(0, w.heap.size), (w11.heap.size, w12.heap.size), (w9.heap.size, w10.heap.size),
    (w7.heap.size, w8.heap.size), (w5.heap.size, w6.heap.size), (w3.heap.size, w4.heap.size), (w1.heap.size, w2.heap.size)] [m4, m3, m2, m1] w12 w13 → w13.heap[m3]? = some
    (Obj.cells #[Value.slice p2bya p2byn p2byc] 71) → Calls Try.prog 77 #[Value.int IntKind.i64 3, Value.pointer (some { block := m3, off := 0 })] w13 fun (e7 : Ending) (w14 :
    World) => ∃ (x7 : Int), e7 = Ending.returned (Value.int IntKind.i64 x7) ∧ RowKit.Below w13.heap.size w13 w14 ∧ ∀ (w15 : World), RowKit.Below w.heap.size w w15 → KeptIn [(0,
    w.heap.size), (w13.heap.size, w14.heap.size), (w11.heap.size, w12.heap.size), (w9.heap.size, w10.heap.size), (w7.heap.size, w8.heap.size), (w5.heap.size, w6.heap.size),
    (w3.heap.size, w4.heap.size), (w1.heap.size, w2.heap.size)] [m4, m3, m2, m1] w14 w15 → Calls Try.prog 78 #[Value.agg #[Value.int IntKind.i64 b2, Value.int IntKind.i64 b3],
    Value.int IntKind.i64 x7] w15 fun (e8 : Ending) (w16 : World) => ∃ (x8 : Int), e8 = Ending.returned (Value.int IntKind.i64 x8) ∧ RowKit.Below w15.heap.size w15 w16 ∧ ∀ (w17 :
    World), RowKit.Below w.heap.size w w17 → KeptIn [(0, w.heap.size), (w15.heap.size, w16.heap.size), (w13.heap.size, w14.heap.size), (w11.heap.size, w12.heap.size),
    (w9.heap.size, w10.heap.size), (w7.heap.size, w8.heap.size), (w5.heap.size, w6.heap.size), (w3.heap.size, w4.heap.size), (w1.heap.size, w2.heap.size)] [m4, m3, m2, m1] w16 w17
    → w17.heap[m3]? = some (Obj.cells #[Value.slice p2bya p2byn p2byc] 71) → Calls Try.prog 77 #[Value.int IntKind.i64 4, Value.pointer (some { block := m3, off := 0 })] w17 fun
    (e9 : Ending) (w18 : World) => ∃ (x9 : Int), e9 = Ending.returned (Value.int IntKind.i64 x9) ∧ RowKit.Below w17.heap.size w17 w18 ∧ ∀ (w19 : World), RowKit.Below w.heap.size w
    w19 → KeptIn [(0, w.heap.size), (w17.heap.size, w18.heap.size), (w15.heap.size, w16.heap.size), (w13.heap.size, w14.heap.size), (w11.heap.size, w12.heap.size), (w9.heap.size,
    w10.heap.size), (w7.heap.size, w8.heap.size), (w5.heap.size, w6.heap.size), (w3.heap.size, w4.heap.size), (w1.heap.size, w2.heap.size)] [m4, m3, m2, m1] w18 w19 → Calls
    Try.prog 78 #[Value.agg #[Value.int IntKind.i64 b4, Value.int IntKind.i64 b5], Value.int IntKind.i64 x9] w19 fun (e10 : Ending) (w20 : World) => ∃ (x10 : Int), e10 =
    Ending.returned (Value.int IntKind.i64 x10) ∧ RowKit.Below w19.heap.size w19 w20 ∧ ∀ (w21 : World), RowKit.Below w.heap.size w w21 → KeptIn [(0, w.heap.size), (w19.heap.size,
    w20.heap.size), (w17.heap.size, w18.heap.size), (w15.heap.size, w16.heap.size), (w13.heap.size, w14.heap.size), (w11.heap.size, w12.heap.size), (w9.heap.size, w10.heap.size),
    (w7.heap.size, w8.heap.size), (w5.heap.size, w6.heap.size), (w3.heap.size, w4.heap.size), (w1.heap.size, w2.heap.size)] [m4, m3, m2, m1] w20 w21 → w21.heap[m3]? = some
    (Obj.cells #[Value.slice p2bya p2byn p2byc] 71) → Calls Try.prog 77 #[Value.int IntKind.i64 5, Value.pointer (some { block := m3, off := 0 })] w21 fun (e11 : Ending) (w22 :
    World) => ∃ (x11 : Int), e11 = Ending.returned (Value.int IntKind.i64 x11) ∧ RowKit.Below w21.heap.size w21 w22 ∧ ∀ (w23 : World), RowKit.Below w.heap.size w w23 → KeptIn [(0,
    w.heap.size), (w21.heap.size, w22.heap.size), (w19.heap.size, w20.heap.size), (w17.heap.size, w18.heap.size), (w15.heap.size, w16.heap.size), (w13.heap.size, w14.heap.size),
    (w11.heap.size, w12.heap.size), (w9.heap.size, w10.heap.size), (w7.heap.size, w8.heap.size), (w5.heap.size, w6.heap.size), (w3.heap.size, w4.heap.size), (w1.heap.size,
    w2.heap.size)] [m4, m3, m2, m1] w22 w23 → Calls Try.prog 78 #[Value.agg #[Value.int IntKind.i64 b6, Value.int IntKind.i64 b7], Value.int IntKind.i64 x11] w23 fun (e12 : Ending)
    (w24 : World) => ∃ (x12 : Int), e12 = Ending.returned (Value.int IntKind.i64 x12) ∧ RowKit.Below w23.heap.size w23 w24 ∧ ∀ (m11 : Nat), w.heap.size ≤ m11 → m11 < w23.heap.size
    ∨ w24.heap.size ≤ m11 → m11 < w21.heap.size ∨ w22.heap.size ≤ m11 → m11 < w19.heap.size ∨ w20.heap.size ≤ m11 → m11 < w17.heap.size ∨ w18.heap.size ≤ m11 → m11 < w15.heap.size
    ∨ w16.heap.size ≤ m11 → m11 < w13.heap.size ∨ w14.heap.size ≤ m11 → m11 < w11.heap.size ∨ w12.heap.size ≤ m11 → m11 < w9.heap.size ∨ w10.heap.size ≤ m11 → m11 < w7.heap.size ∨
    w8.heap.size ≤ m11 → m11 < w5.heap.size ∨ w6.heap.size ≤ m11 → m11 < w3.heap.size ∨ w4.heap.size ≤ m11 → m11 < w1.heap.size ∨ w2.heap.size ≤ m11 → ∃ (F1 : List Lf → World →
    Prop), ∃ (F2 : List Lf → Nat), (∀ (w26 : World), RowKit.Below w.heap.size w w26 → Kept [m11, m4, m3, m2, m1] w24 w26 → F1 [Lf.int IntKind.i64 0, Lf.sl none 0 0, Lf.int
    IntKind.i64 x2, Lf.int IntKind.i64 x4, Lf.int IntKind.i64 x6, Lf.int IntKind.i64 x8, Lf.int IntKind.i64 x10, Lf.int IntKind.i64 x12] w26) ∧ ∀ (x13 : Int) (a1 : Option Addr)
    (m12 m13 : Nat) (x14 x15 x16 x17 x18 x19 : Int) (w27 : World), RowKit.Below w.heap.size w w27 → F1 [Lf.int IntKind.i64 x13, Lf.sl a1 m12 m13, Lf.int IntKind.i64 x14, Lf.int
    IntKind.i64 x15, Lf.int IntKind.i64 x16, Lf.int IntKind.i64 x17, Lf.int IntKind.i64 x18, Lf.int IntKind.i64 x19] w27 → (x13 < (↑c2n : Int) → ((-9223372036854775808 : Int) ≤ 6 +
    x13 ∧ 6 + x13 ≤ 9223372036854775807) ∧ ∀ (w28 : World), RowKit.Below w.heap.size w w28 → KeptIn [(0, w27.heap.size)] [m11, m4, m3, m2, m1] w27 w28 → w28.heap[m3]? = some
    (Obj.cells #[Value.slice p2bya p2byn p2byc] 71) → Calls Try.prog 77 #[Value.int IntKind.i64 (6 + x13), Value.pointer (some { block := m3, off := 0 })] w28 fun (e13 : Ending)
    (w29 : World) => ∃ (x20 : Int), e13 = Ending.returned (Value.int IntKind.i64 x20) ∧ RowKit.Below w28.heap.size w28 w29 ∧ ∃ (m15 : Nat), ∃ (m16 : Nat), c2a = some
    { block := m15, off := m16 } ∧ (0 ≤ x13 ∧ x13 < (↑c2n : Int)) ∧ ∃ (x21 : Int), ∃ (x22 : Int), w27.cell? { block := m15, off := m16 + x13.toNat * 4 + 1 } = some (Value.int
    IntKind.i64 x21) ∧ w27.cell? { block := m15, off := m16 + x13.toNat * 4 + 1 + 1 } = some (Value.int IntKind.i64 x22) ∧ (m15 < w.heap.size ∨ m15 ≠ m11 ∧ m15 ≠ m4 ∧ m15 ≠ m3 ∧
    m15 ≠ m2 ∧ m15 ≠ m1) ∧ ∀ (w30 : World), RowKit.Below w.heap.size w w30 → KeptIn [(0, w27.heap.size), (w28.heap.size, w29.heap.size)] [m11, m4, m3, m2, m1] w29 w30 → Calls
    Try.prog 78 #[Value.agg #[Value.int IntKind.i64 x21, Value.int IntKind.i64 x22], Value.int IntKind.i64 x20] w30 fun (e14 : Ending) (w31 : World) => ∃ (x23 : Int), e14 =
    Ending.returned (Value.int IntKind.i64 x23) ∧ KeepX true w.heap.size [m11, m4, m3, m2, m1] (fun _ => False) w30 w31 ∧ ∀ (m18 : Nat), w31.heap.size ≤ m18 → ∀ (w32 : World),
    RowKit.Below w.heap.size w w32 → KeptIn [(0, w31.heap.size)] [m18, m11, m4, m3, m2, m1] w31 w32 → w32.heap[m18]? = some (Obj.cells #[Value.int IntKind.i64 x23] 3) → RunsTo
    Try.prog (Builtin.append_ #[28, 28] 28 #[Value.slice a1 m12 m13, Value.slice (some { block := m18, off := 0 }) 1 1]) w32 fun (v1 : Value) (w33 : World) => ∃ (a2 : Option Addr),
    ∃ (m20 : Nat), ∃ (m21 : Nat), v1 = Value.slice a2 m20 m21 ∧ KeepX true w.heap.size [m18, m11, m4, m3, m2, m1] (fun _ => False) w32 w33 ∧ (-9223372036854775808 ≤ x13 + 1 ∧ x13 +
    (1 : Int) ≤ 9223372036854775807) ∧ ∀ (w34 : World), RowKit.Below w.heap.size w w34 → Kept [m18, m11, m4, m3, m2, m1] w33 w34 → F1 [Lf.int IntKind.i64 (x13 + 1), Lf.sl a2 m20
    m21, Lf.int IntKind.i64 x14, Lf.int IntKind.i64 x15, Lf.int IntKind.i64 x16, Lf.int IntKind.i64 x17, Lf.int IntKind.i64 x18, Lf.int IntKind.i64 x19] w34 ∧ F2 [Lf.int
    IntKind.i64 (x13 + 1), Lf.sl a2 m20 m21, Lf.int IntKind.i64 x14, Lf.int IntKind.i64 x15, Lf.int IntKind.i64 x16, Lf.int IntKind.i64 x17, Lf.int IntKind.i64 x18, Lf.int
    IntKind.i64 x19] < F2 [Lf.int IntKind.i64 x13, Lf.sl a1 m12 m13, Lf.int IntKind.i64 x14, Lf.int IntKind.i64 x15, Lf.int IntKind.i64 x16, Lf.int IntKind.i64 x17, Lf.int
    IntKind.i64 x18, Lf.int IntKind.i64 x19]) ∧ ((↑c2n : Int) ≤ x13 → ∀ (w35 : World), RowKit.Below w.heap.size w w35 → Kept [m11, m4, m3, m2, m1] w27 w35 → R (Ending.returned
    (Value.agg #[Value.slice a1 m12 m13, Value.int IntKind.i64 x14, Value.int IntKind.i64 x15, Value.int IntKind.i64 x16, Value.int IntKind.i64 x17, Value.int IntKind.i64 x18,
    Value.int IntKind.i64 x19])) w35)) : Calls Try.prog 35 #[Value.agg #[Value.int IntKind.i64 c0, Value.int IntKind.i64 c1, Value.slice c2a c2n c2c, Value.int IntKind.i64 c3,
    Value.int IntKind.i64 c4, Value.int IntKind.i64 c5, Value.int IntKind.i64 c6], Value.agg #[Value.int IntKind.i64 b0, Value.int IntKind.i64 b1, Value.int IntKind.i64 b2,
    Value.int IntKind.i64 b3, Value.int IntKind.i64 b4, Value.int IntKind.i64 b5, Value.int IntKind.i64 b6, Value.int IntKind.i64 b7], Value.slice p2bya p2byn p2byc] w R :=
    calls_of_vc (pure := true) (wrapAt := []) (muts := [8]) (esc := []) (args := [SV.pv (PV.agg [Lf.int IntKind.i64 c0, Lf.int IntKind.i64 c1, Lf.sl c2a c2n c2c, Lf.int IntKind.i64
    c3, Lf.int IntKind.i64 c4, Lf.int IntKind.i64 c5, Lf.int IntKind.i64 c6]), SV.pv (PV.agg [Lf.int IntKind.i64 b0, Lf.int IntKind.i64 b1, Lf.int IntKind.i64 b2, Lf.int
    IntKind.i64 b3, Lf.int IntKind.i64 b4, Lf.int IntKind.i64 b5, Lf.int IntKind.i64 b6, Lf.int IntKind.i64 b7]), SV.pv (PV.one (Lf.sl p2bya p2byn p2byc))]) (vs := [Value.agg
    #[Value.int IntKind.i64 c0, Value.int IntKind.i64 c1, Value.slice c2a c2n c2c, Value.int IntKind.i64 c3, Value.int IntKind.i64 c4, Value.int IntKind.i64 c5, Value.int
    IntKind.i64 c6], Value.agg #[Value.int IntKind.i64 b0, Value.int IntKind.i64 b1, Value.int IntKind.i64 b2, Value.int IntKind.i64 b3, Value.int IntKind.i64 b4, Value.int
    IntKind.i64 b5, Value.int IntKind.i64 b6, Value.int IntKind.i64 b7], Value.slice p2bya p2byn p2byc]) Try.func35 rfl rfl rfl (Eq.mp (by kernel_rfl) h) 
set_option maxRecDepth 100000 in
set_option maxHeartbeats 2000000 in
theorem vc36 (t0a : Option Addr) (t0n : Nat) (t0c : Nat) (t1 : Int) (t2 : Int) (t3 : Int) (t4 : Int) (t5 : Int) (t6 : Int) (c0 : Int) (c1 : Int) (c2a : Option Addr) (c2n : Nat)
    (c2c : Nat) (c3 : Int) (c4 : Int) (c5 : Int) (c6 : Int) (b0 : Int) (b1 : Int) (b2 : Int) (b3 : Int) (b4 : Int) (b5 : Int) (b6 : Int) (b7 : Int) (w : World) (R : Ending → World
    → Prop) (h : ∀ (m1 : Nat), w.heap.size ≤ m1 → ∀ (m2 : Nat), w.heap.size ≤ m2 → ∀ (m3 : Nat), w.heap.size ≤ m3 → ((↑t0n : Int) ≠ (↑c2n : Int) → ∀ (w1 : World), RowKit.Below
    w.heap.size w w1 → Kept [m3, m2, m1] w w1 → R (Ending.returned (Value.bool false)) w1) ∧ ((↑t0n : Int) = (↑c2n : Int) → ∃ (F1 : List Lf → World → Prop), ∃ (F2 : List Lf → Nat),
    (∀ (w3 : World), RowKit.Below w.heap.size w w3 → Kept [m3, m2, m1] w w3 → F1 [Lf.bool false, Lf.int IntKind.i64 0] w3) ∧ ∀ (t1_1 : Bool) (x1 : Int) (w4 : World), RowKit.Below
    w.heap.size w w4 → F1 [Lf.bool t1_1, Lf.int IntKind.i64 x1] w4 → (x1 < (↑c2n : Int) → ∃ (m4 : Nat), ∃ (m5 : Nat), t0a = some { block := m4, off := m5 } ∧ (0 ≤ x1 ∧ x1 < (↑t0n :
    Int)) ∧ ∃ (x2 : Int), w4.cell? { block := m4, off := m5 + x1.toNat * 1 } = some (Value.int IntKind.i64 x2) ∧ (m4 < w.heap.size ∨ m4 ≠ m3 ∧ m4 ≠ m2 ∧ m4 ≠ m1) ∧ ∃ (m6 : Nat), ∃
    (m7 : Nat), c2a = some { block := m6, off := m7 } ∧ (0 ≤ x1 ∧ x1 < (↑c2n : Int)) ∧ ∃ (x3 : Int), ∃ (x4 : Int), w4.cell? { block := m6, off := m7 + x1.toNat * 4 + 1 } = some
    (Value.int IntKind.i64 x3) ∧ w4.cell? { block := m6, off := m7 + x1.toNat * 4 + 1 + 1 } = some (Value.int IntKind.i64 x4) ∧ (m6 < w.heap.size ∨ m6 ≠ m3 ∧ m6 ≠ m2 ∧ m6 ≠ m1) ∧ ∀
    (w5 : World), RowKit.Below w.heap.size w w5 → KeptIn [(0, w4.heap.size)] [m3, m2, m1] w4 w5 → Calls Try.prog 79 #[Value.int IntKind.i64 x2, Value.agg #[Value.int IntKind.i64
    x3, Value.int IntKind.i64 x4]] w5 fun (e1 : Ending) (w6 : World) => ∃ (t2 : Bool), e1 = Ending.returned (Value.bool t2) ∧ KeepX true w.heap.size [m3, m2, m1] (fun _ => False)
    w5 w6 ∧ ((!t2) = true → ∀ (w7 : World), RowKit.Below w.heap.size w w7 → Kept [m3, m2, m1] w6 w7 → R (Ending.returned (Value.bool false)) w7) ∧ ((!t2) = false →
    (-9223372036854775808 ≤ x1 + 1 ∧ x1 + (1 : Int) ≤ 9223372036854775807) ∧ ∀ (w8 : World), RowKit.Below w.heap.size w w8 → Kept [m3, m2, m1] w6 w8 → F1 [Lf.bool t1_1, Lf.int
    IntKind.i64 (x1 + 1)] w8 ∧ F2 [Lf.bool t1_1, Lf.int IntKind.i64 (x1 + 1)] < F2 [Lf.bool t1_1, Lf.int IntKind.i64 x1])) ∧ ((↑c2n : Int) ≤ x1 → ∀ (w9 : World), RowKit.Below
    w.heap.size w w9 → Kept [m3, m2, m1] w4 w9 → Calls Try.prog 79 #[Value.int IntKind.i64 t1, Value.agg #[Value.int IntKind.i64 c3, Value.int IntKind.i64 c4]] w9 fun (e2 : Ending)
    (w10 : World) => ∃ (t3_1 : Bool), e2 = Ending.returned (Value.bool t3_1) ∧ KeepX true w.heap.size [m3, m2, m1] (fun _ => False) w9 w10 ∧ (t3_1 = true → ∀ (w11 : World),
    RowKit.Below w.heap.size w w11 → Kept [m3, m2, m1] w10 w11 → Calls Try.prog 79 #[Value.int IntKind.i64 t2, Value.agg #[Value.int IntKind.i64 c5, Value.int IntKind.i64 c6]] w11
    fun (e3 : Ending) (w12 : World) => ∃ (t4_1 : Bool), e3 = Ending.returned (Value.bool t4_1) ∧ KeepX true w.heap.size [m3, m2, m1] (fun _ => False) w11 w12 ∧ (t4_1 = true → ∀
    (w13 : World), RowKit.Below w.heap.size w w13 → Kept [m3, m2, m1] w12 w13 → Calls Try.prog 79 #[Value.int IntKind.i64 t3, Value.agg #[Value.int IntKind.i64 b0, Value.int
    IntKind.i64 b1]] w13 fun (e4 : Ending) (w14 : World) => ∃ (t5_1 : Bool), e4 = Ending.returned (Value.bool t5_1) ∧ KeepX true w.heap.size [m3, m2, m1] (fun _ => False) w13 w14 ∧
    (t5_1 = true → ∀ (w15 : World), RowKit.Below w.heap.size w w15 → Kept [m3, m2, m1] w14 w15 → Calls Try.prog 79 #[Value.int IntKind.i64 t4, Value.agg #[Value.int IntKind.i64 b2,
    Value.int IntKind.i64 b3]] w15 fun (e5 : Ending) (w16 : World) => ∃ (t6_1 : Bool), e5 = Ending.returned (Value.bool t6_1) ∧ KeepX true w.heap.size [m3, m2, m1] (fun _ => False)
    w15 w16 ∧ (t6_1 = true → ∀ (w17 : World), RowKit.Below w.heap.size w w17 → Kept [m3, m2, m1] w16 w17 → Calls Try.prog 79 #[Value.int IntKind.i64 t5, Value.agg #[Value.int
    IntKind.i64 b4, Value.int IntKind.i64 b5]] w17 fun (e6 : Ending) (w18 : World) => ∃ (t7 : Bool), e6 = Ending.returned (Value.bool t7) ∧ KeepX true w.heap.size [m3, m2, m1] (fun
    _ => False) w17 w18 ∧ (t7 = true → ∀ (w19 : World), RowKit.Below w.heap.size w w19 → Kept [m3, m2, m1] w18 w19 → Calls Try.prog 79 #[Value.int IntKind.i64 t6, Value.agg
    #[Value.int IntKind.i64 b6, Value.int IntKind.i64 b7]] w19 fun (e7 : Ending) (w20 : World) => ∃ (t8 : Bool), e7 = Ending.returned (Value.bool t8) ∧ KeepX true w.heap.size [m3,
    m2, m1] (fun _ => False) w19 w20 ∧ ∀ (w21 : World), RowKit.Below w.heap.size w w21 → Kept [m3, m2, m1] w20 w21 → R (Ending.returned (Value.bool t8)) w21) ∧ (t7 = false → ∀ (w22
    : World), RowKit.Below w.heap.size w w22 → Kept [m3, m2, m1] w18 w22 → R (Ending.returned (Value.bool false)) w22)) ∧ (t6_1 = false → ∀ (w23 : World), RowKit.Below w.heap.size
    w w23 → Kept [m3, m2, m1] w16 w23 → R (Ending.returned (Value.bool false)) w23)) ∧ (t5_1 = false → ∀ (w24 : World), RowKit.Below w.heap.size w w24 → Kept [m3, m2, m1] w14 w24 →
    R (Ending.returned (Value.bool false)) w24)) ∧ (t4_1 = false → ∀ (w25 : World), RowKit.Below w.heap.size w w25 → Kept [m3, m2, m1] w12 w25 → R (Ending.returned (Value.bool
    false)) w25)) ∧ (t3_1 = false → ∀ (w26 : World), RowKit.Below w.heap.size w w26 → Kept [m3, m2, m1] w10 w26 → R (Ending.returned (Value.bool false)) w26)))) : Calls Try.prog 36
    #[Value.agg #[Value.slice t0a t0n t0c, Value.int IntKind.i64 t1, Value.int IntKind.i64 t2, Value.int IntKind.i64 t3, Value.int IntKind.i64 t4, Value.int IntKind.i64 t5,
    Value.int IntKind.i64 t6], Value.agg #[Value.int IntKind.i64 c0, Value.int IntKind.i64 c1, Value.slice c2a c2n c2c, Value.int IntKind.i64 c3, Value.int IntKind.i64 c4,
    Value.int IntKind.i64 c5, Value.int IntKind.i64 c6], Value.agg #[Value.int IntKind.i64 b0, Value.int IntKind.i64 b1, Value.int IntKind.i64 b2, Value.int IntKind.i64 b3,
    Value.int IntKind.i64 b4, Value.int IntKind.i64 b5, Value.int IntKind.i64 b6, Value.int IntKind.i64 b7]] w R := calls_of_vc (pure := true) (wrapAt := []) (muts := []) (esc :=
    []) (args := [SV.pv (PV.agg [Lf.sl t0a t0n t0c, Lf.int IntKind.i64 t1, Lf.int IntKind.i64 t2, Lf.int IntKind.i64 t3, Lf.int IntKind.i64 t4, Lf.int IntKind.i64 t5, Lf.int
    IntKind.i64 t6]), SV.pv (PV.agg [Lf.int IntKind.i64 c0, Lf.int IntKind.i64 c1, Lf.sl c2a c2n c2c, Lf.int IntKind.i64 c3, Lf.int IntKind.i64 c4, Lf.int IntKind.i64 c5, Lf.int
    IntKind.i64 c6]), SV.pv (PV.agg [Lf.int IntKind.i64 b0, Lf.int IntKind.i64 b1, Lf.int IntKind.i64 b2, Lf.int IntKind.i64 b3, Lf.int IntKind.i64 b4, Lf.int IntKind.i64 b5,
    Lf.int IntKind.i64 b6, Lf.int IntKind.i64 b7])]) (vs := [Value.agg #[Value.slice t0a t0n t0c, Value.int IntKind.i64 t1, Value.int IntKind.i64 t2, Value.int IntKind.i64 t3,
    Value.int IntKind.i64 t4, Value.int IntKind.i64 t5, Value.int IntKind.i64 t6], Value.agg #[Value.int IntKind.i64 c0, Value.int IntKind.i64 c1, Value.slice c2a c2n c2c,
    Value.int IntKind.i64 c3, Value.int IntKind.i64 c4, Value.int IntKind.i64 c5, Value.int IntKind.i64 c6], Value.agg #[Value.int IntKind.i64 b0, Value.int IntKind.i64 b1,
    Value.int IntKind.i64 b2, Value.int IntKind.i64 b3, Value.int IntKind.i64 b4, Value.int IntKind.i64 b5, Value.int IntKind.i64 b6, Value.int IntKind.i64 b7]]) Try.func36 rfl rfl
    rfl (Eq.mp (by kernel_rfl) h) 
set_option maxRecDepth 100000 in
set_option maxHeartbeats 2000000 in
theorem vc37 (s0 : Int) (s1 : Int) (n : Int) (w : World) (R : Ending → World → Prop) (h : ∀ (m1 : Nat), w.heap.size ≤ m1 → ∀ (m2 : Nat), w.heap.size ≤ m2 → (-9223372036854775808 ≤
    s0 + n ∧ s0 + n ≤ 9223372036854775807) ∧ (0 : Int) ≤ 1 ∧ (-9223372036854775808 ≤ s1 + n ∧ s1 + n ≤ 9223372036854775807) ∧ (-9223372036854775808 ≤ s1 + n + 1 ∧ s1 + n + (1 :
    Int) ≤ 9223372036854775807) ∧ (0 : Int) ≤ 1 ∧ ∀ (w1 : World), RowKit.Below w.heap.size w w1 → Kept [m2, m1] w w1 → R (Ending.returned (Value.agg #[Value.int IntKind.i64 ((s0 +
    n).fdiv (2 ^ min (Int.toNat 1) IntKind.i64.bits)), Value.int IntKind.i64 ((s1 + n + 1).fdiv (2 ^ min (Int.toNat 1) IntKind.i64.bits))])) w1) : Calls Try.prog 37 #[Value.agg
    #[Value.int IntKind.i64 s0, Value.int IntKind.i64 s1], Value.int IntKind.i64 n] w R := calls_of_vc (pure := true) (wrapAt := []) (muts := []) (esc := []) (args := [SV.pv
    (PV.agg [Lf.int IntKind.i64 s0, Lf.int IntKind.i64 s1]), SV.pv (PV.one (Lf.int IntKind.i64 n))]) (vs := [Value.agg #[Value.int IntKind.i64 s0, Value.int IntKind.i64 s1],
    Value.int IntKind.i64 n]) Try.func37 rfl rfl rfl (Eq.mp (by kernel_rfl) h) 
set_option maxRecDepth 100000 in
set_option maxHeartbeats 2000000 in
theorem vc38 (c0 : Int) (c1 : Int) (c2a : Option Addr) (c2n : Nat) (c2c : Nat) (c3 : Int) (c4 : Int) (c5 : Int) (c6 : Int) (w : World) (R : Ending → World → Prop) (h : ∀ (m1 :
    Nat), w.heap.size ≤ m1 → ∃ (F1 : List Lf → World → Prop), ∃ (F2 : List Lf → Nat), (∀ (w2 : World), RowKit.Below w.heap.size w w2 → Kept [m1] w w2 → F1 [Lf.int IntKind.i64 0,
    Lf.int IntKind.i64 0, Lf.int IntKind.i64 0, Lf.int IntKind.i64 0] w2) ∧ ∀ (x1 x2 x3 x4 : Int) (w3 : World), RowKit.Below w.heap.size w w3 → F1 [Lf.int IntKind.i64 x1, Lf.int
    IntKind.i64 x2, Lf.int IntKind.i64 x3, Lf.int IntKind.i64 x4] w3 → (x4 < (↑c2n : Int) → ∃ (m2 : Nat), ∃ (m3 : Nat), c2a = some { block := m2, off := m3 } ∧ (0 ≤ x4 ∧ x4 < (↑c2n
    : Int)) ∧ ∃ (x5 : Int), ∃ (x6 : Int), ∃ (x7 : Int), ∃ (t1 : Bool), w3.cell? { block := m2, off := m3 + x4.toNat * 4 } = some (Value.int IntKind.i64 x5) ∧ w3.cell?
    { block := m2, off := m3 + x4.toNat * 4 + 1 } = some (Value.int IntKind.i64 x6) ∧ w3.cell? { block := m2, off := m3 + x4.toNat * 4 + 1 + 1 } = some (Value.int IntKind.i64 x7) ∧
    w3.cell? { block := m2, off := m3 + x4.toNat * 4 + 1 + 1 + 1 } = some (Value.bool t1) ∧ (m2 < w.heap.size ∨ m2 ≠ m1) ∧ ∀ (m4 : Nat), w3.heap.size ≤ m4 → (t1 = true →
    (-9223372036854775808 ≤ x5 * x7 ∧ x5 * x7 ≤ 9223372036854775807) ∧ (-9223372036854775808 ≤ x1 - x5 * x7 ∧ x1 - x5 * x7 ≤ 9223372036854775807) ∧ (-9223372036854775808 ≤ x5 * x6
    ∧ x5 * x6 ≤ 9223372036854775807) ∧ (-9223372036854775808 ≤ x2 - x5 * x6 ∧ x2 - x5 * x6 ≤ 9223372036854775807) ∧ (-9223372036854775808 ≤ x3 - x5 ∧ x3 - x5 ≤ 9223372036854775807)
    ∧ (-9223372036854775808 ≤ x4 + 1 ∧ x4 + (1 : Int) ≤ 9223372036854775807) ∧ ∀ (w4 : World), RowKit.Below w.heap.size w w4 → Kept [m4, m1] w3 w4 → F1 [Lf.int IntKind.i64 (x1 - x5
    * x7), Lf.int IntKind.i64 (x2 - x5 * x6), Lf.int IntKind.i64 (x3 - x5), Lf.int IntKind.i64 (x4 + 1)] w4 ∧ F2 [Lf.int IntKind.i64 (x1 - x5 * x7), Lf.int IntKind.i64 (x2 - x5 *
    x6), Lf.int IntKind.i64 (x3 - x5), Lf.int IntKind.i64 (x4 + 1)] < F2 [Lf.int IntKind.i64 x1, Lf.int IntKind.i64 x2, Lf.int IntKind.i64 x3, Lf.int IntKind.i64 x4]) ∧ (t1 = false
    → (-9223372036854775808 ≤ x5 * x6 ∧ x5 * x6 ≤ 9223372036854775807) ∧ (-9223372036854775808 ≤ x1 + x5 * x6 ∧ x1 + x5 * x6 ≤ 9223372036854775807) ∧ (-9223372036854775808 ≤ x5 *
    x7 ∧ x5 * x7 ≤ 9223372036854775807) ∧ (-9223372036854775808 ≤ x2 + x5 * x7 ∧ x2 + x5 * x7 ≤ 9223372036854775807) ∧ (-9223372036854775808 ≤ x3 + x5 ∧ x3 + x5 ≤
    9223372036854775807) ∧ (-9223372036854775808 ≤ x4 + 1 ∧ x4 + (1 : Int) ≤ 9223372036854775807) ∧ ∀ (w5 : World), RowKit.Below w.heap.size w w5 → Kept [m4, m1] w3 w5 → F1 [Lf.int
    IntKind.i64 (x1 + x5 * x6), Lf.int IntKind.i64 (x2 + x5 * x7), Lf.int IntKind.i64 (x3 + x5), Lf.int IntKind.i64 (x4 + 1)] w5 ∧ F2 [Lf.int IntKind.i64 (x1 + x5 * x6), Lf.int
    IntKind.i64 (x2 + x5 * x7), Lf.int IntKind.i64 (x3 + x5), Lf.int IntKind.i64 (x4 + 1)] < F2 [Lf.int IntKind.i64 x1, Lf.int IntKind.i64 x2, Lf.int IntKind.i64 x3, Lf.int
    IntKind.i64 x4])) ∧ ((↑c2n : Int) ≤ x4 → ((-9223372036854775808 : Int) ≤ 0 - x1 ∧ 0 - x1 ≤ 9223372036854775807) ∧ ∀ (w6 : World), RowKit.Below w.heap.size w w6 → Kept [m1] w3
    w6 → R (Ending.returned (Value.tuple #[Value.int IntKind.i64 (max x2 (0 - x1)), Value.int IntKind.i64 x3])) w6)) : Calls Try.prog 38 #[Value.agg #[Value.int IntKind.i64 c0,
    Value.int IntKind.i64 c1, Value.slice c2a c2n c2c, Value.int IntKind.i64 c3, Value.int IntKind.i64 c4, Value.int IntKind.i64 c5, Value.int IntKind.i64 c6]] w R := calls_of_vc
    (pure := true) (wrapAt := []) (muts := []) (esc := []) (args := [SV.pv (PV.agg [Lf.int IntKind.i64 c0, Lf.int IntKind.i64 c1, Lf.sl c2a c2n c2c, Lf.int IntKind.i64 c3, Lf.int
    IntKind.i64 c4, Lf.int IntKind.i64 c5, Lf.int IntKind.i64 c6])]) (vs := [Value.agg #[Value.int IntKind.i64 c0, Value.int IntKind.i64 c1, Value.slice c2a c2n c2c, Value.int
    IntKind.i64 c3, Value.int IntKind.i64 c4, Value.int IntKind.i64 c5, Value.int IntKind.i64 c6]]) Try.func38 rfl rfl rfl (Eq.mp (by kernel_rfl) h) 
set_option maxRecDepth 100000 in
set_option maxHeartbeats 2000000 in
theorem vc76 (least : Int) (most : Int) (p2from : Int) (wide : Int) (w : World) (R : Ending → World → Prop) (h : ∀ (m1 : Nat), w.heap.size ≤ m1 → (-9223372036854775808 ≤ most -
    least ∧ most - least ≤ 9223372036854775807) ∧ (-9223372036854775808 ≤ p2from * (most - least) ∧ p2from * (most - least) ≤ 9223372036854775807) ∧ ((255 : Int) ≠ 0 ∧
    -9223372036854775808 ≤ (p2from * (most - least)).tdiv 255 ∧ (p2from * (most - least)).tdiv (255 : Int) ≤ 9223372036854775807) ∧ (-9223372036854775808 ≤ least + (p2from * (most
    - least)).tdiv 255 ∧ least + (p2from * (most - least)).tdiv (255 : Int) ≤ 9223372036854775807) ∧ (-9223372036854775808 ≤ most - least ∧ most - least ≤ 9223372036854775807) ∧
    (-9223372036854775808 ≤ wide * (most - least) ∧ wide * (most - least) ≤ 9223372036854775807) ∧ ((600 : Int) ≠ 0 ∧ -9223372036854775808 ≤ (wide * (most - least)).tdiv 600 ∧
    (wide * (most - least)).tdiv (600 : Int) ≤ 9223372036854775807) ∧ (-9223372036854775808 ≤ least + (p2from * (most - least)).tdiv 255 + (wide * (most - least)).tdiv 600 ∧ least
    + (p2from * (most - least)).tdiv 255 + (wide * (most - least)).tdiv (600 : Int) ≤ 9223372036854775807) ∧ ∀ (w1 : World), RowKit.Below w.heap.size w w1 → Kept [m1] w w1 → R
    (Ending.returned (Value.agg #[Value.int IntKind.i64 (least + (p2from * (most - least)).tdiv 255), Value.int IntKind.i64 (min most (least + (p2from * (most - least)).tdiv 255 +
    (wide * (most - least)).tdiv 600))])) w1) : Calls Try.prog 76 #[Value.int IntKind.i64 least, Value.int IntKind.i64 most, Value.int IntKind.i64 p2from, Value.int IntKind.i64
    wide] w R := calls_of_vc (pure := true) (wrapAt := []) (muts := []) (esc := []) (args := [SV.pv (PV.one (Lf.int IntKind.i64 least)), SV.pv (PV.one (Lf.int IntKind.i64 most)),
    SV.pv (PV.one (Lf.int IntKind.i64 p2from)), SV.pv (PV.one (Lf.int IntKind.i64 wide))]) (vs := [Value.int IntKind.i64 least, Value.int IntKind.i64 most, Value.int IntKind.i64
    p2from, Value.int IntKind.i64 wide]) Try.func76 rfl rfl rfl (Eq.mp (by kernel_rfl) h) 
set_option maxRecDepth 100000 in
set_option maxHeartbeats 2000000 in
theorem vc77 (i : Int) (cap0b : Nat) (w : World) (R : Ending → World → Prop) (h : ∃ (a1 : Option Addr), ∃ (m1 : Nat), ∃ (m2 : Nat), w.cell? { block := cap0b, off := 0 } = some
    (Value.slice a1 m1 m2) ∧ ((↑m1 : Int) = 0 → ∀ (w1 : World), RowKit.Below w.heap.size w w1 → Kept [] w w1 → R (Ending.returned (Value.int IntKind.i64 0)) w1) ∧ ((↑m1 : Int) ≠ 0
    → ∃ (a2 : Option Addr), ∃ (m3 : Nat), ∃ (m4 : Nat), w.cell? { block := cap0b, off := 0 } = some (Value.slice a2 m3 m4) ∧ ∃ (a3 : Option Addr), ∃ (m5 : Nat), ∃ (m6 : Nat),
    w.cell? { block := cap0b, off := 0 } = some (Value.slice a3 m5 m6) ∧ (↑m5 : Int) ≠ 0 ∧ ∃ (m7 : Nat), ∃ (m8 : Nat), a2 = some { block := m7, off := m8 } ∧ (0 ≤ i.tmod (↑m5 :
    Int) ∧ i.tmod (↑m5 : Int) < (↑m3 : Int)) ∧ ∃ (x1 : Int), w.cell? { block := m7, off := m8 + (i.tmod (↑m5 : Int)).toNat * 1 } = some (Value.int IntKind.u8 x1) ∧
    (-9223372036854775808 ≤ x1 ∧ x1 ≤ 9223372036854775807) ∧ ∀ (w2 : World), RowKit.Below w.heap.size w w2 → Kept [] w w2 → R (Ending.returned (Value.int IntKind.i64 x1)) w2)) :
    Calls Try.prog 77 #[Value.int IntKind.i64 i, Value.pointer (some { block := cap0b, off := 0 })] w R := calls_of_vc (pure := true) (wrapAt := []) (muts := []) (esc := []) (args
    := [SV.pv (PV.one (Lf.int IntKind.i64 i)), SV.pv (PV.one (Lf.ptr cap0b 0))]) (vs := [Value.int IntKind.i64 i, Value.pointer (some { block := cap0b, off := 0 })]) Try.func77 rfl
    rfl rfl (Eq.mp (by kernel_rfl) h) 
set_option maxRecDepth 100000 in
set_option maxHeartbeats 2000000 in
theorem vc78 (s0 : Int) (s1 : Int) (n : Int) (w : World) (R : Ending → World → Prop) (h : ∀ (m1 : Nat), w.heap.size ≤ m1 → (-9223372036854775808 ≤ s1 - s0 ∧ s1 - s0 ≤
    9223372036854775807) ∧ (-9223372036854775808 ≤ n * (s1 - s0) ∧ n * (s1 - s0) ≤ 9223372036854775807) ∧ ((255 : Int) ≠ 0 ∧ -9223372036854775808 ≤ (n * (s1 - s0)).tdiv 255 ∧ (n *
    (s1 - s0)).tdiv (255 : Int) ≤ 9223372036854775807) ∧ (-9223372036854775808 ≤ s0 + (n * (s1 - s0)).tdiv 255 ∧ s0 + (n * (s1 - s0)).tdiv (255 : Int) ≤ 9223372036854775807) ∧ ∀
    (w1 : World), RowKit.Below w.heap.size w w1 → Kept [m1] w w1 → R (Ending.returned (Value.int IntKind.i64 (s0 + (n * (s1 - s0)).tdiv 255))) w1) : Calls Try.prog 78 #[Value.agg
    #[Value.int IntKind.i64 s0, Value.int IntKind.i64 s1], Value.int IntKind.i64 n] w R := calls_of_vc (pure := true) (wrapAt := []) (muts := []) (esc := []) (args := [SV.pv
    (PV.agg [Lf.int IntKind.i64 s0, Lf.int IntKind.i64 s1]), SV.pv (PV.one (Lf.int IntKind.i64 n))]) (vs := [Value.agg #[Value.int IntKind.i64 s0, Value.int IntKind.i64 s1],
    Value.int IntKind.i64 n]) Try.func78 rfl rfl rfl (Eq.mp (by kernel_rfl) h) 
set_option maxRecDepth 100000 in
set_option maxHeartbeats 2000000 in
theorem vc79 (n : Int) (s0 : Int) (s1 : Int) (w : World) (R : Ending → World → Prop) (h : ∀ (m1 : Nat), w.heap.size ≤ m1 → (s0 ≤ n → ∀ (w1 : World), RowKit.Below w.heap.size w w1 →
    Kept [m1] w w1 → R (Ending.returned (Value.bool (decide (n ≤ s1)))) w1) ∧ (n < s0 → ∀ (w2 : World), RowKit.Below w.heap.size w w2 → Kept [m1] w w2 → R (Ending.returned
    (Value.bool false)) w2)) : Calls Try.prog 79 #[Value.int IntKind.i64 n, Value.agg #[Value.int IntKind.i64 s0, Value.int IntKind.i64 s1]] w R := calls_of_vc (pure := true)
    (wrapAt := []) (muts := []) (esc := []) (args := [SV.pv (PV.one (Lf.int IntKind.i64 n)), SV.pv (PV.agg [Lf.int IntKind.i64 s0, Lf.int IntKind.i64 s1])]) (vs := [Value.int
    IntKind.i64 n, Value.agg #[Value.int IntKind.i64 s0, Value.int IntKind.i64 s1]]) Try.func79 rfl rfl rfl (Eq.mp (by kernel_rfl) h) 
end Go.Proofs
end
section
/- The clocks that the plain laws make of small numbers. -/
namespace Go.Proofs.R03
open Go.Vc Go.RowKit Go.Proofs

abbrev U8 (n : Int) : Value := .int .u8 n
abbrev B8 (n : Int) : Prop := 0 ≤ n ∧ n ≤ 255
structure MRod where
  len : Int
  grow : Int
  more : Int
  up : Bool
def mrodC (r : MRod) : List Value := [.int .u16 r.len, U8 r.grow, U8 r.more, .bool r.up]
def mrods (l : List MRod) : List Value := l.flatMap mrodC
abbrev okM (r : MRod) : Prop := (0 ≤ r.len ∧ r.len ≤ 65535) ∧ B8 r.grow ∧ B8 r.more
structure Made where
  rods : List MRod
  kind : Int
  base : Int
  b0 : Int
  b1 : Int
  b2 : Int
  b3 : Int
structure OkMade (m : Made) : Prop where
  rods : ∀ r ∈ m.rods, okM r
  kind : B8 m.kind
  base : -32768 ≤ m.base ∧ m.base ≤ 32767
  b0 : B8 m.b0
  b1 : B8 m.b1
  b2 : B8 m.b2
  b3 : B8 m.b3
  few : m.rods.length ≤ maxLen
def Made.v (m : Made) (a : Option Addr) (n : Nat) : Value := .agg #[.slice a m.rods.length n, U8 m.kind, .int .i16 m.base, U8 m.b0, U8 m.b1, U8 m.b2, U8 m.b3]
theorem mrods_at {w : World} {a : Option Addr} {l : List MRod} (hc : Cells w a (mrods l)) {i : Nat} {x : MRod} (h : l[i]? = some x) : ∃ b o, a = some ⟨b, o, none⟩ ∧ b < w.heap.size ∧ w.cell? ⟨b, o + i * 4, none⟩ = some (.int .u16 x.len) ∧ w.cell? ⟨b, o + i * 4 + 1, none⟩ = some (U8 x.grow) ∧ w.cell? ⟨b, o + i * 4 + 1 + 1, none⟩ = some (U8 x.more) ∧ w.cell? ⟨b, o + i * 4 + 1 + 1 + 1, none⟩ = some (.bool x.up) := by
  have g1 : (mrods l)[i * 4]? = some (.int .u16 x.len) := flat_get (k := 4) (j := 0) (fun _ => rfl) h (by omega)
  have g2 : (mrods l)[i * 4 + 1]? = some (U8 x.grow) := flat_get (k := 4) (j := 1) (fun _ => rfl) h (by omega)
  have g3 : (mrods l)[i * 4 + 2]? = some (U8 x.more) := flat_get (k := 4) (j := 2) (fun _ => rfl) h (by omega)
  have g4 : (mrods l)[i * 4 + 3]? = some (.bool x.up) := flat_get (k := 4) (j := 3) (fun _ => rfl) h (by omega)
  obtain ⟨b, o, rfl, c1⟩ := hc _ _ g1
  exact ⟨b, o, rfl, cell_lt c1, c1, hc.at g2, hc.at g3, hc.at g4⟩

def stepM (st : Int × List Rod) (x : MRod) : Int × List Rod :=
  (if (x.up && decide (1 + x.len.tmod 4000 ≤ st.1)) = true then st.1 - (1 + x.len.tmod 4000) else st.1, st.2 ++ [⟨1 + x.len.tmod 4000, 20 * x.grow, 20 * x.grow + 3 * x.more, x.up && decide (1 + x.len.tmod 4000 ≤ st.1)⟩])
def clockL (l : List MRod) : Int × List Rod := l.foldl stepM (8000, [⟨9000, 1100, 1150, false⟩])
theorem clockL_take {l : List MRod} {i : Nat} (h : i < l.length) : clockL (l.take (i + 1)) = stepM (clockL (l.take i)) l[i] := by
  unfold clockL
  rw [List.take_add_one, getElem_of_lt h, List.foldl_append]; rfl
def clockC (m : Made) : Clk :=
  ⟨1 + m.kind.tmod 3, m.base, (clockL (m.rods.take 3)).2, (m.b0.tmod 100 - 50, m.b0.tmod 100 - 50 + m.b1.tmod 50), if 1 + m.kind.tmod 3 = 3 then (0, 0) else (if 1 + m.kind.tmod 3 = 1 then m.b2 - 200 else m.b2, m.b2 + m.b3)⟩
theorem tmod_rng {a b : Int} (ha : 0 ≤ a) (hb : 0 < b) : 0 ≤ a.tmod b ∧ a.tmod b < b := ⟨Int.tmod_nonneg b ha, Int.tmod_lt_of_pos a hb⟩
theorem clockL_len : ∀ (l : List MRod), (clockL l).2.length = 1 + l.length := by
  have h : ∀ (l : List MRod) (st : Int × List Rod), (l.foldl stepM st).2.length = st.2.length + l.length := fun l => by
    induction l with
    | nil => intro st; rfl
    | cons x l ih => intro st; rw [List.foldl_cons, ih]; simp [stepM]; omega
  intro l
  exact h l _
theorem clockL_left {l : List MRod} (hl : ∀ r ∈ l, okM r) : 0 ≤ (clockL l).1 ∧ (clockL l).1 ≤ 8000 := by
  have h : ∀ (l : List MRod) (st : Int × List Rod), (∀ r ∈ l, okM r) → 0 ≤ st.1 → st.1 ≤ 8000 → 0 ≤ (l.foldl stepM st).1 ∧ (l.foldl stepM st).1 ≤ 8000 := fun l => by
    induction l with
    | nil => intro st _ h1 h2; exact ⟨h1, h2⟩
    | cons x l ih =>
      intro st hx h1 h2
      rw [List.foldl_cons]
      have hm := tmod_rng (hx x List.mem_cons_self).1.1 (b := 4000) (by decide)
      refine ih _ (fun r hr => hx r (List.mem_cons_of_mem _ hr)) ?_ ?_
      · show 0 ≤ (if (x.up && decide (1 + x.len.tmod 4000 ≤ st.1)) = true then st.1 - (1 + x.len.tmod 4000) else st.1)
        split
        · rename_i g; simp at g; omega
        · exact h1
      · show (if (x.up && decide (1 + x.len.tmod 4000 ≤ st.1)) = true then st.1 - (1 + x.len.tmod 4000) else st.1) ≤ 8000
        split <;> omega
  exact h l _ hl (by decide) (by decide)

/-- The round of the loop, and where the rods lie. -/
def ClkInv (m : Made) (lo : Nat) (ns : List Nat) (l i k b : Int) (a : Option Addr) (n c : Nat) (w : World) : Prop :=
  0 ≤ i ∧ i ≤ 3 ∧ i ≤ m.rods.length ∧ l = (clockL (m.rods.take i.toNat)).1 ∧ k = 1 + m.kind.tmod 3 ∧ b = m.base ∧ n = (clockL (m.rods.take i.toNat)).2.length ∧ Row 80 4 lo ns a n c (rods (clockL (m.rods.take i.toNat)).2) w ∧ ∀ x ∈ ns, x < w.heap.size
theorem ClkInv.kept {m : Made} {lo : Nat} {ns : List Nat} {l i k b : Int} {a : Option Addr} {n c : Nat} {w w' : World} (h : ClkInv m lo ns l i k b a n c w) (hk : Kept ns w w') : ClkInv m lo ns l i k b a n c w' := by
  obtain ⟨h1, h2, h3, h4, h5, h6, h7, h8, h9⟩ := h
  exact ⟨h1, h2, h3, h4, h5, h6, h7, h8.chg (Chg.kept hk) fun _ hx => hx, fun x hx => hk.own x hx⟩
theorem ClkInv.more {m : Made} {lo : Nat} {ns ms : List Nat} {l i k b : Int} {a : Option Addr} {n c : Nat} {w w' : World} (h : ClkInv m lo ns l i k b a n c w) (hm : ∀ x ∈ ms, w.heap.size ≤ x) (hk : Kept (ms ++ ns) w w') : ClkInv m lo (ms ++ ns) l i k b a n c w' := by
  obtain ⟨h1, h2, h3, h4, h5, h6, h7, h8, h9⟩ := h
  exact ⟨h1, h2, h3, h4, h5, h6, h7, (h8.grow hm).chg (Chg.kept hk) fun _ hx => hx, fun x hx => hk.own x hx⟩

set_option maxHeartbeats 2000000 in
theorem clock_any (m : Made) {ra : Option Addr} {rc : Nat} {w : World} (hc : Cells w ra (mrods m.rods)) (hm : OkMade m) :
    Calls Try.prog 33 #[m.v ra rc] w fun e w' => ∃ a' n', e = .returned ((clockC m).v a' n') ∧ Below w.heap.size w w' ∧ RowZ 80 4 w.heap.size [] a' (clockC m).rods.length n' (rods (clockC m).rods) w' := by
  have q1 := tmod_rng hm.kind.1 (b := 3) (by decide)
  have q2 := tmod_rng hm.b0.1 (b := 100) (by decide)
  have q3 := tmod_rng hm.b1.1 (b := 50) (by decide)
  have r0 := hm.base; have r1 := hm.b0; have r2 := hm.b1; have r3 := hm.b2; have r4 := hm.b3
  have hfew := hm.few
  have hmx : maxLen ≤ 9223372036854775807 := by decide
  refine vc33 _ _ _ _ _ _ _ _ _ w _ fun m1 h1 m2 h2 => ⟨by decide, by omega, by omega, by omega, fun w1 hb1 hk1 m3 w2 e3 e2 m4 h4 => ?_⟩
  have own1 := hk1.own
  have z1 := hb1.size
  have s2 : w2.heap.size = w1.heap.size + 1 := by rw [e2]; show (w1.heap.push _).size = _; simp
  have hh : w2.heap[m3]? = some (.cells #[I 9000, I 1100, I 1150, .bool false] 80 (0, 0)) := by rw [e2, e3]; exact heap_alloc_new w1 _
  have R2 : Row 80 4 w.heap.size [m4, m2, m1] (some ⟨m3, 0, none⟩) 1 1 (rods [⟨9000, 1100, 1150, false⟩]) w2 := by
    refine ⟨⟨rfl, .inr ⟨m3, 1, _, rfl, by omega, hh, Nat.le_refl _, by decide, by decide, rfl⟩⟩, fun b o e => ?_⟩
    simp only [Option.some.injEq, Addr.mk.injEq, and_true] at e
    have := own1 m1 (by simp); have := own1 m2 (by simp)
    simp; omega
  refine ⟨fun ls w' => match ls with | [.int _ l, .int _ i, .int _ k, .int _ b, .sl a n c, .int _ y1, .int _ y2, .int _ y3, .int _ y4] => ClkInv m w.heap.size [m4, m2, m1] l i k b a n c w' ∧ y1 = 0 ∧ y2 = 0 ∧ y3 = 0 ∧ y4 = 0 | _ => False,
    fun ls => match ls with | _ :: .int _ i :: _ => (3 - i).toNat | _ => 0, fun w4 hb4 hk4 => ⟨⟨by omega, by omega, by omega, rfl, rfl, rfl, rfl, R2.chg (Chg.kept hk4) fun _ hx => hx, hk4.own⟩, rfl, rfl, rfl, rfl⟩, ?_⟩
  rintro l i k b a n c y1 y2 y3 y4 w5 hb5 ⟨hI, rfl, rfl, rfl, rfl⟩
  refine ⟨fun ls w' => match ls with | [.bool t, .int _ k', .int _ b', .sl a' n' c', .int _ y1, .int _ y2, .int _ y3, .int _ y4] => t = decide (i < m.rods.length ∧ i < 3) ∧ ClkInv m w.heap.size [m4, m2, m1] l i k' b' a' n' c' w' ∧ y1 = 0 ∧ y2 = 0 ∧ y3 = 0 ∧ y4 = 0 | _ => False,
    ⟨fun hi w7 hb7 hk7 _ => ⟨by simp [hi], hI.kept hk7, rfl, rfl, rfl, rfl⟩, fun hi w8 hb8 hk8 _ => ⟨by rw [eq_comm, decide_eq_false_iff_not]; omega, hI.kept hk8, rfl, rfl, rfl, rfl⟩⟩, ?_⟩
  clear hI
  rintro t1 k b a n c y1 y2 y3 y4 w9 hb9 ⟨rfl, hI, rfl, rfl, rfl, rfl⟩
  have hI' := hI
  obtain ⟨i0, i3, il, rfl, rfl, rfl, rfl, hrow, ho⟩ := hI'
  have hleft := clockL_left (l := m.rods.take i.toNat) fun r hr => hm.rods r (List.mem_of_mem_take hr)
  refine ⟨fun ht => ?_, fun ht => ?_⟩
  · obtain ⟨hi, hi3⟩ := of_decide_eq_true ht
    have hix : i.toNat < m.rods.length := by omega
    obtain ⟨b1, o1, rfl, hlt, c1, c2, c3, c4⟩ := mrods_at hc (getElem_of_lt hix)
    have hx := hm.rods _ (List.getElem_mem hix)
    have hstep := clockL_take hix
    generalize m.rods[i.toNat] = x at *
    obtain ⟨hx1, hx2, hx3⟩ := hx
    have q4 := tmod_rng hx1.1 (b := 4000) (by decide)
    refine ⟨b1, o1, rfl, ⟨i0, hi⟩, _, _, _, _, cell_keep hb9 c1, cell_keep hb9 c2, cell_keep hb9 c3, cell_keep hb9 c4, .inl hlt, fun m15 h15 => ⟨by omega, by decide, by omega, by omega, by omega, fun m16 h16 => ⟨by omega, by omega, by omega, ?_⟩⟩⟩
    have hnew : ∀ y ∈ [m16, m15], w9.heap.size ≤ y := by simp; omega
    refine ⟨fun ls w' => match ls with | [.bool t, .int _ k', .int _ b', .sl a' n' c', .int _ y1, .int _ y2, .int _ y3, .int _ y4, .int _ l0, .int _ l1, .int _ l2, .bool u] => t = (x.up && decide ((clockL (m.rods.take i.toNat)).1 < 1 + x.len.tmod 4000)) ∧ ClkInv m w.heap.size [m16, m15, m4, m2, m1] (clockL (m.rods.take i.toNat)).1 i k' b' a' n' c' w' ∧ y1 = 0 ∧ y2 = 0 ∧ y3 = 0 ∧ y4 = 0 ∧ l0 = 1 + x.len.tmod 4000 ∧ l1 = 20 * x.grow ∧ l2 = 20 * x.grow + 3 * x.more ∧ u = x.up | _ => False,
      ⟨fun hu w11 hb11 hk11 _ _ => ⟨by rw [hu]; simp, hI.more (ms := [m16, m15]) hnew hk11, rfl, rfl, rfl, rfl, rfl, rfl, rfl, rfl⟩, fun hu w12 hb12 hk12 _ => ⟨by rw [hu]; simp, hI.more (ms := [m16, m15]) hnew hk12, rfl, rfl, rfl, rfl, rfl, rfl, rfl, rfl⟩⟩, ?_⟩
    rintro t3 k b a n c y1 y2 y3 y4 l0 l1 l2 u w13 hb13 ⟨rfl, hJ, rfl, rfl, rfl, rfl, rfl, rfl, rfl, rfl⟩
    refine ⟨fun ls w' => match ls with | [.int _ k', .int _ b', .sl a' n' c', .int _ y1, .int _ y2, .int _ y3, .int _ y4, .int _ l0, .int _ l1, .int _ l2, .bool u] => ClkInv m w.heap.size [m16, m15, m4, m2, m1] (clockL (m.rods.take i.toNat)).1 i k' b' a' n' c' w' ∧ y1 = 0 ∧ y2 = 0 ∧ y3 = 0 ∧ y4 = 0 ∧ l0 = 1 + x.len.tmod 4000 ∧ l1 = 20 * x.grow ∧ l2 = 20 * x.grow + 3 * x.more ∧ u = (x.up && decide (1 + x.len.tmod 4000 ≤ (clockL (m.rods.take i.toNat)).1)) | _ => False,
      ⟨fun hu w15 hb15 hk15 _ => ⟨hJ.kept hk15, rfl, rfl, rfl, rfl, rfl, rfl, rfl, ?_⟩, fun hu w16 hb16 hk16 => ⟨hJ.kept hk16, rfl, rfl, rfl, rfl, rfl, rfl, rfl, ?_⟩⟩, ?_⟩
    · simp only [Bool.and_eq_true, decide_eq_true_eq] at hu
      rw [decide_eq_false (by omega), Bool.and_false]
    · simp only [Bool.and_eq_false_iff, decide_eq_false_iff_not] at hu
      rcases hu with hu | hu
      · rw [hu]; rfl
      · rw [decide_eq_true (by omega), Bool.and_true]
    clear hJ
    rintro k b a n c y1 y2 y3 y4 l0 l1 l2 u w17 hb17 ⟨hJ, rfl, rfl, rfl, rfl, rfl, rfl, rfl, hu⟩
    refine ⟨fun ls w' => match ls with | [.int _ l', .int _ k', .int _ b', .sl a' n' c', .int _ y1, .int _ y2, .int _ y3, .int _ y4, .int _ l0, .int _ l1, .int _ l2, .bool u'] => ClkInv m w.heap.size [m16, m15, m4, m2, m1] (clockL (m.rods.take i.toNat)).1 i k' b' a' n' c' w' ∧ y1 = 0 ∧ y2 = 0 ∧ y3 = 0 ∧ y4 = 0 ∧ l0 = 1 + x.len.tmod 4000 ∧ l1 = 20 * x.grow ∧ l2 = 20 * x.grow + 3 * x.more ∧ u' = (x.up && decide (1 + x.len.tmod 4000 ≤ (clockL (m.rods.take i.toNat)).1)) ∧ l' = (stepM (clockL (m.rods.take i.toNat)) x).1 | _ => False,
      ⟨fun ht => ⟨by omega, fun w19 hb19 hk19 _ => ⟨hJ.kept hk19, rfl, rfl, rfl, rfl, rfl, rfl, rfl, hu, by unfold stepM; rw [← hu, if_pos ht]⟩⟩, fun ht w20 hb20 hk20 => ⟨hJ.kept hk20, rfl, rfl, rfl, rfl, rfl, rfl, rfl, hu, by unfold stepM; rw [← hu, if_neg (by rw [ht]; decide)]⟩⟩, ?_⟩
    clear hJ hu
    rintro l k b a n c y1 y2 y3 y4 l0 l1 l2 u w21 hb21 ⟨hJ, rfl, rfl, rfl, rfl, rfl, rfl, rfl, rfl, rfl⟩
    intro m30 h30 w22 hb22 hk22 hc22
    obtain ⟨_, _, _, _, rfl, rfl, rfl, hrow, ho⟩ := hJ
    have R22 := (hrow.grow (ms := [m30]) (by simp; omega)).chg (Chg.kept hk22) fun _ hx => hx
    have hll := clockL_len (m.rods.take i.toNat)
    rw [List.length_take] at hll
    refine append_row (P := Try.prog) (bytes := 32) (by kernel_rfl) (by omega) R22 (m := 1) (news := rods [⟨1 + x.len.tmod 4000, 20 * x.grow, 20 * x.grow + 3 * x.more, x.up && decide (1 + x.len.tmod 4000 ≤ (clockL (m.rods.take i.toNat)).1)⟩]) (Cells.obj (vs := [I _, I _, I _, .bool _]) hc22) rfl (by simp [rods, rodC] <;> exact ⟨rfl, rfl, rfl, rfl⟩) (by omega) (by omega) hb22.size hk22.own fun a2 c2 w23 R23 S cS hS => ?_
    refine ⟨a2, _, c2, rfl, cS.own (fun b hb => ⟨hk22.own b hb, fun hh => (hS b hh).2 hb⟩) (by simp) (fun _ => ⟨hb22.size, fun b hb => (hS b hb).1⟩), by omega, fun w24 hb24 hk24 => ⟨⟨⟨by omega, by omega, by omega, ?_, rfl, rfl, ?_, ?_, fun b hb => hk24.own b (by simp at hb ⊢; omega)⟩, rfl, rfl, rfl, rfl⟩, ?_⟩⟩
    · rw [show (i + 1).toNat = i.toNat + 1 by omega, hstep]
    · rw [show (i + 1).toNat = i.toNat + 1 by omega, hstep]; simp [stepM]
    · have R24 := (R23.chg (Chg.kept hk24) fun b hb => hb).less (ns' := [m4, m2, m1]) (by simp)
      rw [show (i + 1).toNat = i.toNat + 1 by omega, hstep]
      simp only [stepM, rods, List.flatMap_append] at R24 ⊢
      exact R24
    · show (3 - (i + 1)).toNat < (3 - i).toNat
      omega
  · have hni : ¬ (i < m.rods.length ∧ i < 3) := of_decide_eq_false ht
    have htake : m.rods.take i.toNat = m.rods.take 3 := by
      by_cases h : i = 3
      · subst h; rfl
      · have : i.toNat = m.rods.length := by omega
        rw [this, List.take_length, List.take_of_length_le (by omega)]
    rw [htake] at hrow
    refine ⟨by omega, by decide, by omega, by omega, by decide, by omega, ?_⟩
    refine ⟨fun ls w' => match ls with | [.int _ k', .int _ b', .sl a' n' c', .int _ y1, .int _ y2, .int _ y3, .int _ y4] => k' = (clockC m).kind ∧ b' = m.base ∧ n' = (clockC m).rods.length ∧ y1 = (clockC m).air.1 ∧ y2 = (clockC m).air.2 ∧ y3 = (clockC m).drive.1 ∧ y4 = (clockC m).drive.2 ∧ Row 80 4 w.heap.size [m4, m2, m1] a' n' c' (rods (clockC m).rods) w' | _ => False,
      ⟨fun hk => ⟨by omega, by omega, by omega, ?_⟩, fun hk w31 hb31 hk31 => ⟨rfl, rfl, by rw [htake]; rfl, rfl, rfl, by simp [clockC, hk], by simp [clockC, hk], ?_⟩⟩, ?_⟩
    · refine ⟨fun ls w' => match ls with | [.int _ k', .int _ b', .sl a' n' c', .int _ y1, .int _ y2, .int _ y3, .int _ y4] => k' = (clockC m).kind ∧ b' = m.base ∧ n' = (clockC m).rods.length ∧ y1 = (clockC m).air.1 ∧ y2 = (clockC m).air.2 ∧ y3 = (clockC m).drive.1 ∧ y4 = (clockC m).drive.2 ∧ Row 80 4 w.heap.size [m4, m2, m1] a' n' c' (rods (clockC m).rods) w' | _ => False,
        ⟨fun h1 => ⟨by omega, fun w27 hb27 hk27 _ _ _ _ => ⟨rfl, rfl, by rw [htake]; rfl, rfl, rfl, by simp [clockC, hk, h1], by simp [clockC, hk, h1], ?_⟩⟩, fun h1 w28 hb28 hk28 => ⟨rfl, rfl, by rw [htake]; rfl, rfl, rfl, by simp [clockC, hk, h1], by simp [clockC, hk], ?_⟩⟩, ?_⟩
      · rw [htake]; exact hrow.chg (Chg.kept hk27) fun _ hx => hx
      · rw [htake]; exact hrow.chg (Chg.kept hk28) fun _ hx => hx
      · rintro k' b' a' n' c' y1 y2 y3 y4 w29 hb29 ⟨rfl, rfl, rfl, rfl, rfl, rfl, rfl, R29⟩
        intro w30 hb30 hk30 _ _ _ _ _ _ _ _ _ _ _
        exact ⟨rfl, rfl, rfl, rfl, rfl, rfl, rfl, R29.chg (Chg.kept hk30) fun _ hx => hx⟩
    · rw [htake]; exact hrow.chg (Chg.kept hk31) fun _ hx => hx
    · rintro k' b' a' n' c' y1 y2 y3 y4 w32 hb32 ⟨rfl, rfl, rfl, rfl, rfl, rfl, rfl, R32⟩
      intro w33 hb33 hk33
      exact ⟨a', c', rfl, hb33, .inr ((R32.chg (Chg.kept hk33) fun _ hx => hx).less (by simp))⟩
end Go.Proofs.R03
end
section
/- The bounds and the truths that the plain laws make; within; narrower spans; the effect of a clock. -/
namespace Go.Proofs.R03
open Go.Vc Go.RowKit Go.Proofs

theorem tdiv_rng {a b A : Int} (ha : 0 ≤ a ∧ a ≤ A) (hb : 0 < b) : 0 ≤ a.tdiv b ∧ a.tdiv b ≤ A := by
  rw [Int.tdiv_eq_ediv_of_nonneg ha.1]
  exact ⟨Int.ediv_nonneg ha.1 (by omega), Int.le_trans (Int.ediv_le_self b ha.1) ha.2⟩

/-- bounds$1 -/
def sB (least most f wd : Int) : Sp := (least + (f * (most - least)).tdiv 255, min most (least + (f * (most - least)).tdiv 255 + (wd * (most - least)).tdiv 600))
theorem frac255 {f D : Int} (hf : B8 f) (hD : 0 ≤ D) : 0 ≤ (f * D).tdiv 255 ∧ (f * D).tdiv 255 ≤ D := by
  have h1 : 0 ≤ f * D := Int.mul_nonneg hf.1 hD
  have h2 : f * D ≤ 255 * D := Int.mul_le_mul_of_nonneg_right hf.2 hD
  rw [Int.tdiv_eq_ediv_of_nonneg h1]
  omega
theorem frac600 {f D : Int} (hf : B8 f) (hD : 0 ≤ D) : 0 ≤ (f * D).tdiv 600 ∧ (f * D).tdiv 600 ≤ D := by
  have h1 : 0 ≤ f * D := Int.mul_nonneg hf.1 hD
  have h2 : f * D ≤ 255 * D := Int.mul_le_mul_of_nonneg_right hf.2 hD
  rw [Int.tdiv_eq_ediv_of_nonneg h1]
  omega
theorem sB_ok {l m f wd : Int} (h : l ≤ m) (hf : B8 f) (hw : B8 wd) : okS (sB l m f wd) l m := by
  have g1 := frac255 hf (D := m - l) (by omega)
  have g2 := frac600 hw (D := m - l) (by omega)
  unfold sB
  simp only [okS]
  omega
theorem sB_any {l m f wd : Int} (h : l ≤ m) (hl : -10000 ≤ l ∧ m ≤ 10000) (hf : B8 f) (hw : B8 wd) (w : World) : Calls Try.prog 76 #[I l, I m, I f, I wd] w (Pure w (spv (sB l m f wd))) := by
  have g1 := frac255 hf (D := m - l) (by omega)
  have g2 := frac600 hw (D := m - l) (by omega)
  have h1 : 0 ≤ f * (m - l) := Int.mul_nonneg hf.1 (by omega)
  have h2 : f * (m - l) ≤ 255 * (m - l) := Int.mul_le_mul_of_nonneg_right hf.2 (by omega)
  have h3 : 0 ≤ wd * (m - l) := Int.mul_nonneg hw.1 (by omega)
  have h4 : wd * (m - l) ≤ 255 * (m - l) := Int.mul_le_mul_of_nonneg_right hw.2 (by omega)
  exact vc76 _ _ _ _ w _ fun m1 _ => ⟨by omega, by omega, ⟨by decide, by omega, by omega⟩, by omega, by omega, by omega, ⟨by decide, by omega, by omega⟩, by omega, fun w1 hb _ => ⟨rfl, hb⟩⟩

structure Wx where
  f0 : Int
  f1 : Int
  f2 : Int
  f3 : Int
  w0 : Int
  w1 : Int
  w2 : Int
  w3 : Int
structure OkWx (x : Wx) : Prop where
  f0 : B8 x.f0
  f1 : B8 x.f1
  f2 : B8 x.f2
  f3 : B8 x.f3
  w0 : B8 x.w0
  w1 : B8 x.w1
  w2 : B8 x.w2
  w3 : B8 x.w3
def Wx.v (x : Wx) : Value := .agg #[U8 x.f0, U8 x.f1, U8 x.f2, U8 x.f3, U8 x.w0, U8 x.w1, U8 x.w2, U8 x.w3]
def boundsW (x : Wx) : Bn := ⟨sB (-400) 400 x.f0 x.w0, sB (-300) 300 x.f1 x.w1, sB 0 300 x.f2 x.w2, sB (-40) 40 x.f3 x.w3⟩
theorem boundsW_ok {x : Wx} (h : OkWx x) : OkB (boundsW x) := by
  have h1 := sB_ok (l := -400) (m := 400) (by decide) h.f0 h.w0
  have h2 := sB_ok (l := -300) (m := 300) (by decide) h.f1 h.w1
  have h3 := sB_ok (l := 0) (m := 300) (by decide) h.f2 h.w2
  have h4 := sB_ok (l := -40) (m := 40) (by decide) h.f3 h.w3
  simp only [okS] at h1 h2 h3 h4
  unfold boundsW OkB
  simp only [okS]
  omega
theorem boundsW_any {x : Wx} (h : OkWx x) (w : World) : Calls Try.prog 34 #[x.v] w (Pure w (boundsW x).v) := by
  obtain ⟨h0, h1, h2, h3, h4, h5, h6, h7⟩ := h
  refine vc34 _ _ _ _ _ _ _ _ w _ fun m1 _ m2 _ => ⟨by omega, by omega, fun w1 hb1 _ => ?_⟩
  refine Pure.calls (sB_any (l := -400) (m := 400) (by decide) (by decide) h0 h4 w1) fun w2 hb2 => ⟨_, _, rfl, .all hb2, by omega, by omega, fun w3 hb3 _ => ?_⟩
  refine Pure.calls (sB_any (l := -300) (m := 300) (by decide) (by decide) h1 h5 w3) fun w4 hb4 => ⟨_, _, rfl, .all hb4, by omega, by omega, fun w5 hb5 _ => ?_⟩
  refine Pure.calls (sB_any (l := 0) (m := 300) (by decide) (by decide) h2 h6 w5) fun w6 hb6 => ⟨_, _, rfl, .all hb6, by omega, by omega, fun w7 hb7 _ => ?_⟩
  exact Pure.calls (sB_any (l := -40) (m := 40) (by decide) (by decide) h3 h7 w7) fun w8 hb8 => ⟨_, _, rfl, .all hb8, fun w9 hb9 _ => ⟨rfl, hb9⟩⟩

/-- inside -/
def insideS (s : Sp) (n : Int) : Int := s.1 + (n * (s.2 - s.1)).tdiv 255
theorem insideS_in {s : Sp} {n : Int} (h : s.1 ≤ s.2) (hn : B8 n) : s.1 ≤ insideS s n ∧ insideS s n ≤ s.2 := by
  have := frac255 hn (D := s.2 - s.1) (by omega)
  unfold insideS
  omega
theorem insideS_any {s : Sp} {n : Int} (h : s.1 ≤ s.2) (hs : -10000000 ≤ s.1 ∧ s.2 ≤ 10000000) (hn : B8 n) (w : World) : Calls Try.prog 78 #[spv s, I n] w (Pure w (I (insideS s n))) := by
  have g1 := frac255 hn (D := s.2 - s.1) (by omega)
  have h1 : 0 ≤ n * (s.2 - s.1) := Int.mul_nonneg hn.1 (by omega)
  have h2 : n * (s.2 - s.1) ≤ 255 * (s.2 - s.1) := Int.mul_le_mul_of_nonneg_right hn.2 (by omega)
  exact vc78 _ _ _ w _ fun m1 _ => ⟨by omega, by omega, ⟨by decide, by omega, by omega⟩, by omega, fun w1 hb _ => ⟨rfl, hb⟩⟩

def bytes8 (l : List Int) : List Value := l.map U8
def byteAt (l : List Int) (i : Int) : Int := if l.length = 0 then 0 else l.getD (i.tmod l.length).toNat 0
theorem byteAt_ok {l : List Int} (h : ∀ x ∈ l, B8 x) (i : Int) : B8 (byteAt l i) := by
  unfold byteAt
  split
  · decide
  · by_cases hx : (i.tmod l.length).toNat < l.length
    · simp only [List.getD, List.getElem?_eq_getElem hx, Option.getD_some]
      exact h _ (List.getElem_mem hx)
    · rw [List.getD, List.getElem?_eq_none (by omega)]; decide
theorem byteAt_any {l : List Int} {i : Int} (hi : 0 ≤ i) (h : ∀ x ∈ l, B8 x) {b : Nat} {a : Option Addr} {c : Nat} {w : World} (hc : w.cell? ⟨b, 0, none⟩ = some (.slice a l.length c)) (hl : Cells w a (bytes8 l)) :
    Calls Try.prog 77 #[I i, .pointer (some ⟨b, 0, none⟩)] w (Pure w (I (byteAt l i))) := by
  refine vc77 _ _ w _ ⟨a, l.length, c, hc, fun h0 w1 hb _ => ⟨by unfold byteAt; rw [if_pos (by omega)], hb⟩, fun h0 => ⟨_, _, _, hc, _, _, _, hc, h0, ?_⟩⟩
  have hpos : (0 : Int) < l.length := by omega
  have hm := tmod_rng hi hpos
  have hx : (i.tmod l.length).toNat < l.length := by omega
  have hg : (bytes8 l)[(i.tmod l.length).toNat]? = some (U8 l[(i.tmod l.length).toNat]) := by simp [bytes8, hx]
  obtain ⟨b1, o1, e, hcell⟩ := hl _ _ hg
  have h8 := h _ (List.getElem_mem hx)
  refine ⟨b1, o1, e, hm, _, by rw [Nat.mul_one]; exact hcell, by omega, fun w2 hb _ => ⟨?_, hb⟩⟩
  unfold byteAt
  rw [if_neg (by omega)]
  simp [List.getD, hx]

/-- truth -/
def truthOf (c : Clk) (b : Bn) (by_ : List Int) : Tr :=
  ⟨(List.range c.rods.length).map fun i => insideS ((c.rods.getD i ⟨0, 0, 0, false⟩).lo, (c.rods.getD i ⟨0, 0, 0, false⟩).hi) (byteAt by_ (6 + (i : Int))), insideS c.air (byteAt by_ 0), insideS c.drive (byteAt by_ 1), insideS b.heat (byteAt by_ 2), insideS b.press (byteAt by_ 3), insideS b.arc (byteAt by_ 4), insideS b.force (byteAt by_ 5)⟩
def truthN (c : Clk) (by_ : List Int) (n : Nat) : List Int := (List.range n).map fun i => insideS ((c.rods.getD i ⟨0, 0, 0, false⟩).lo, (c.rods.getD i ⟨0, 0, 0, false⟩).hi) (byteAt by_ (6 + (i : Int)))
theorem truthN_step (c : Clk) (by_ : List Int) {n : Nat} (h : n < c.rods.length) : truthN c by_ (n + 1) = truthN c by_ n ++ [insideS (c.rods[n].lo, c.rods[n].hi) (byteAt by_ (6 + (n : Int)))] := by
  unfold truthN
  rw [List.range_succ, List.map_append]
  simp [List.getD, h]
theorem truthN_len (c : Clk) (by_ : List Int) (n : Nat) : (truthN c by_ n).length = n := by simp [truthN]

theorem ints_app (l m : List Int) : ints (l ++ m) = ints l ++ ints m := by simp [ints]
theorem ints_len (l : List Int) : (ints l).length = l.length := by simp [ints]

set_option maxHeartbeats 2000000 in
theorem truthOf_any (c : Clk) (b : Bn) {by_ : List Int} {ra ba : Option Addr} {rc bc : Nat} {w : World} (hc : Cells w ra (rods c.rods)) (hB : Cells w ba (bytes8 by_)) (h8 : ∀ x ∈ by_, B8 x) (hk : check c = 0) (hb : OkB b) :
    Calls Try.prog 35 #[c.v ra rc, b.v, .slice ba by_.length bc] w (TrPost (truthOf c b by_) w) := by
  obtain ⟨hl8, hrn, hrod, hlen, hbase, hair, hdr⟩ := check_len hk
  obtain ⟨b1, b2, b3, b4⟩ := hb
  have hdr' : c.drive.1 ≤ c.drive.2 ∧ -1000 ≤ c.drive.1 ∧ c.drive.2 ≤ 1000 := by unfold driveOk at hdr; simp only [okS] at hdr; omega
  simp only [okS] at hair b1 b2 b3 b4
  have at_ := fun (i : Int) => byteAt_ok h8 i
  refine vc35 _ _ _ _ _ _ _ _ _ _ _ _ _ _ _ _ _ _ _ _ w _ fun m1 h1 m2 h2 m3 h3 m4 h4 w1 hb1 hk1 hc1 => ?_
  refine Pure.calls (byteAt_any (by decide) h8 (cell_obj (vs := [_]) hc1 rfl) (hB.keep hb1)) fun w2 hb2 => ⟨_, rfl, hb2, fun w3 hb3 _ => ?_⟩
  refine Pure.calls (insideS_any hair.2.1 (by omega) (at_ 0) w3) fun w4 hb4 => ⟨_, rfl, hb4, fun w5 hb5 _ hc5 => ?_⟩
  refine Pure.calls (byteAt_any (by decide) h8 (cell_obj (vs := [_]) hc5 rfl) (hB.keep hb5)) fun w6 hb6 => ⟨_, rfl, hb6, fun w7 hb7 _ => ?_⟩
  refine Pure.calls (insideS_any hdr'.1 (by omega) (at_ 1) w7) fun w8 hb8 => ⟨_, rfl, hb8, fun w9 hb9 _ hc9 => ?_⟩
  refine Pure.calls (byteAt_any (by decide) h8 (cell_obj (vs := [_]) hc9 rfl) (hB.keep hb9)) fun w10 hb10 => ⟨_, rfl, hb10, fun w11 hb11 _ => ?_⟩
  refine Pure.calls (insideS_any b1.2.1 (by omega) (at_ 2) w11) fun w12 hb12 => ⟨_, rfl, hb12, fun w13 hb13 _ hc13 => ?_⟩
  refine Pure.calls (byteAt_any (by decide) h8 (cell_obj (vs := [_]) hc13 rfl) (hB.keep hb13)) fun w14 hb14 => ⟨_, rfl, hb14, fun w15 hb15 _ => ?_⟩
  refine Pure.calls (insideS_any b2.2.1 (by omega) (at_ 3) w15) fun w16 hb16 => ⟨_, rfl, hb16, fun w17 hb17 _ hc17 => ?_⟩
  refine Pure.calls (byteAt_any (by decide) h8 (cell_obj (vs := [_]) hc17 rfl) (hB.keep hb17)) fun w18 hb18 => ⟨_, rfl, hb18, fun w19 hb19 _ => ?_⟩
  refine Pure.calls (insideS_any b3.2.1 (by omega) (at_ 4) w19) fun w20 hb20 => ⟨_, rfl, hb20, fun w21 hb21 _ hc21 => ?_⟩
  refine Pure.calls (byteAt_any (by decide) h8 (cell_obj (vs := [_]) hc21 rfl) (hB.keep hb21)) fun w22 hb22 => ⟨_, rfl, hb22, fun w23 hb23 _ => ?_⟩
  refine Pure.calls (insideS_any b4.2.1 (by omega) (at_ 5) w23) fun w24 hb24 => ⟨_, rfl, hb24, fun m11 h11 _ _ _ _ _ _ _ _ _ _ _ _ => ?_⟩
  refine ⟨fun ls w' => match ls with | [.int _ i, .sl a n g, .int _ q1, .int _ q2, .int _ q3, .int _ q4, .int _ q5, .int _ q6] => 0 ≤ i ∧ i ≤ c.rods.length ∧ n = i.toNat ∧ q1 = insideS c.air (byteAt by_ 0) ∧ q2 = insideS c.drive (byteAt by_ 1) ∧ q3 = insideS b.heat (byteAt by_ 2) ∧ q4 = insideS b.press (byteAt by_ 3) ∧ q5 = insideS b.arc (byteAt by_ 4) ∧ q6 = insideS b.force (byteAt by_ 5) ∧ Row 3 1 w.heap.size [m11, m4, m3, m2, m1] a n g (ints (truthN c by_ i.toNat)) w' ∧ ∀ x ∈ [m11, m4, m3, m2, m1], x < w'.heap.size | _ => False,
    fun ls => match ls with | .int _ i :: _ => (c.rods.length - i).toNat | _ => 0, fun w26 hb26 hk26 => ⟨by omega, by omega, rfl, rfl, rfl, rfl, rfl, rfl, rfl, Row.nil, hk26.own⟩, ?_⟩
  rintro i a n g q1 q2 q3 q4 q5 q6 w27 hb27 ⟨i0, il, rfl, rfl, rfl, rfl, rfl, rfl, rfl, hrow, ho⟩
  refine ⟨fun hi => ⟨by omega, fun w28 hb28 hk28 hc28 => ?_⟩, fun hi w35 hb35 hk35 => ?_⟩
  · have hix : i.toNat < c.rods.length := by omega
    refine Pure.calls (byteAt_any (i := 6 + i) (by omega) h8 (cell_obj (vs := [_]) hc28 rfl) (hB.keep hb28)) fun w29 hb29 => ⟨_, rfl, hb29, ?_⟩
    obtain ⟨b1, o1, rfl, hlt, c1, c2, c3, c4⟩ := rods_at hc (getElem_of_lt hix)
    have hr := (hrod _ (List.getElem_mem hix)).2
    simp only [okS] at hr
    refine ⟨b1, o1, rfl, ⟨i0, hi⟩, _, _, cell_keep hb27 c2, cell_keep hb27 c3, .inl hlt, fun w30 hb30 hk30 => ?_⟩
    refine Pure.calls (insideS_any (s := (c.rods[i.toNat].lo, c.rods[i.toNat].hi)) hr.2.1 (by simp only; omega) (at_ (6 + i)) w30) fun w31 hb31 => ⟨_, rfl, .all hb31, fun m18 h18 w32 hb32 hk32 hc32 => ?_⟩
    have z28 := hk28.size; have z29 := hb29.size; have z30 := hk30.size; have z31 := hb31.size
    have C28 : Chg [m11, m4, m3, m2, m1] w27 w28 := hk28.chg
    have L31 : LowK w27.heap.size [m11, m4, m3, m2, m1] w27 w31 := (((C28.low (Nat.le_refl _)).trans (LowK.of_below hb29 (by omega))).trans (hk30.low (by omega))).trans (LowK.of_below hb31 (by omega))
    have R31 : Row 3 1 w.heap.size [m11, m4, m3, m2, m1] a i.toNat g (ints (truthN c by_ i.toNat)) w31 := hrow.of fun b o e => L31 b (hrow.lt b o e).2 (hrow.ns b o e)
    have R32 := (R31.grow (ms := [m18]) (by simp; omega)).of (w' := w32) fun b o e => by
      have := R31.lt b o e
      exact hk32.block b this.2 (by
        have g1 := R31.ns b o e
        simp only [List.mem_cons, List.not_mem_nil, or_false] at g1 ⊢
        omega) ⟨_, List.mem_cons_self, Nat.zero_le _, this.2⟩
    refine append_row (P := Try.prog) (bytes := 8) (by kernel_rfl) (by omega) R32 (m := 1) (news := ints [insideS (c.rods[i.toNat].lo, c.rods[i.toNat].hi) (byteAt by_ (6 + i))]) (Cells.obj (vs := [I _]) hc32) rfl (by simp [ints] <;> rfl) (by omega) (by omega) hb32.size hk32.own fun a2 c2 w33 R33 S cS hS => ?_
    refine ⟨a2, _, c2, rfl, cS.own (fun b hb => ⟨hk32.own b hb, fun hh => (hS b hh).2 hb⟩) (by simp) (fun _ => ⟨hb32.size, fun b hb => (hS b hb).1⟩), by omega, fun w34 hb34 hk34 => ⟨⟨by omega, by omega, by omega, rfl, rfl, rfl, rfl, rfl, rfl, ?_, fun b hb => hk34.own b (by simp at hb ⊢; omega)⟩, ?_⟩⟩
    · have R34 := (R33.chg (Chg.kept hk34) fun b hb => hb).less (ns' := [m11, m4, m3, m2, m1]) (by simp)
      rw [show (i + 1).toNat = i.toNat + 1 by omega, truthN_step c by_ hix, ints_app, show (((i.toNat : Nat) : Int)) = i by omega]
      exact R34
    · show ((c.rods.length : Int) - (i + 1)).toNat < ((c.rods.length : Int) - i).toNat
      omega
  · have hi' : i.toNat = c.rods.length := by omega
    have R35 := (hrow.chg (Chg.kept hk35) fun b hb => hb).less (ns' := []) (by simp)
    rw [hi'] at R35 ⊢
    have e : (truthOf c b by_).grow = truthN c by_ c.rods.length := rfl
    refine ⟨a, g, ?_, hb35, ?_⟩
    · unfold Tr.v
      rw [e, truthN_len]; rfl
    · rw [e, truthN_len]; exact .inr R35
end Go.Proofs.R03
end
section
/- Small numbers, opened. -/
namespace Go.Proofs.R03
open Go.Vc Go.RowKit Go.Proofs

abbrev L8 : Leaf := .int .u8
abbrev L16 : Leaf := .int .u16
abbrev Ls16 : Leaf := .int .i16
abbrev lvMade : List Leaf := [.sl [L16, L8, L8, .bool], L8, Ls16, L8, L8, L8, L8]
abbrev lvWx : List Leaf := [L8, L8, L8, L8, L8, L8, L8, L8]
theorem leaves_made : leaves Try.prog 6 68 = some lvMade := by kernel_rfl
theorem leaves_wx : leaves Try.prog 6 70 = some lvWx := by kernel_rfl
theorem leaves_bs : leaves Try.prog 6 71 = some [.sl [L8]] := by kernel_rfl
theorem leaves_moved : leaves Try.prog 8 82 = some (lvMade ++ lvWx ++ [.sl [L8], Ls16]) := by kernel_rfl
theorem leaves_wx2 : leaves Try.prog 8 84 = some (lvWx ++ lvWx) := by kernel_rfl
theorem leaves_bs2 : leaves Try.prog 8 85 = some [.sl [L8], .sl [L8]] := by kernel_rfl
theorem leaves_u8 : leaves Try.prog 6 5 = some [L8] := by kernel_rfl
theorem leaves_u16 : leaves Try.prog 6 87 = some [L16] := by kernel_rfl
theorem agg_made : isAggB Try.prog 68 = true := by kernel_rfl
theorem agg_wx : isAggB Try.prog 70 = true := by kernel_rfl
theorem agg_bs : isAggB Try.prog 71 = false := by kernel_rfl
theorem agg_moved : isAggB Try.prog 82 = true := by kernel_rfl
theorem agg_wx2 : isAggB Try.prog 84 = true := by kernel_rfl
theorem agg_bs2 : isAggB Try.prog 85 = true := by kernel_rfl
theorem agg_u8 : isAggB Try.prog 5 = false := by kernel_rfl
theorem agg_u16 : isAggB Try.prog 87 = false := by kernel_rfl
section
variable {w : World}
theorem take_k {k : IntKind} {ls : List Leaf} {cs : List Value} (h : LeavesAre w (.int k :: ls) cs) : ∃ x r, cs = .int k x :: r ∧ rng k x ∧ LeavesAre w ls r := by
  obtain ⟨v, r, rfl, h1, h2⟩ := h.cons'
  obtain ⟨x, rfl, hx⟩ := h1.int'
  exact ⟨x, r, rfl, hx, h2⟩
theorem bytes_flat (l : List Int) : (l.flatMap fun b => [U8 b]) = bytes8 l := by
  induction l with
  | nil => rfl
  | cons b l ih => rw [List.flatMap_cons, ih]; rfl
theorem take_bytes {v : Value} (h : LeafIs w (.sl [L8]) v) : ∃ a c, ∃ l : List Int, v = .slice a l.length c ∧ Cells w a (bytes8 l) ∧ ∀ x ∈ l, B8 x := by
  obtain ⟨a, c, l, rfl, h1, h2, h3, h4⟩ := h.sl' (fun b : Int => [U8 b]) B8 fun x hx => by
    obtain ⟨p, r, rfl, up, h⟩ := take_k hx
    rw [h.nil']
    exact ⟨p, rfl, up⟩
  rw [bytes_flat] at h3
  exact ⟨a, c, l, rfl, h3, h4⟩
theorem take_mrods {v : Value} (h : LeafIs w (.sl [L16, L8, L8, .bool]) v) : ∃ a c, ∃ l : List MRod, v = .slice a l.length c ∧ Cells w a (mrods l) ∧ (∀ x ∈ l, okM x) ∧ l.length ≤ maxLen := by
  obtain ⟨a, c, l, rfl, h1, h2, h3, h4⟩ := h.sl' mrodC okM fun x hx => by
    obtain ⟨x0, _, rfl, g0, hx⟩ := take_k hx
    obtain ⟨x1, _, rfl, g1, hx⟩ := take_k hx
    obtain ⟨x2, _, rfl, g2, hx⟩ := take_k hx
    obtain ⟨v, r, rfl, g3, g4⟩ := hx.cons'
    obtain ⟨b, rfl⟩ := g3.bool'
    rw [g4.nil']
    exact ⟨⟨x0, x1, x2, b⟩, rfl, g0, g1, g2⟩
  exact ⟨a, c, l, rfl, h3, h4, Nat.le_trans h1 h2⟩
theorem take_made {ls : List Leaf} {cs : List Value} (h : LeavesAre w (lvMade ++ ls) cs) : ∃ (m : Made) (a : Option Addr) (n : Nat) (r : List Value), cs = [.slice a m.rods.length n, U8 m.kind, .int .i16 m.base, U8 m.b0, U8 m.b1, U8 m.b2, U8 m.b3] ++ r ∧ OkMade m ∧ Cells w a (mrods m.rods) ∧ LeavesAre w ls r := by
  obtain ⟨u, r1, rfl, gu, g⟩ := h.cons'
  obtain ⟨a, n, l, rfl, hl, ho, hf⟩ := take_mrods gu
  obtain ⟨x0, _, rfl, h0, h⟩ := take_k g
  obtain ⟨x1, _, rfl, h1, h⟩ := take_k h
  obtain ⟨x2, _, rfl, h2, h⟩ := take_k h
  obtain ⟨x3, _, rfl, h3, h⟩ := take_k h
  obtain ⟨x4, _, rfl, h4, h⟩ := take_k h
  obtain ⟨x5, _, rfl, h5, h⟩ := take_k h
  exact ⟨⟨l, x0, x1, x2, x3, x4, x5⟩, a, n, _, rfl, ⟨ho, h0, h1, h2, h3, h4, h5, hf⟩, hl, h⟩
theorem take_wx {ls : List Leaf} {cs : List Value} (h : LeavesAre w (lvWx ++ ls) cs) : ∃ (x : Wx) (r : List Value), cs = [U8 x.f0, U8 x.f1, U8 x.f2, U8 x.f3, U8 x.w0, U8 x.w1, U8 x.w2, U8 x.w3] ++ r ∧ OkWx x ∧ LeavesAre w ls r := by
  obtain ⟨x0, _, rfl, h0, h⟩ := take_k h
  obtain ⟨x1, _, rfl, h1, h⟩ := take_k h
  obtain ⟨x2, _, rfl, h2, h⟩ := take_k h
  obtain ⟨x3, _, rfl, h3, h⟩ := take_k h
  obtain ⟨x4, _, rfl, h4, h⟩ := take_k h
  obtain ⟨x5, _, rfl, h5, h⟩ := take_k h
  obtain ⟨x6, _, rfl, h6, h⟩ := take_k h
  obtain ⟨x7, _, rfl, h7, h⟩ := take_k h
  exact ⟨⟨x0, x1, x2, x3, x4, x5, x6, x7⟩, _, rfl, ⟨h0, h1, h2, h3, h4, h5, h6, h7⟩, h⟩
variable {H : Type} {enc : TypeId × Value → H} {base b0 : Nat} {held : Bool} {spare : Nat → Bool} {reach : Reach}
set_option maxRecDepth 100000 in
theorem open_made {v : Value} {d : DataW H} {ps : List MemPlace} (hv : Value.okWide Try.prog w reach b0 68 v) (hd : DataW.Trod enc Try.prog w base spare held 68 v d ps) :
    ∃ (m : Made) (a : Option Addr) (n : Nat), v = m.v a n ∧ OkMade m ∧ Cells w a (mrods m.rods) := by
  obtain ⟨cs, rfl, h⟩ := open_agg agg_made leaves_made hv hd
  obtain ⟨m, a, n, r, rfl, h1, h2, h3⟩ := take_made (ls := []) h
  rw [h3.nil']
  exact ⟨m, a, n, rfl, h1, h2⟩
set_option maxRecDepth 100000 in
theorem open_wx {v : Value} {d : DataW H} {ps : List MemPlace} (hv : Value.okWide Try.prog w reach b0 70 v) (hd : DataW.Trod enc Try.prog w base spare held 70 v d ps) : ∃ x : Wx, v = x.v ∧ OkWx x := by
  obtain ⟨cs, rfl, h⟩ := open_agg agg_wx leaves_wx hv hd
  obtain ⟨x, r, rfl, h1, h3⟩ := take_wx (ls := []) h
  rw [h3.nil']
  exact ⟨x, rfl, h1⟩
set_option maxRecDepth 100000 in
theorem open_bytes {v : Value} {d : DataW H} {ps : List MemPlace} (hv : Value.okWide Try.prog w reach b0 71 v) (hd : DataW.Trod enc Try.prog w base spare held 71 v d ps) :
    ∃ a c, ∃ l : List Int, v = .slice a l.length c ∧ Cells w a (bytes8 l) ∧ ∀ x ∈ l, B8 x := take_bytes (open_one agg_bs leaves_bs hv hd)
set_option maxRecDepth 100000 in
theorem open_moved {v : Value} {d : DataW H} {ps : List MemPlace} (hv : Value.okWide Try.prog w reach b0 82 v) (hd : DataW.Trod enc Try.prog w base spare held 82 v d ps) :
    ∃ (m : Made) (x : Wx) (l : List Int) (turn : Int) (a : Option Addr) (n : Nat) (b : Option Addr) (k : Nat), v = .agg #[.slice a m.rods.length n, U8 m.kind, .int .i16 m.base, U8 m.b0, U8 m.b1, U8 m.b2, U8 m.b3, U8 x.f0, U8 x.f1, U8 x.f2, U8 x.f3, U8 x.w0, U8 x.w1, U8 x.w2, U8 x.w3, .slice b l.length k, .int .i16 turn] ∧
      OkMade m ∧ OkWx x ∧ (-32768 ≤ turn ∧ turn ≤ 32767) ∧ Cells w a (mrods m.rods) ∧ Cells w b (bytes8 l) ∧ ∀ y ∈ l, B8 y := by
  obtain ⟨cs, rfl, h⟩ := open_agg agg_moved leaves_moved hv hd
  obtain ⟨m, a, n, r, rfl, h1, h2, h3⟩ := take_made (ls := lvWx ++ [.sl [L8], Ls16]) h
  obtain ⟨x, r, rfl, h4, h5⟩ := take_wx (ls := [.sl [L8], Ls16]) h3
  obtain ⟨u, r1, rfl, gu, g⟩ := h5.cons'
  obtain ⟨b, k, l, rfl, hl, h8⟩ := take_bytes gu
  obtain ⟨t, _, rfl, ht, g⟩ := take_k g
  rw [g.nil']
  exact ⟨m, x, l, t, a, n, b, k, rfl, h1, h4, ht, h2, hl, h8⟩
set_option maxRecDepth 100000 in
theorem open_wx2 {v : Value} {d : DataW H} {ps : List MemPlace} (hv : Value.okWide Try.prog w reach b0 84 v) (hd : DataW.Trod enc Try.prog w base spare held 84 v d ps) : ∃ x y : Wx, v = .agg #[U8 x.f0, U8 x.f1, U8 x.f2, U8 x.f3, U8 x.w0, U8 x.w1, U8 x.w2, U8 x.w3, U8 y.f0, U8 y.f1, U8 y.f2, U8 y.f3, U8 y.w0, U8 y.w1, U8 y.w2, U8 y.w3] ∧ OkWx x ∧ OkWx y := by
  obtain ⟨cs, rfl, h⟩ := open_agg agg_wx2 leaves_wx2 hv hd
  obtain ⟨x, r, rfl, h1, h3⟩ := take_wx (ls := lvWx) h
  obtain ⟨y, r2, e2, h4, h5⟩ := take_wx (ls := []) (cs := r) h3
  have e3 := h5.nil'
  subst e3; subst e2
  exact ⟨x, y, rfl, h1, h4⟩
set_option maxRecDepth 100000 in
theorem open_bytes2 {v : Value} {d : DataW H} {ps : List MemPlace} (hv : Value.okWide Try.prog w reach b0 85 v) (hd : DataW.Trod enc Try.prog w base spare held 85 v d ps) :
    ∃ (a b : Option Addr) (c k : Nat) (l m : List Int), v = .agg #[.slice a l.length c, .slice b m.length k] ∧ Cells w a (bytes8 l) ∧ Cells w b (bytes8 m) ∧ (∀ x ∈ l, B8 x) ∧ ∀ x ∈ m, B8 x := by
  obtain ⟨cs, rfl, h⟩ := open_agg agg_bs2 leaves_bs2 hv hd
  obtain ⟨u, r1, rfl, gu, g⟩ := h.cons'
  obtain ⟨a, c, l, rfl, hl, h8⟩ := take_bytes gu
  obtain ⟨u2, r2, rfl, gu2, g2⟩ := g.cons'
  obtain ⟨b, k, m, rfl, hm, h9⟩ := take_bytes gu2
  rw [g2.nil']
  exact ⟨a, b, c, k, l, m, rfl, hl, hm, h8, h9⟩
set_option maxRecDepth 100000 in
theorem open_u8 {v : Value} {d : DataW H} {ps : List MemPlace} (hv : Value.okWide Try.prog w reach b0 5 v) (hd : DataW.Trod enc Try.prog w base spare held 5 v d ps) : ∃ x, v = U8 x ∧ B8 x := (open_one agg_u8 leaves_u8 hv hd).int'
set_option maxRecDepth 100000 in
theorem open_u16 {v : Value} {d : DataW H} {ps : List MemPlace} (hv : Value.okWide Try.prog w reach b0 87 v) (hd : DataW.Trod enc Try.prog w base spare held 87 v d ps) : ∃ x, v = .int .u16 x ∧ (0 ≤ x ∧ x ≤ 65535) := (open_one agg_u16 leaves_u16 hv hd).int'
end
end Go.Proofs.R03
end
section
/- within; narrower spans; the effect of a clock. -/
namespace Go.Proofs.R03
open Go.Vc Go.RowKit Go.Proofs

theorem in_any (n : Int) (s : Sp) (h : s.1 ≤ n ∧ n ≤ s.2) (w : World) : Calls Try.prog 79 #[I n, spv s] w (Pure w (.bool true)) :=
  vc79 _ _ _ w _ fun m1 _ => ⟨fun _ w1 hb _ => ⟨by rw [decide_eq_true h.2], hb⟩, fun h' => absurd h.1 (by omega)⟩

theorem inTruth_any {c : Clk} {b : Bn} {t : Tr} (h : InK t (newK c b)) {ra ta : Option Addr} {rc tc : Nat} {w : World} (hc : Cells w ra (rods c.rods)) (ht : Cells w ta (ints t.grow)) (hn : c.rods.length ≤ 100000) :
    Calls Try.prog 36 #[t.v ta tc, c.v ra rc, b.v] w (Pure w (.bool true)) := by
  have hl := h.len
  rw [newK_len] at hl
  refine vc36 _ _ _ _ _ _ _ _ _ _ _ _ _ _ _ _ _ _ _ _ _ _ _ _ _ _ w _ fun m1 h1 m2 h2 m3 h3 => ⟨fun h => absurd (by omega) h, fun _ => ?_⟩
  refine ⟨fun ls _ => match ls with | [_, .int _ i] => 0 ≤ i ∧ i ≤ t.grow.length | _ => False, fun ls => match ls with | [_, .int _ i] => (t.grow.length - i).toNat | _ => 0, fun w2 hb _ => ⟨by omega, by omega⟩, ?_⟩
  rintro _ i w4 hb4 ⟨i0, il⟩
  refine ⟨fun hi => ?_, fun hi w9 hb9 _ => ?_⟩
  · have hix : i.toNat < c.rods.length := by omega
    have hig : i.toNat < t.grow.length := by omega
    obtain ⟨b1, o1, rfl, hlt, c1, c2, c3, c4⟩ := rods_at hc (getElem_of_lt hix)
    obtain ⟨b2, o2, rfl, d1⟩ := ht i.toNat _ (ints_get (getElem_of_lt hig))
    have hlt2 := cell_lt d1
    have hin := h.grow i.toNat _ (c.rods[i.toNat].lo, c.rods[i.toNat].hi) (getElem_of_lt hig) (by simp [newK, getElem_of_lt hix])
    refine ⟨b2, o2, rfl, ⟨i0, by omega⟩, _, cell_at' (cell_keep hb4 d1) (by omega), .inl hlt2, b1, o1, rfl, ⟨i0, by omega⟩, _, _, cell_keep hb4 c2, cell_keep hb4 c3, .inl hlt, fun w5 hb5 _ => ?_⟩
    refine Pure.calls (in_any _ (_, _) hin w5) fun w6 hb6 => ⟨true, rfl, .all hb6, fun h => absurd h (by decide), fun _ => ⟨by omega, fun w8 hb8 _ => ⟨⟨by omega, by omega⟩, ?_⟩⟩⟩
    show ((t.grow.length : Int) - (i + 1)).toNat < ((t.grow.length : Int) - i).toNat
    omega
  · refine Pure.calls (in_any _ c.air h.air w9) fun w10 hb10 => ⟨true, rfl, .all hb10, fun _ w11 hb11 _ => ?_, fun h => absurd h (by decide)⟩
    refine Pure.calls (in_any _ c.drive h.drive w11) fun w12 hb12 => ⟨true, rfl, .all hb12, fun _ w13 hb13 _ => ?_, fun h => absurd h (by decide)⟩
    refine Pure.calls (in_any _ b.heat h.heat w13) fun w14 hb14 => ⟨true, rfl, .all hb14, fun _ w15 hb15 _ => ?_, fun h => absurd h (by decide)⟩
    refine Pure.calls (in_any _ b.press h.press w15) fun w16 hb16 => ⟨true, rfl, .all hb16, fun _ w17 hb17 _ => ?_, fun h => absurd h (by decide)⟩
    refine Pure.calls (in_any _ b.arc h.arc w17) fun w18 hb18 => ⟨true, rfl, .all hb18, fun _ w19 hb19 _ => ?_, fun h => absurd h (by decide)⟩
    exact Pure.calls (in_any _ b.force h.force w19) fun w20 hb20 => ⟨true, rfl, .all hb20, fun w21 hb21 _ => ⟨rfl, hb21⟩⟩

/-- BeatNarrows$1 -/
def narrowS (s : Sp) (n : Int) : Sp := ((s.1 + n) / 2, (s.2 + n + 1) / 2)
theorem two_pow : (2 : Int) ^ min (Int.toNat 1) IntKind.i64.bits = 2 := by decide
theorem narrow_any {s : Sp} {n : Int} (h : (-10000000 ≤ s.1 ∧ s.1 ≤ 10000000) ∧ (-10000000 ≤ s.2 ∧ s.2 ≤ 10000000)) (hn : -10000000 ≤ n ∧ n ≤ 10000000) (w : World) : Calls Try.prog 37 #[spv s, I n] w (Pure w (spv (narrowS s n))) := by
  refine vc37 _ _ _ w _ fun m1 _ m2 _ => ⟨by omega, by decide, by omega, by omega, by decide, fun w1 hb _ => ⟨?_, hb⟩⟩
  rw [two_pow, Int.fdiv_eq_ediv_of_nonneg _ (by decide), Int.fdiv_eq_ediv_of_nonneg _ (by decide)]
  rfl
theorem narrowS_in {s : Sp} {n : Int} (h : s.1 ≤ n ∧ n ≤ s.2) : s.1 ≤ (narrowS s n).1 ∧ (narrowS s n).1 ≤ n ∧ n ≤ (narrowS s n).2 ∧ (narrowS s n).2 ≤ s.2 := by
  unfold narrowS; simp only; omega

theorem sumF_bd {f : Rod → Int} {l : List Rod} {A : Int} (h : ∀ r ∈ l, -A ≤ f r ∧ f r ≤ A) : -((l.length : Int) * A) ≤ sumF f l ∧ sumF f l ≤ (l.length : Int) * A := by
  induction l with
  | nil => simp [sumF]
  | cons r l ih =>
    have h1 := ih fun r hr => h r (List.mem_cons_of_mem _ hr)
    have h2 := h r List.mem_cons_self
    rw [sumF_cons]
    simp only [List.length_cons, Int.natCast_add, Int.natCast_one, Int.add_mul, Int.one_mul]
    omega
def lenF (r : Rod) : Int := sgn r * r.len
theorem lenC_F (l : List Rod) : lenC l = sumF lenF l := rfl
/-- BeatSteady$1 -/
theorem effect2_any (c : Clk) {ra : Option Addr} {rc : Nat} {w : World} (hc : Cells w ra (rods c.rods)) (hl : c.rods.length ≤ 8) (hr : ∀ r ∈ c.rods, (0 ≤ r.len ∧ r.len ≤ 200000) ∧ (0 ≤ r.lo ∧ r.lo ≤ 40000) ∧ (0 ≤ r.hi ∧ r.hi ≤ 40000)) :
    Calls Try.prog 38 #[c.v ra rc] w (Pure w (.tuple #[I (effL c.rods), I (lenC c.rods)])) := by
  have hb1 : ∀ r ∈ c.rods, 0 ≤ r.len * r.lo ∧ r.len * r.lo ≤ 8000000000 := fun r h => ⟨Int.mul_nonneg (hr r h).1.1 (hr r h).2.1.1, by have := mul_bd (a := r.len) (b := r.lo) (A := 200000) (B := 40000) (by have := hr r h; omega) (by have := hr r h; omega); omega⟩
  have hb2 : ∀ r ∈ c.rods, 0 ≤ r.len * r.hi ∧ r.len * r.hi ≤ 8000000000 := fun r h => ⟨Int.mul_nonneg (hr r h).1.1 (hr r h).2.2.1, by have := mul_bd (a := r.len) (b := r.hi) (A := 200000) (B := 40000) (by have := hr r h; omega) (by have := hr r h; omega); omega⟩
  have slo : ∀ n, -((((c.rods.take n).length : Nat) : Int) * 8000000000) ≤ sumF loC (c.rods.take n) ∧ sumF loC (c.rods.take n) ≤ (((c.rods.take n).length : Nat) : Int) * 8000000000 := fun n => sumF_bd fun r h => by
    have g1 := hb1 r (List.mem_of_mem_take h); have g2 := hb2 r (List.mem_of_mem_take h)
    unfold loC; split <;> omega
  have shi : ∀ n, -((((c.rods.take n).length : Nat) : Int) * 8000000000) ≤ sumF hiC (c.rods.take n) ∧ sumF hiC (c.rods.take n) ≤ (((c.rods.take n).length : Nat) : Int) * 8000000000 := fun n => sumF_bd fun r h => by
    have g1 := hb1 r (List.mem_of_mem_take h); have g2 := hb2 r (List.mem_of_mem_take h)
    unfold hiC; split <;> omega
  have sle : ∀ n, -((((c.rods.take n).length : Nat) : Int) * 200000) ≤ sumF lenF (c.rods.take n) ∧ sumF lenF (c.rods.take n) ≤ (((c.rods.take n).length : Nat) : Int) * 200000 := fun n => sumF_bd fun r h => by
    have g1 := (hr r (List.mem_of_mem_take h)).1
    unfold lenF sgn; split <;> omega
  refine vc38 _ _ _ _ _ _ _ _ _ w _ fun m1 h1 => ?_
  refine ⟨fun ls _ => match ls with | [.int _ x, .int _ y, .int _ z, .int _ i] => 0 ≤ i ∧ i ≤ c.rods.length ∧ x = sumF loC (c.rods.take i.toNat) ∧ y = sumF hiC (c.rods.take i.toNat) ∧ z = sumF lenF (c.rods.take i.toNat) | _ => False, fun ls => match ls with | [_, _, _, .int _ i] => (c.rods.length - i).toNat | _ => 0, fun w2 hb _ => ⟨by omega, by omega, rfl, rfl, rfl⟩, ?_⟩
  rintro x y z i w3 hb3 ⟨i0, il, rfl, rfl, rfl⟩
  have k1 := slo i.toNat; have k2 := shi i.toNat; have k3 := sle i.toNat
  rw [List.length_take] at k1 k2 k3
  refine ⟨fun hi => ?_, fun hi => ?_⟩
  · have hix : i.toNat < c.rods.length := by omega
    obtain ⟨b, o, rfl, hlt, c1, c2, c3, c4⟩ := rods_at hc (getElem_of_lt hix)
    have e1 := sumF_take loC c.rods hix
    have e2 := sumF_take hiC c.rods hix
    have e3 := sumF_take lenF c.rods hix
    have g1 := hb1 _ (List.getElem_mem hix); have g2 := hb2 _ (List.getElem_mem hix); have g3 := (hr _ (List.getElem_mem hix)).1
    generalize c.rods[i.toNat] = r at *
    refine ⟨b, o, rfl, ⟨i0, hi⟩, _, _, _, _, cell_keep hb3 c1, cell_keep hb3 c2, cell_keep hb3 c3, cell_keep hb3 c4, .inl hlt, fun m4 h4 => ⟨fun hu => ⟨by omega, by omega, by omega, by omega, by omega, by omega, fun w4 hb4 _ => ⟨⟨by omega, by omega, ?_, ?_, ?_⟩, ?_⟩⟩, fun hu => ⟨by omega, by omega, by omega, by omega, by omega, by omega, fun w5 hb5 _ => ⟨⟨by omega, by omega, ?_, ?_, ?_⟩, ?_⟩⟩⟩⟩
    · rw [show (i + 1).toNat = i.toNat + 1 by omega, e1, loC, if_pos hu]; omega
    · rw [show (i + 1).toNat = i.toNat + 1 by omega, e2, hiC, if_pos hu]; omega
    · rw [show (i + 1).toNat = i.toNat + 1 by omega, e3, lenF, sgn, if_pos hu]; omega
    · show ((c.rods.length : Int) - (i + 1)).toNat < ((c.rods.length : Int) - i).toNat
      omega
    · rw [show (i + 1).toNat = i.toNat + 1 by omega, e1, loC, if_neg (by rw [hu]; decide)]
    · rw [show (i + 1).toNat = i.toNat + 1 by omega, e2, hiC, if_neg (by rw [hu]; decide)]
    · rw [show (i + 1).toNat = i.toNat + 1 by omega, e3, lenF, sgn, if_neg (by rw [hu]; decide)]; omega
    · show ((c.rods.length : Int) - (i + 1)).toNat < ((c.rods.length : Int) - i).toNat
      omega
  · refine ⟨by omega, fun w6 hb6 _ => ⟨?_, hb6⟩⟩
    rw [List.take_of_length_le (by omega), lenC_F]
    rfl
end Go.Proofs.R03
end
section
/- Plain: what is known is never narrower than what is true; ends are reached. -/
namespace Go.Proofs.R03
open Go.Vc Go.RowKit Go.Proofs

/-- A span within another one. -/
def Sub (s t : Sp) : Prop := t.1 ≤ s.1 ∧ s.1 ≤ s.2 ∧ s.2 ≤ t.2
def pick : Bool → Sp → Int
  | true, s => s.1
  | false, s => s.2
theorem pick_or (b : Bool) (s : Sp) : pick b s = s.1 ∨ pick b s = s.2 := by cases b <;> simp [pick]
theorem lin_bd {a b x y : Int} (h : a ≤ x ∧ x ≤ b) : min (a * y) (b * y) ≤ x * y ∧ x * y ≤ max (a * y) (b * y) := by
  rcases Int.le_total 0 y with hy | hy
  · have h1 := Int.mul_le_mul_of_nonneg_right h.1 hy
    have h2 := Int.mul_le_mul_of_nonneg_right h.2 hy
    omega
  · have h1 := Int.mul_le_mul_of_nonpos_right h.1 hy
    have h2 := Int.mul_le_mul_of_nonpos_right h.2 hy
    omega
theorem by_mem {s t : Sp} {x y : Int} (hx : s.1 ≤ x ∧ x ≤ s.2) (hy : t.1 ≤ y ∧ y ≤ t.2) : (byS s t).1 ≤ x * y ∧ x * y ≤ (byS s t).2 := by
  have h1 := lin_bd (y := y) hx
  have h2 := lin_bd (y := s.1) hy
  have h3 := lin_bd (y := s.2) hy
  rw [Int.mul_comm y, Int.mul_comm t.1, Int.mul_comm t.2] at h2 h3
  unfold byS
  simp only
  omega
theorem by_end (b : Bool) (s t : Sp) : ∃ i j : Bool, pick b (byS s t) = pick i s * pick j t := by
  have h : pick b (byS s t) = s.1 * t.1 ∨ pick b (byS s t) = s.1 * t.2 ∨ pick b (byS s t) = s.2 * t.1 ∨ pick b (byS s t) = s.2 * t.2 := by
    cases b <;> unfold pick byS <;> simp only <;> omega
  rcases h with h | h | h | h
  · exact ⟨true, true, h⟩
  · exact ⟨true, false, h⟩
  · exact ⟨false, true, h⟩
  · exact ⟨false, false, h⟩
theorem by_le (s t : Sp) : (byS s t).1 ≤ (byS s t).2 := by unfold byS; simp only; omega
theorem pick_in {s : Sp} (h : s.1 ≤ s.2) (b : Bool) : s.1 ≤ pick b s ∧ pick b s ≤ s.2 := by cases b <;> simp only [pick] <;> omega
theorem Sub.refl {s : Sp} (h : s.1 ≤ s.2) : Sub s s := ⟨Int.le_refl _, h, Int.le_refl _⟩
theorem Sub.one {s : Sp} {x : Int} (h : s.1 ≤ x ∧ x ≤ s.2) : Sub (x, x) s := ⟨h.1, Int.le_refl _, h.2⟩
theorem Sub.trans {s t u : Sp} (h : Sub s t) (k : Sub t u) : Sub s u := by unfold Sub at *; omega
theorem Sub.ok {s t : Sp} (h : Sub s t) : s.1 ≤ s.2 := h.2.1
theorem Sub.ok' {s t : Sp} (h : Sub s t) : t.1 ≤ t.2 := by unfold Sub at h; omega
theorem Sub.plus {s s' t t' : Sp} (h : Sub s s') (k : Sub t t') : Sub (plusS s t) (plusS s' t') := by unfold Sub plusS at *; simp only; omega
theorem Sub.by {s s' t t' : Sp} (h : Sub s s') (k : Sub t t') : Sub (byS s t) (byS s' t') := by
  have hi : ∀ {b : Bool} {s s' : Sp}, Sub s s' → s'.1 ≤ pick b s ∧ pick b s ≤ s'.2 := fun {b} {s} {s'} h => by
    have := pick_in h.ok b
    unfold Sub at h; omega
  obtain ⟨i, j, e1⟩ := by_end true s t
  obtain ⟨i2, j2, e2⟩ := by_end false s t
  have h1 := by_mem (hi (b := i) h) (hi (b := j) k)
  have h2 := by_mem (hi (b := i2) h) (hi (b := j2) k)
  rw [← e1] at h1
  rw [← e2] at h2
  exact ⟨h1.1, by_le s t, h2.2⟩
theorem Sub.less {s s' t t' : Sp} (h : Sub s s') (k : Sub t t') : Sub (lessS s t) (lessS s' t') := by
  rw [less_eq k.ok, less_eq k.ok']
  unfold Sub at *; simp only; omega
theorem Sub.sq {s t : Sp} (h : Sub s t) (h0 : 0 ≤ t.1) : Sub (sqS s) (sqS t) := by
  unfold Sub at *
  refine ⟨Int.mul_le_mul h.1 h.1 h0 (by omega), Int.mul_le_mul h.2.1 h.2.1 (by omega) (by omega), Int.mul_le_mul h.2.2 h.2.2 (by omega) (by omega)⟩

/-- Less is known of the one than of the other. -/
structure KInc (k q : Kn) : Prop where
  base : k.c.base = q.c.base
  rods : k.c.rods.map lenF = q.c.rods.map lenF
  len : k.grow.length = q.grow.length
  each : ∀ (i : Nat) (s t : Sp), k.all[i]? = some s → q.all[i]? = some t → Sub s t
  arc : 0 ≤ q.arc.1

theorem KInc.hi {k q : Kn} (h : KInc k q) {j : Nat} {s t : Sp} (hs : [k.air, k.drive, k.heat, k.press, k.arc, k.force][j]? = some s) (ht : [q.air, q.drive, q.heat, q.press, q.arc, q.force][j]? = some t) : Sub s t :=
  h.each (k.grow.length + j) s t (by rw [all_hi']; exact hs) (by rw [h.len, all_hi']; exact ht)
theorem KInc.lo {k q : Kn} (h : KInc k q) {i : Nat} {s t : Sp} (hs : k.grow[i]? = some s) (ht : q.grow[i]? = some t) : Sub s t := by
  have hi := (List.getElem?_eq_some_iff.1 hs).1
  exact h.each i s t (by rw [all_lo' hi]; exact hs) (by rw [all_lo' (by rw [← h.len]; exact hi)]; exact ht)
theorem lenC_of {l m : List Rod} (h : l.map lenF = m.map lenF) : lenC l = lenC m := by
  rw [lenC_F, lenC_F]; unfold sumF; rw [h]
theorem sum_inc {l m : List Rod} {g e : List Sp} (h : l.map lenF = m.map lenF) (hl : g.length = e.length) (hg : ∀ (i : Nat) (s t : Sp), g[i]? = some s → e[i]? = some t → Sub s t) : ∀ n, Sub (sumN l g n) (sumN m e n)
  | 0 => ⟨Int.le_refl _, Int.le_refl _, Int.le_refl _⟩
  | n + 1 => by
    have ih := sum_inc h hl hg n
    unfold sumN
    refine ih.plus ?_
    have hx : (l.map lenF)[n]? = (m.map lenF)[n]? := by rw [h]
    rw [List.getElem?_map, List.getElem?_map] at hx
    have z : Sub (0, 0) (0, 0) := ⟨Int.le_refl _, Int.le_refl _, Int.le_refl _⟩
    cases h1 : l[n]? with
    | none =>
      rw [h1] at hx
      cases h2 : m[n]? with
      | none => exact z
      | some r => rw [h2] at hx; cases hx
    | some r =>
      rw [h1] at hx
      cases h2 : m[n]? with
      | none => rw [h2] at hx; cases hx
      | some r' =>
        rw [h2] at hx
        simp only [Option.map_some, Option.some.injEq, lenF] at hx
        cases h3 : g[n]? with
        | none =>
          cases h4 : e[n]? with
          | none => exact z
          | some t => have g1 := List.getElem?_eq_none_iff.1 h3; have g2 := (List.getElem?_eq_some_iff.1 h4).1; omega
        | some s =>
          cases h4 : e[n]? with
          | none => have g1 := List.getElem?_eq_none_iff.1 h4; have g2 := (List.getElem?_eq_some_iff.1 h3).1; omega
          | some t =>
            dsimp only
            rw [hx]
            exact (hg n s t h3 h4).by (Sub.refl (Int.le_refl _))
theorem rate_inc {k q : Kn} (h : KInc k q) : Sub (rateK k) (rateK q) := by
  have e := lenC_of h.rods
  have hn : k.c.rods.length = q.c.rods.length := by have := congrArg List.length h.rods; simpa using this
  unfold rateK baseK heatK arcK sumK
  rw [e, h.base, hn]
  have one : ∀ x : Int, Sub (x, x) (x, x) := fun x => Sub.refl (Int.le_refl _)
  exact ((((one _).plus ((h.hi (j := 0) rfl rfl).by (h.hi (j := 3) rfl rfl))).plus ((h.hi (j := 1) rfl rfl).by (h.hi (j := 5) rfl rfl))).by (one _) |>.less (((sum_inc h.rods h.len (fun i s t => h.lo) _).by (h.hi (j := 2) rfl rfl)).by (one _))).less (((h.hi (j := 4) rfl rfl).sq h.arc).by (one _))

/-- All spans are valid. -/
structure KVal (k : Kn) : Prop where
  ok : ∀ (i : Nat) (s : Sp), k.all[i]? = some s → s.1 ≤ s.2
  arc : 0 ≤ k.arc.1
  len : 0 ≤ lenC k.c.rods
  grown : k.grow.length = k.c.rods.length
theorem KVal.hi {k : Kn} (h : KVal k) {j : Nat} {s : Sp} (hs : [k.air, k.drive, k.heat, k.press, k.arc, k.force][j]? = some s) : s.1 ≤ s.2 := h.ok (k.grow.length + j) s (by rw [all_hi']; exact hs)
theorem KVal.lo {k : Kn} (h : KVal k) {i : Nat} {s : Sp} (hs : k.grow[i]? = some s) : s.1 ≤ s.2 := h.ok i s (by rw [all_lo' (List.getElem?_eq_some_iff.1 hs).1]; exact hs)
theorem exact_inc {k : Kn} {t : Tr} (hv : KVal k) (h : InK t k) : KInc (exactK k.c t) k := by
  refine ⟨rfl, rfl, by simp [exactK, h.len], fun i s u hs hu => ?_, hv.arc⟩
  obtain ⟨hl, ha⟩ := inK_all.1 h
  have e : (exactK k.c t).all = (vals t).map fun x => (x, x) := by simp [Kn.all, exactK, vals]
  rw [e, List.getElem?_map] at hs
  cases hx : (vals t)[i]? with
  | none => rw [hx] at hs; cases hs
  | some x =>
    rw [hx] at hs
    simp only [Option.map_some, Option.some.injEq] at hs
    rw [← hs]
    exact Sub.one (ha i x u hx hu)
/-- THE CONE. -/
theorem rate_mem {k : Kn} {t : Tr} (hv : KVal k) (h : InK t k) : (rateK k).1 ≤ partsR k.c t ∧ partsR k.c t ≤ (rateK k).2 := by
  have := rate_inc (exact_inc hv h)
  rw [rate_exact] at this
  unfold Sub at this; simp only at this; omega

/-- Each value is an end of its span. -/
structure Corner (t : Tr) (k : Kn) : Prop where
  len : t.grow.length = k.grow.length
  at_ : ∀ (i : Nat) (x : Int) (s : Sp), (vals t)[i]? = some x → k.all[i]? = some s → x = s.1 ∨ x = s.2
theorem Corner.inK {t : Tr} {k : Kn} (hv : KVal k) (h : Corner t k) : InK t k := inK_all.2 ⟨h.len, fun i x s hx hs => by
  have := h.at_ i x s hx hs
  have := hv.ok i s hs
  omega⟩
theorem by_scale {s : Sp} {P : Int} (h : s.1 ≤ s.2) (hP : 0 ≤ P) : byS s (P, P) = (s.1 * P, s.2 * P) := by
  have := Int.mul_le_mul_of_nonneg_right h hP
  unfold byS; simp only [Prod.mk.injEq]; omega
theorem pick_plus (b : Bool) (s t : Sp) : pick b (plusS s t) = pick b s + pick b t := by cases b <;> rfl
theorem pick_less (b : Bool) {s t : Sp} (h : t.1 ≤ t.2) : pick b (lessS s t) = pick b s - pick (!b) t := by rw [less_eq h]; cases b <;> rfl
theorem pick_scale (b : Bool) {s : Sp} {P : Int} (h : s.1 ≤ s.2) (hP : 0 ≤ P) : pick b (byS s (P, P)) = pick b s * P := by rw [by_scale h hP]; cases b <;> rfl
theorem pick_sq (b : Bool) (s : Sp) : pick b (sqS s) = pick b s * pick b s := by cases b <;> rfl
theorem sumT_app (l : List Rod) (g : List Int) (x : Int) : ∀ n, n ≤ g.length → sumT l (g ++ [x]) n = sumT l g n
  | 0, _ => rfl
  | n + 1, h => by
    unfold sumT
    rw [sumT_app l g x n (by omega), List.getElem?_append_left (by omega)]
theorem sum_end (b : Bool) {l : List Rod} {e : List Sp} (hl : e.length = l.length) : ∀ n, n ≤ e.length → ∃ g : List Int, g.length = n ∧ (∀ (i : Nat) (x : Int) (s : Sp), g[i]? = some x → e[i]? = some s → x = s.1 ∨ x = s.2) ∧ sumT l g n = pick b (sumN l e n)
  | 0, _ => ⟨[], rfl, fun i x s h => by simp at h, by cases b <;> rfl⟩
  | n + 1, h => by
    obtain ⟨g, h1, h2, h3⟩ := sum_end b hl n (by omega)
    have hn : n < l.length := by omega
    have hne : n < e.length := by omega
    obtain ⟨i, j, e1⟩ := by_end b e[n] (lenF l[n], lenF l[n])
    refine ⟨g ++ [pick i e[n]], by simp [h1], fun m x s hx hs => ?_, ?_⟩
    · by_cases hm : m < g.length
      · rw [List.getElem?_append_left hm] at hx
        exact h2 m x s hx hs
      · have hm' : m < n + 1 := by have := (List.getElem?_eq_some_iff.1 hx).1; simpa [h1] using this
        have : m = n := by omega
        subst this
        rw [List.getElem?_append_right (by omega), h1, Nat.sub_self] at hx
        simp only [List.getElem?_cons_zero, Option.some.injEq] at hx
        rw [getElem_of_lt hne, Option.some.injEq] at hs
        rw [← hx, ← hs]
        exact pick_or i _
    · unfold sumT sumN
      rw [sumT_app l g _ n (by omega), h3, pick_plus, getElem_of_lt hn, getElem_of_lt hne, List.getElem?_append_right (by omega), h1, Nat.sub_self]
      simp only [List.getElem?_cons_zero]
      have e2 : pick b (byS e[n] (sgn l[n] * l[n].len, sgn l[n] * l[n].len)) = pick i e[n] * (sgn l[n] * l[n].len) := by
        have : pick j (lenF l[n], lenF l[n]) = sgn l[n] * l[n].len := by cases j <;> rfl
        have e1' : pick b (byS e[n] (sgn l[n] * l[n].len, sgn l[n] * l[n].len)) = pick i e[n] * pick j (lenF l[n], lenF l[n]) := e1
        rw [e1', this]
      rw [e2, Int.mul_comm (pick i e[n]), Int.mul_assoc]
theorem sumN_le {l : List Rod} {e : List Sp} : ∀ n, (sumN l e n).1 ≤ (sumN l e n).2
  | 0 => Int.le_refl _
  | n + 1 => by
    have ih := sumN_le (l := l) (e := e) n
    unfold sumN
    cases l[n]? with
    | none => unfold plusS; simp only; omega
    | some r =>
      cases e[n]? with
      | none => unfold plusS; simp only; omega
      | some s => have := by_le s (sgn r * r.len, sgn r * r.len); unfold plusS; simp only; omega
theorem parts_eq (c : Clk) (t : Tr) : (c.base + t.air * t.press + t.drive * t.force) * (10000 * lenC c.rods) - sumT c.rods t.grow c.rods.length * t.heat * 432 - t.arc * t.arc * (4570 * lenC c.rods) = partsR c t := by
  unfold partsR
  rw [Int.mul_comm (c.base + t.air * t.press + t.drive * t.force), Int.mul_comm (sumT c.rods t.grow c.rods.length * t.heat) 432, ← Int.mul_assoc 432, Int.mul_comm (t.arc * t.arc), ← Int.mul_assoc (4570 * lenC c.rods)]
/-- Each end of the rate is the rate of a truth of ends. -/
theorem rate_end (b : Bool) {k : Kn} (hv : KVal k) : ∃ t, Corner t k ∧ partsR k.c t = pick b (rateK k) := by
  obtain ⟨i1, i2, e1⟩ := by_end b k.air k.press
  obtain ⟨i3, i4, e2⟩ := by_end b k.drive k.force
  obtain ⟨i5, i6, e3⟩ := by_end (!b) (sumK k) k.heat
  obtain ⟨g, g1, g2, g3⟩ := sum_end i5 hv.grown k.grow.length (Nat.le_refl _)
  refine ⟨⟨g, pick i1 k.air, pick i3 k.drive, pick i6 k.heat, pick i2 k.press, pick (!b) k.arc, pick i4 k.force⟩, ⟨g1, fun i x s hx hs => ?_⟩, ?_⟩
  · by_cases hi : i < g.length
    · rw [vals_lo hi] at hx
      rw [all_lo' (by omega)] at hs
      exact g2 i x s hx hs
    · obtain ⟨j, rfl⟩ : ∃ j, i = g.length + j := ⟨i - g.length, by omega⟩
      have hx' := (vals_hi ⟨g, pick i1 k.air, pick i3 k.drive, pick i6 k.heat, pick i2 k.press, pick (!b) k.arc, pick i4 k.force⟩ j).symm.trans hx
      rw [g1, all_hi'] at hs
      match j, hx', hs with
      | 0, hx, hs => cases hx; cases hs; exact pick_or _ _
      | 1, hx, hs => cases hx; cases hs; exact pick_or _ _
      | 2, hx, hs => cases hx; cases hs; exact pick_or _ _
      | 3, hx, hs => cases hx; cases hs; exact pick_or _ _
      | 4, hx, hs => cases hx; cases hs; exact pick_or _ _
      | 5, hx, hs => cases hx; cases hs; exact pick_or _ _
      | n + 6, hx, hs => simp at hx
  · rw [← parts_eq]
    unfold rateK
    have hL := hv.len
    have hsum : (sumK k).1 ≤ (sumK k).2 := sumN_le _
    have ha : (sqS k.arc).1 ≤ (sqS k.arc).2 := ((Sub.refl (hv.hi (j := 4) rfl)).sq hv.arc).ok
    have hX : (plusS (plusS (k.c.base, k.c.base) (byS k.air k.press)) (byS k.drive k.force)).1 ≤ (plusS (plusS (k.c.base, k.c.base) (byS k.air k.press)) (byS k.drive k.force)).2 := by
      have := by_le k.air k.press; have := by_le k.drive k.force
      unfold plusS; simp only; omega
    rw [pick_less b (by unfold arcK; exact by_le _ _), pick_less b (by unfold heatK; exact by_le _ _)]
    unfold baseK heatK arcK
    rw [pick_scale b hX (by omega), pick_scale (!b) (by_le _ _) (by decide), pick_scale (!b) ha (by omega), pick_plus, pick_plus, e1, e2, e3, pick_sq]
    have hg : sumT k.c.rods g k.c.rods.length = pick i5 (sumK k) := by
      unfold sumK
      rw [← hv.grown]; exact g3
    rw [hg]
    have : pick b (k.c.base, k.c.base) = k.c.base := by cases b <;> rfl
    rw [this]
end Go.Proofs.R03
end
section
/- Plain: the truths of Ends reach the ends of the rate; rounding; fractions. -/
namespace Go.Proofs.R03
open Go.Vc Go.RowKit Go.Proofs

theorem all_cases {k : Kn} {i : Nat} {s : Sp} (h : k.all[i]? = some s) {P : Sp → Prop} (hl : ∀ x ∈ k.grow, P x) (h0 : P k.air) (h1 : P k.drive) (h2 : P k.heat) (h3 : P k.press) (h4 : P k.arc) (h5 : P k.force) : P s := by
  by_cases hi : i < k.grow.length
  · rw [all_lo' hi] at h
    exact hl _ (List.mem_of_getElem? h)
  · obtain ⟨j, rfl⟩ : ∃ j, i = k.grow.length + j := ⟨i - k.grow.length, by omega⟩
    rw [all_hi'] at h
    match j, h with
    | 0, h => cases h; exact h0
    | 1, h => cases h; exact h1
    | 2, h => cases h; exact h2
    | 3, h => cases h; exact h3
    | 4, h => cases h; exact h4
    | 5, h => cases h; exact h5
    | n + 6, h => simp at h
theorem newK_val {c : Clk} {b : Bn} (hk : check c = 0) (hb : OkB b) : KVal (newK c b) := by
  obtain ⟨hl8, hrn, hrod, hlen, hbase, hair, hdr⟩ := check_len hk
  obtain ⟨b1, b2, b3, b4⟩ := hb
  refine ⟨fun i s hs => all_cases hs (P := fun s => s.1 ≤ s.2) (fun x hx => ?_) hair.2.1 ?_ b1.2.1 b2.2.1 b3.2.1 b4.2.1, b3.1, by show 0 ≤ lenC c.rods; omega, newK_len c b⟩
  · obtain ⟨r, hr, rfl⟩ := List.mem_map.1 hx
    exact (hrod r hr).2.2.1
  · show c.drive.1 ≤ c.drive.2
    unfold driveOk at hdr; simp only [okS] at hdr; omega

theorem put_put {k : Kn} {j : Nat} (hj : j < k.grow.length + 6) (s u : Sp) : (k.put j s).put j u = k.put j u := by
  have h1 := put_c k j s
  have h2 := put_c (k.put j s) j u
  have h3 := put_c k j u
  refine Kn.ext (by rw [h2.1, h1.1, h3.1]) (by rw [h2.2, h1.2, h3.2]) ?_
  rw [all_put _ (by rw [h1.2]; exact hj), all_put _ hj, all_put _ hj, List.set_set]
theorem all_lt {k : Kn} {j : Nat} {s : Sp} (hs : k.all[j]? = some s) : j < k.grow.length + 6 := by
  have := (List.getElem?_eq_some_iff.1 hs).1; rwa [all_len] at this
theorem put_at {k : Kn} {j : Nat} {s : Sp} (hs : k.all[j]? = some s) (u : Sp) {i : Nat} {v : Sp} (hv : (k.put j u).all[i]? = some v) : (i = j ∧ v = u) ∨ (i ≠ j ∧ k.all[i]? = some v) := by
  rw [all_put _ (all_lt hs)] at hv
  by_cases h : j = i
  · subst h
    rw [List.getElem?_set_self (by rw [all_len]; exact all_lt hs)] at hv
    exact .inl ⟨rfl, (Option.some.inj hv).symm⟩
  · rw [List.getElem?_set_ne h] at hv
    exact .inr ⟨fun e => h e.symm, hv⟩
theorem arc_at (k : Kn) : k.all[k.grow.length + 4]? = some k.arc := by rw [all_hi']; rfl
theorem put_inc {k : Kn} (hv : KVal k) {j : Nat} {s : Sp} (hs : k.all[j]? = some s) {x : Int} (hx : s.1 ≤ x ∧ x ≤ s.2) : KInc (k.put j (x, x)) k ∧ KVal (k.put j (x, x)) := by
  have hc := put_c k j (x, x)
  refine ⟨⟨by rw [hc.1], by rw [hc.1], hc.2, fun i u v hu ht => ?_, hv.arc⟩, ⟨fun i u hu => ?_, ?_, by rw [hc.1]; exact hv.len, by rw [hc.1, hc.2]; exact hv.grown⟩⟩
  · rcases put_at hs _ hu with ⟨rfl, rfl⟩ | ⟨_, h⟩
    · rw [hs] at ht
      cases ht
      exact Sub.one hx
    · rw [h] at ht
      cases ht
      exact Sub.refl (hv.ok i _ h)
  · rcases put_at hs _ hu with ⟨rfl, rfl⟩ | ⟨_, h⟩
    · exact Int.le_refl _
    · exact hv.ok i _ h
  · have h4 := arc_at (k.put j (x, x))
    rw [hc.2] at h4
    rcases put_at hs _ h4 with ⟨e, h⟩ | ⟨_, h⟩
    · rw [h]
      rw [← e, arc_at] at hs
      cases hs
      have := hv.arc
      show 0 ≤ x; omega
    · rw [arc_at] at h
      rw [← Option.some.inj h]; exact hv.arc
theorem put_goal (b : Bool) {k : Kn} (hv : KVal k) {j : Nat} {s : Sp} (hs : k.all[j]? = some s) : pick b (rateK (k.put j (s.1, s.1))) = pick b (rateK k) ∨ pick b (rateK (k.put j (s.2, s.2))) = pick b (rateK k) := by
  obtain ⟨t, ht, e⟩ := rate_end b hv
  have hle := hv.ok j s hs
  have hj := all_lt hs
  have hvl : j < (vals t).length := by rw [vals_len, ht.len]; exact hj
  have hin := inK_all.1 (ht.inK hv)
  have key : ∀ x, s.1 ≤ x ∧ x ≤ s.2 → (vals t)[j]? = some x → pick b (rateK (k.put j (x, x))) = pick b (rateK k) := fun x hx hxt => by
    obtain ⟨h1, h2⟩ := put_inc hv hs hx
    have hc := put_c k j (x, x)
    have h3 : InK t (k.put j (x, x)) := inK_all.2 ⟨by rw [hc.2]; exact hin.1, fun i y u hy hu => by
      rcases put_at hs _ hu with ⟨rfl, rfl⟩ | ⟨_, h⟩
      · rw [hxt] at hy; cases hy; exact ⟨Int.le_refl _, Int.le_refl _⟩
      · exact hin.2 i y u hy h⟩
    have h4 := rate_mem h2 h3
    have h5 := rate_inc h1
    rw [hc.1, e] at h4
    unfold Sub at h5
    cases b <;> simp only [pick] at h4 ⊢ <;> omega
  rcases ht.at_ j _ s (getElem_of_lt hvl) hs with h | h
  · exact .inl (key s.1 ⟨Int.le_refl _, hle⟩ (by rw [← h]; exact getElem_of_lt hvl))
  · exact .inr (key s.2 ⟨hle, Int.le_refl _⟩ (by rw [← h]; exact getElem_of_lt hvl))

/-- The rounds of end: what is true of them. -/
structure EndI (k : Kn) (b : Bool) (p : Kn) (j : Nat) : Prop where
  c : p.c = k.c
  len : p.grow.length = k.grow.length
  sub : ∀ (i : Nat) (s t : Sp), p.all[i]? = some s → k.all[i]? = some t → Sub s t
  val : KVal p
  pts : ∀ (i : Nat) (s : Sp), i < j → p.all[i]? = some s → s.1 = s.2
  goal : pick b (rateK p) = pick b (rateK k)
theorem EndI.next {k p : Kn} {b : Bool} {j : Nat} (h : EndI k b p j) {s : Sp} (hs : p.all[j]? = some s) {x : Int} (hx : s.1 ≤ x ∧ x ≤ s.2) (hg : pick b (rateK (p.put j (x, x))) = pick b (rateK p)) : EndI k b (p.put j (x, x)) (j + 1) := by
  obtain ⟨h1, h2⟩ := put_inc h.val hs hx
  have hc := put_c p j (x, x)
  refine ⟨hc.1.trans h.c, hc.2.trans h.len, fun i u v hu hv => ?_, h2, fun i u hi hu => ?_, hg.trans h.goal⟩
  · have hi : i < p.all.length := by rw [all_len, h.len]; have := all_lt hv; omega
    exact (h1.each i u _ hu (getElem_of_lt hi)).trans (h.sub i _ v (getElem_of_lt hi) hv)
  · rcases put_at hs _ hu with ⟨rfl, rfl⟩ | ⟨hne, hu⟩
    · rfl
    · exact h.pts i u (by omega) hu
theorem endN_inv (b : Bool) {k : Kn} (hv : KVal k) : ∀ j, j ≤ k.grow.length + 6 → EndI k b (endN (pick b) (pick b (rateK k)) k j) j
  | 0, _ => ⟨rfl, rfl, fun i s t hs ht => by rw [show endN (pick b) (pick b (rateK k)) k 0 = k from rfl, ht] at hs; cases hs; exact Sub.refl (hv.ok i _ ht), hv, fun i s h => by omega, rfl⟩
  | j + 1, hj => by
    have h := endN_inv b hv j (by omega)
    unfold endN
    generalize endN (pick b) (pick b (rateK k)) k j = p at *
    have hjp : j < p.all.length := by rw [all_len, h.len]; omega
    have hs := getElem_of_lt hjp
    dsimp only
    rw [hs]
    simp only [Option.getD_some]
    have hle := h.val.ok j _ hs
    split
    · rename_i hg
      exact h.next hs ⟨Int.le_refl _, hle⟩ (hg.trans h.goal.symm)
    · rename_i hg
      rw [put_put (all_lt hs)]
      refine h.next hs ⟨hle, Int.le_refl _⟩ ?_
      rcases put_goal b h.val hs with g | g
      · exact absurd (g.trans h.goal) hg
      · exact g
theorem point_all {p : Kn} (h : ∀ (i : Nat) (s : Sp), p.all[i]? = some s → s.1 = s.2) : p = exactK p.c (truthK p) := by
  refine Kn.ext rfl (by simp [exactK, truthK]) ?_
  have e : (exactK p.c (truthK p)).all = p.all.map fun s => (s.1, s.1) := by simp [Kn.all, exactK, truthK]
  rw [e]
  refine (List.map_id _).symm.trans (List.map_congr_left fun s hs => ?_)
  obtain ⟨i, hi, rfl⟩ := List.mem_iff_getElem.1 hs
  have := h i _ (getElem_of_lt hi)
  generalize p.all[i] = s at this
  obtain ⟨x, y⟩ := s
  simp only at this
  subst this; rfl
theorem ends_spec (b : Bool) {k : Kn} (hv : KVal k) : InK (truthK (endK (pick b) k)) k ∧ partsR k.c (truthK (endK (pick b) k)) = pick b (rateK k) := by
  have h := endN_inv b hv (k.grow.length + 6) (Nat.le_refl _)
  have hp : endK (pick b) k = exactK (endK (pick b) k).c (truthK (endK (pick b) k)) := point_all fun i s hs => h.pts i s (by have := all_lt hs; have := h.len; unfold endK at *; omega) hs
  have hc : (endK (pick b) k).c = k.c := h.c
  constructor
  · refine inK_all.2 ⟨by show ((endK (pick b) k).grow.map (·.1)).length = _; rw [List.length_map]; exact h.len, fun i x s hx hs => ?_⟩
    have e : vals (truthK (endK (pick b) k)) = (endK (pick b) k).all.map (·.1) := by simp [vals, truthK, Kn.all]
    rw [e, List.getElem?_map] at hx
    cases hu : (endK (pick b) k).all[i]? with
    | none => rw [hu] at hx; cases hx
    | some u =>
      rw [hu] at hx
      simp only [Option.map_some, Option.some.injEq] at hx
      have := h.sub i u s hu hs
      unfold Sub at this; omega
  · rw [← h.goal]
    show _ = pick b (rateK (endK (pick b) k))
    have e := congrArg rateK hp
    rw [rate_exact, hc] at e
    rw [e]
    cases b <;> rfl

theorem floor_spec {n : Int} (hn : 0 < n) (a : Int) : a / n * n ≤ a ∧ a < (a / n + 1) * n := by
  have h1 := Int.mul_ediv_self_le (x := a) (k := n) (by omega)
  have h2 := Int.lt_mul_ediv_self_add (x := a) (k := n) hn
  rw [Int.mul_comm] at h1 h2
  rw [Int.add_mul, Int.one_mul]
  exact ⟨h1, h2⟩
theorem round_spec {n : Int} (hn : 0 < n) (s : Sp) : ((roundS n s).1 * n ≤ s.1 ∧ s.1 < ((roundS n s).1 + 1) * n) ∧ (s.2 ≤ (roundS n s).2 * n ∧ ((roundS n s).2 - 1) * n < s.2) := by
  have h1 := floor_spec hn s.1
  have h2 := floor_spec hn (-s.2)
  refine ⟨h1, ?_⟩
  have e1 : (roundS n s).2 * n = -(-s.2 / n * n) := by unfold roundS; simp only; rw [Int.neg_mul]
  have e2 : ((roundS n s).2 - 1) * n = -((-s.2 / n + 1) * n) := by
    unfold roundS; simp only
    rw [← Int.neg_mul]; congr 1; omega
  rw [e1, e2]
  omega
theorem mul_mono {a b n : Int} (hn : 0 < n) : a * n ≤ b * n ↔ a ≤ b := ⟨fun h => Int.le_of_mul_le_mul_right h hn, fun h => Int.mul_le_mul_of_nonneg_right h (by omega)⟩
theorem mul_mono' {a b n : Int} (hn : 0 < n) : a * n < b * n ↔ a < b := by
  have := mul_mono (a := b) (b := a) hn
  omega
theorem round_sub {n : Int} (hn : 0 < n) {s t : Sp} (h : Sub s t) : Sub (roundS n s) (roundS n t) := by
  obtain ⟨⟨a1, a2⟩, a3, a4⟩ := round_spec hn s
  obtain ⟨⟨b1, b2⟩, b3, b4⟩ := round_spec hn t
  unfold Sub at h
  have g1 : (roundS n t).1 * n < ((roundS n s).1 + 1) * n := by omega
  have g2 : (roundS n s).1 * n ≤ (roundS n s).2 * n := by omega
  have g3 : ((roundS n s).2 - 1) * n < (roundS n t).2 * n := by omega
  rw [mul_mono' hn] at g1 g3
  rw [mul_mono hn] at g2
  unfold Sub; omega

theorem lowest_spec {n d : Int} (hd : 0 < d) : ∃ g : Int, 0 < g ∧ n = (lowest n d).1 * g ∧ d = (lowest n d).2 * g ∧ 1 ≤ (lowest n d).2 := by
  have hm : Int.gcd (max n (0 - n)) d = Int.gcd n d := by
    rcases Int.le_total 0 n with h | h
    · rw [show max n (0 - n) = n by omega]
    · rw [show max n (0 - n) = -n by omega]; unfold Int.gcd; rw [Int.natAbs_neg]
  have hg : 0 < Int.gcd n d := Int.gcd_pos_of_ne_zero_right _ (by omega)
  have h1 : ((Int.gcd n d : Nat) : Int) ∣ n := Int.gcd_dvd_left ..
  have h2 : ((Int.gcd n d : Nat) : Int) ∣ d := Int.gcd_dvd_right ..
  have e1 := Int.tdiv_mul_cancel h1
  have e2 := Int.tdiv_mul_cancel h2
  refine ⟨(Int.gcd n d : Nat), by omega, by unfold lowest; rw [hm]; exact e1.symm, by unfold lowest; rw [hm]; exact e2.symm, ?_⟩
  unfold lowest
  rw [hm]
  simp only
  have hg' : (0 : Int) < (Int.gcd n d : Nat) := by omega
  have : (0 : Int) * (Int.gcd n d : Nat) < d.tdiv (Int.gcd n d : Nat) * (Int.gcd n d : Nat) := by rw [e2]; omega
  rw [mul_mono' hg'] at this
  omega
theorem limits_in {c : Clk} {b : Bn} {t : Tr} (hb : OkB b) (h : InK t (newK c b)) : ofB c t = true := by
  obtain ⟨b1, b2, b3, b4⟩ := hb
  have h1 := h.heat; have h2 := h.press; have h3 := h.arc; have h4 := h.force
  simp only [okS] at b1 b2 b3 b4
  simp only [newK] at h1 h2 h3 h4
  rw [ofB_in]
  refine ⟨h.len, h.grow, h.air, h.drive, ?_, ?_, ?_, ?_⟩
  all_goals (simp only [newK, limitsB]; omega)
theorem exactR_eq {c : Clk} {b : Bn} {t : Tr} (hk : check c = 0) (hb : OkB b) (h : InK t (newK c b)) : exactR c t = (lowest (partsR c t) (10000 * lenC c.rods), 0) := by
  unfold exactR
  rw [if_pos hk, if_pos (limits_in hb h), rate_exact]
end Go.Proofs.R03
end
section
/- The conditions of the functions, printed by program; each is what the generator reckons (kernel_rfl). -/
namespace Go.Proofs
open Go.Vc
set_option maxRecDepth 100000 in
set_option maxHeartbeats 2000000 in
theorem vc7 (m0a : Option Addr) (m0n : Nat) (m0c : Nat) (m1 : Int) (m2 : Int) (m3 : Int) (m4 : Int) (m5 : Int) (m6 : Int) (p1w0 : Int) (p1w1 : Int) (p1w2 : Int) (p1w3 : Int) (p1w4
    : Int) (p1w5 : Int) (p1w6 : Int) (p1w7 : Int) (p2bya : Option Addr) (p2byn : Nat) (p2byc : Nat) (w : World) (R : Ending → World → Prop) (h : ∀ (m1_1 : Nat), w.heap.size ≤ m1_1
    → ∀ (m2_1 : Nat), w.heap.size ≤ m2_1 → ∀ (w1 : World), RowKit.Below w.heap.size w w1 → KeptIn [(0, w.heap.size)] [m2_1, m1_1] w w1 → Calls Try.prog 33 #[Value.agg #[Value.slice
    m0a m0n m0c, Value.int IntKind.u8 m1, Value.int IntKind.i16 m2, Value.int IntKind.u8 m3, Value.int IntKind.u8 m4, Value.int IntKind.u8 m5, Value.int IntKind.u8 m6]] w1 fun (e1
    : Ending) (w2 : World) => ∃ (x1 : Int), ∃ (x2 : Int), ∃ (a1 : Option Addr), ∃ (m3 : Nat), ∃ (m4 : Nat), ∃ (x3 : Int), ∃ (x4 : Int), ∃ (x5 : Int), ∃ (x6 : Int), e1 =
    Ending.returned (Value.agg #[Value.int IntKind.i64 x1, Value.int IntKind.i64 x2, Value.slice a1 m3 m4, Value.int IntKind.i64 x3, Value.int IntKind.i64 x4, Value.int IntKind.i64
    x5, Value.int IntKind.i64 x6]) ∧ RowKit.Below w1.heap.size w1 w2 ∧ ∀ (w3 : World), RowKit.Below w.heap.size w w3 → KeptIn [(0, w.heap.size), (w1.heap.size, w2.heap.size)]
    [m2_1, m1_1] w2 w3 → Calls Try.prog 34 #[Value.agg #[Value.int IntKind.u8 p1w0, Value.int IntKind.u8 p1w1, Value.int IntKind.u8 p1w2, Value.int IntKind.u8 p1w3, Value.int
    IntKind.u8 p1w4, Value.int IntKind.u8 p1w5, Value.int IntKind.u8 p1w6, Value.int IntKind.u8 p1w7]] w3 fun (e2 : Ending) (w4 : World) => ∃ (x7 : Int), ∃ (x8 : Int), ∃ (x9 :
    Int), ∃ (x10 : Int), ∃ (x11 : Int), ∃ (x12 : Int), ∃ (x13 : Int), ∃ (x14 : Int), e2 = Ending.returned (Value.agg #[Value.int IntKind.i64 x7, Value.int IntKind.i64 x8, Value.int
    IntKind.i64 x9, Value.int IntKind.i64 x10, Value.int IntKind.i64 x11, Value.int IntKind.i64 x12, Value.int IntKind.i64 x13, Value.int IntKind.i64 x14]) ∧ RowKit.Below
    w3.heap.size w3 w4 ∧ ∀ (m5 : Nat), w.heap.size ≤ m5 → m5 < w3.heap.size ∨ w4.heap.size ≤ m5 → m5 < w1.heap.size ∨ w2.heap.size ≤ m5 → ∀ (m6 : Nat), w.heap.size ≤ m6 → m6 <
    w3.heap.size ∨ w4.heap.size ≤ m6 → m6 < w1.heap.size ∨ w2.heap.size ≤ m6 → ∀ (w5 : World), RowKit.Below w.heap.size w w5 → KeptIn [(0, w4.heap.size)] [m6, m5, m2_1, m1_1] w4 w5
    → Calls Try.prog 13 #[Value.agg #[Value.int IntKind.i64 x1, Value.int IntKind.i64 x2, Value.slice a1 m3 m4, Value.int IntKind.i64 x3, Value.int IntKind.i64 x4, Value.int
    IntKind.i64 x5, Value.int IntKind.i64 x6]] w5 fun (e3 : Ending) (w6 : World) => ∃ (x15 : Int), ∃ (x16 : Int), ∃ (a2 : Option Addr), ∃ (m7 : Nat), ∃ (m8 : Nat), ∃ (x17 : Int), ∃
    (x18 : Int), ∃ (x19 : Int), ∃ (x20 : Int), e3 = Ending.returned (Value.agg #[Value.int IntKind.i64 x15, Value.int IntKind.i64 x16, Value.slice a2 m7 m8, Value.int IntKind.i64
    x17, Value.int IntKind.i64 x18, Value.int IntKind.i64 x19, Value.int IntKind.i64 x20]) ∧ RowKit.Below w5.heap.size w5 w6 ∧ ∀ (w7 : World), RowKit.Below w.heap.size w w7 →
    KeptIn [(0, w4.heap.size), (w5.heap.size, w6.heap.size)] [m6, m5, m2_1, m1_1] w6 w7 → Calls Try.prog 22 #[Value.agg #[Value.int IntKind.i64 x15, Value.int IntKind.i64 x16,
    Value.slice a2 m7 m8, Value.int IntKind.i64 x17, Value.int IntKind.i64 x18, Value.int IntKind.i64 x19, Value.int IntKind.i64 x20], Value.agg #[Value.int IntKind.i64 x7,
    Value.int IntKind.i64 x8, Value.int IntKind.i64 x9, Value.int IntKind.i64 x10, Value.int IntKind.i64 x11, Value.int IntKind.i64 x12, Value.int IntKind.i64 x13, Value.int
    IntKind.i64 x14]] w7 fun (e4 : Ending) (w8 : World) => ∃ (x21 : Int), ∃ (x22 : Int), ∃ (x23 : Int), e4 = Ending.returned (Value.tuple #[Value.agg #[Value.int IntKind.i64 x21,
    Value.int IntKind.i64 x22], Value.int IntKind.i64 x23]) ∧ RowKit.Below w7.heap.size w7 w8 ∧ ∀ (m9 : Nat), w4.heap.size ≤ m9 → m9 < w7.heap.size ∨ w8.heap.size ≤ m9 → m9 <
    w5.heap.size ∨ w6.heap.size ≤ m9 → ∀ (w9 : World), RowKit.Below w.heap.size w w9 → KeptIn [(0, w8.heap.size)] [m9, m6, m5, m2_1, m1_1] w8 w9 → Calls Try.prog 13 #[Value.agg
    #[Value.int IntKind.i64 x1, Value.int IntKind.i64 x2, Value.slice a1 m3 m4, Value.int IntKind.i64 x3, Value.int IntKind.i64 x4, Value.int IntKind.i64 x5, Value.int IntKind.i64
    x6]] w9 fun (e5 : Ending) (w10 : World) => ∃ (x24 : Int), ∃ (x25 : Int), ∃ (a3 : Option Addr), ∃ (m10 : Nat), ∃ (m11 : Nat), ∃ (x26 : Int), ∃ (x27 : Int), ∃ (x28 : Int), ∃ (x29
    : Int), e5 = Ending.returned (Value.agg #[Value.int IntKind.i64 x24, Value.int IntKind.i64 x25, Value.slice a3 m10 m11, Value.int IntKind.i64 x26, Value.int IntKind.i64 x27,
    Value.int IntKind.i64 x28, Value.int IntKind.i64 x29]) ∧ RowKit.Below w9.heap.size w9 w10 ∧ ∀ (w11 : World), RowKit.Below w.heap.size w w11 → KeptIn [(0, w8.heap.size),
    (w9.heap.size, w10.heap.size)] [m9, m6, m5, m2_1, m1_1] w10 w11 → Calls Try.prog 23 #[Value.agg #[Value.int IntKind.i64 x24, Value.int IntKind.i64 x25, Value.slice a3 m10 m11,
    Value.int IntKind.i64 x26, Value.int IntKind.i64 x27, Value.int IntKind.i64 x28, Value.int IntKind.i64 x29], Value.agg #[Value.int IntKind.i64 x7, Value.int IntKind.i64 x8,
    Value.int IntKind.i64 x9, Value.int IntKind.i64 x10, Value.int IntKind.i64 x11, Value.int IntKind.i64 x12, Value.int IntKind.i64 x13, Value.int IntKind.i64 x14]] w11 fun (e6 :
    Ending) (w12 : World) => ∃ (a4 : Option Addr), ∃ (m12 : Nat), ∃ (m13 : Nat), ∃ (x30 : Int), ∃ (x31 : Int), ∃ (x32 : Int), ∃ (x33 : Int), ∃ (x34 : Int), ∃ (x35 : Int), ∃ (a5 :
    Option Addr), ∃ (m14 : Nat), ∃ (m15 : Nat), ∃ (x36 : Int), ∃ (x37 : Int), ∃ (x38 : Int), ∃ (x39 : Int), ∃ (x40 : Int), ∃ (x41 : Int), ∃ (x42 : Int), e6 = Ending.returned
    (Value.tuple #[Value.agg #[Value.slice a4 m12 m13, Value.int IntKind.i64 x30, Value.int IntKind.i64 x31, Value.int IntKind.i64 x32, Value.int IntKind.i64 x33, Value.int
    IntKind.i64 x34, Value.int IntKind.i64 x35], Value.agg #[Value.slice a5 m14 m15, Value.int IntKind.i64 x36, Value.int IntKind.i64 x37, Value.int IntKind.i64 x38, Value.int
    IntKind.i64 x39, Value.int IntKind.i64 x40, Value.int IntKind.i64 x41], Value.int IntKind.i64 x42]) ∧ RowKit.Below w11.heap.size w11 w12 ∧ ∀ (m16 : Nat), w8.heap.size ≤ m16 →
    m16 < w11.heap.size ∨ w12.heap.size ≤ m16 → m16 < w9.heap.size ∨ w10.heap.size ≤ m16 → ∀ (m17 : Nat), w8.heap.size ≤ m17 → m17 < w11.heap.size ∨ w12.heap.size ≤ m17 → m17 <
    w9.heap.size ∨ w10.heap.size ≤ m17 → ∀ (w13 : World), RowKit.Below w.heap.size w w13 → KeptIn [(0, w12.heap.size)] [m17, m16, m9, m6, m5, m2_1, m1_1] w12 w13 → Calls Try.prog
    13 #[Value.agg #[Value.int IntKind.i64 x1, Value.int IntKind.i64 x2, Value.slice a1 m3 m4, Value.int IntKind.i64 x3, Value.int IntKind.i64 x4, Value.int IntKind.i64 x5,
    Value.int IntKind.i64 x6]] w13 fun (e7 : Ending) (w14 : World) => ∃ (x43 : Int), ∃ (x44 : Int), ∃ (a6 : Option Addr), ∃ (m18 : Nat), ∃ (m19 : Nat), ∃ (x45 : Int), ∃ (x46 :
    Int), ∃ (x47 : Int), ∃ (x48 : Int), e7 = Ending.returned (Value.agg #[Value.int IntKind.i64 x43, Value.int IntKind.i64 x44, Value.slice a6 m18 m19, Value.int IntKind.i64 x45,
    Value.int IntKind.i64 x46, Value.int IntKind.i64 x47, Value.int IntKind.i64 x48]) ∧ RowKit.Below w13.heap.size w13 w14 ∧ ∀ (w15 : World), RowKit.Below w.heap.size w w15 →
    KeptIn [(0, w12.heap.size), (w13.heap.size, w14.heap.size)] [m17, m16, m9, m6, m5, m2_1, m1_1] w14 w15 → Calls Try.prog 35 #[Value.agg #[Value.int IntKind.i64 x1, Value.int
    IntKind.i64 x2, Value.slice a1 m3 m4, Value.int IntKind.i64 x3, Value.int IntKind.i64 x4, Value.int IntKind.i64 x5, Value.int IntKind.i64 x6], Value.agg #[Value.int IntKind.i64
    x7, Value.int IntKind.i64 x8, Value.int IntKind.i64 x9, Value.int IntKind.i64 x10, Value.int IntKind.i64 x11, Value.int IntKind.i64 x12, Value.int IntKind.i64 x13, Value.int
    IntKind.i64 x14], Value.slice p2bya p2byn p2byc] w15 fun (e8 : Ending) (w16 : World) => ∃ (a7 : Option Addr), ∃ (m20 : Nat), ∃ (m21 : Nat), ∃ (x49 : Int), ∃ (x50 : Int), ∃ (x51
    : Int), ∃ (x52 : Int), ∃ (x53 : Int), ∃ (x54 : Int), e8 = Ending.returned (Value.agg #[Value.slice a7 m20 m21, Value.int IntKind.i64 x49, Value.int IntKind.i64 x50, Value.int
    IntKind.i64 x51, Value.int IntKind.i64 x52, Value.int IntKind.i64 x53, Value.int IntKind.i64 x54]) ∧ RowKit.Below w15.heap.size w15 w16 ∧ ∀ (w17 : World), RowKit.Below
    w.heap.size w w17 → KeptIn [(0, w12.heap.size), (w15.heap.size, w16.heap.size), (w13.heap.size, w14.heap.size)] [m17, m16, m9, m6, m5, m2_1, m1_1] w16 w17 → Calls Try.prog 14
    #[Value.agg #[Value.int IntKind.i64 x43, Value.int IntKind.i64 x44, Value.slice a6 m18 m19, Value.int IntKind.i64 x45, Value.int IntKind.i64 x46, Value.int IntKind.i64 x47,
    Value.int IntKind.i64 x48], Value.agg #[Value.slice a7 m20 m21, Value.int IntKind.i64 x49, Value.int IntKind.i64 x50, Value.int IntKind.i64 x51, Value.int IntKind.i64 x52,
    Value.int IntKind.i64 x53, Value.int IntKind.i64 x54]] w17 fun (e9 : Ending) (w18 : World) => ∃ (x55 : Int), ∃ (x56 : Int), ∃ (x57 : Int), e9 = Ending.returned (Value.tuple
    #[Value.agg #[Value.int IntKind.i64 x55, Value.int IntKind.i64 x56], Value.int IntKind.i64 x57]) ∧ RowKit.Below w17.heap.size w17 w18 ∧ ∀ (m22 : Nat), w12.heap.size ≤ m22 → m22
    < w17.heap.size ∨ w18.heap.size ≤ m22 → m22 < w15.heap.size ∨ w16.heap.size ≤ m22 → m22 < w13.heap.size ∨ w14.heap.size ≤ m22 → ∀ (w19 : World), RowKit.Below w.heap.size w w19
    → KeptIn [(0, w18.heap.size)] [m22, m17, m16, m9, m6, m5, m2_1, m1_1] w18 w19 → Calls Try.prog 13 #[Value.agg #[Value.int IntKind.i64 x1, Value.int IntKind.i64 x2, Value.slice
    a1 m3 m4, Value.int IntKind.i64 x3, Value.int IntKind.i64 x4, Value.int IntKind.i64 x5, Value.int IntKind.i64 x6]] w19 fun (e10 : Ending) (w20 : World) => ∃ (x58 : Int), ∃ (x59
    : Int), ∃ (a8 : Option Addr), ∃ (m23 : Nat), ∃ (m24 : Nat), ∃ (x60 : Int), ∃ (x61 : Int), ∃ (x62 : Int), ∃ (x63 : Int), e10 = Ending.returned (Value.agg #[Value.int IntKind.i64
    x58, Value.int IntKind.i64 x59, Value.slice a8 m23 m24, Value.int IntKind.i64 x60, Value.int IntKind.i64 x61, Value.int IntKind.i64 x62, Value.int IntKind.i64 x63]) ∧
    RowKit.Below w19.heap.size w19 w20 ∧ ∀ (w21 : World), RowKit.Below w.heap.size w w21 → KeptIn [(0, w18.heap.size), (w19.heap.size, w20.heap.size)] [m22, m17, m16, m9, m6, m5,
    m2_1, m1_1] w20 w21 → Calls Try.prog 14 #[Value.agg #[Value.int IntKind.i64 x58, Value.int IntKind.i64 x59, Value.slice a8 m23 m24, Value.int IntKind.i64 x60, Value.int
    IntKind.i64 x61, Value.int IntKind.i64 x62, Value.int IntKind.i64 x63], Value.agg #[Value.slice a4 m12 m13, Value.int IntKind.i64 x30, Value.int IntKind.i64 x31, Value.int
    IntKind.i64 x32, Value.int IntKind.i64 x33, Value.int IntKind.i64 x34, Value.int IntKind.i64 x35]] w21 fun (e11 : Ending) (w22 : World) => ∃ (x64 : Int), ∃ (x65 : Int), ∃ (x66
    : Int), e11 = Ending.returned (Value.tuple #[Value.agg #[Value.int IntKind.i64 x64, Value.int IntKind.i64 x65], Value.int IntKind.i64 x66]) ∧ RowKit.Below w21.heap.size w21 w22
    ∧ ∀ (m25 : Nat), w18.heap.size ≤ m25 → m25 < w21.heap.size ∨ w22.heap.size ≤ m25 → m25 < w19.heap.size ∨ w20.heap.size ≤ m25 → ∀ (w23 : World), RowKit.Below w.heap.size w w23 →
    KeptIn [(0, w22.heap.size)] [m25, m22, m17, m16, m9, m6, m5, m2_1, m1_1] w22 w23 → Calls Try.prog 13 #[Value.agg #[Value.int IntKind.i64 x1, Value.int IntKind.i64 x2,
    Value.slice a1 m3 m4, Value.int IntKind.i64 x3, Value.int IntKind.i64 x4, Value.int IntKind.i64 x5, Value.int IntKind.i64 x6]] w23 fun (e12 : Ending) (w24 : World) => ∃ (x67 :
    Int), ∃ (x68 : Int), ∃ (a9 : Option Addr), ∃ (m26 : Nat), ∃ (m27 : Nat), ∃ (x69 : Int), ∃ (x70 : Int), ∃ (x71 : Int), ∃ (x72 : Int), e12 = Ending.returned (Value.agg
    #[Value.int IntKind.i64 x67, Value.int IntKind.i64 x68, Value.slice a9 m26 m27, Value.int IntKind.i64 x69, Value.int IntKind.i64 x70, Value.int IntKind.i64 x71, Value.int
    IntKind.i64 x72]) ∧ RowKit.Below w23.heap.size w23 w24 ∧ ∀ (w25 : World), RowKit.Below w.heap.size w w25 → KeptIn [(0, w22.heap.size), (w23.heap.size, w24.heap.size)] [m25,
    m22, m17, m16, m9, m6, m5, m2_1, m1_1] w24 w25 → Calls Try.prog 14 #[Value.agg #[Value.int IntKind.i64 x67, Value.int IntKind.i64 x68, Value.slice a9 m26 m27, Value.int
    IntKind.i64 x69, Value.int IntKind.i64 x70, Value.int IntKind.i64 x71, Value.int IntKind.i64 x72], Value.agg #[Value.slice a5 m14 m15, Value.int IntKind.i64 x36, Value.int
    IntKind.i64 x37, Value.int IntKind.i64 x38, Value.int IntKind.i64 x39, Value.int IntKind.i64 x40, Value.int IntKind.i64 x41]] w25 fun (e13 : Ending) (w26 : World) => ∃ (x73 :
    Int), ∃ (x74 : Int), ∃ (x75 : Int), e13 = Ending.returned (Value.tuple #[Value.agg #[Value.int IntKind.i64 x73, Value.int IntKind.i64 x74], Value.int IntKind.i64 x75]) ∧
    RowKit.Below w25.heap.size w25 w26 ∧ ∀ (m28 : Nat), w22.heap.size ≤ m28 → m28 < w25.heap.size ∨ w26.heap.size ≤ m28 → m28 < w23.heap.size ∨ w24.heap.size ≤ m28 → ∀ (w27 :
    World), RowKit.Below w.heap.size w w27 → Kept [m28, m25, m22, m17, m16, m9, m6, m5, m2_1, m1_1] w26 w27 → Calls Try.prog 13 #[Value.agg #[Value.int IntKind.i64 x1, Value.int
    IntKind.i64 x2, Value.slice a1 m3 m4, Value.int IntKind.i64 x3, Value.int IntKind.i64 x4, Value.int IntKind.i64 x5, Value.int IntKind.i64 x6]] w27 fun (e14 : Ending) (w28 :
    World) => ∃ (x76 : Int), ∃ (x77 : Int), ∃ (a10 : Option Addr), ∃ (m29 : Nat), ∃ (m30 : Nat), ∃ (x78 : Int), ∃ (x79 : Int), ∃ (x80 : Int), ∃ (x81 : Int), e14 = Ending.returned
    (Value.agg #[Value.int IntKind.i64 x76, Value.int IntKind.i64 x77, Value.slice a10 m29 m30, Value.int IntKind.i64 x78, Value.int IntKind.i64 x79, Value.int IntKind.i64 x80,
    Value.int IntKind.i64 x81]) ∧ KeepX true w.heap.size [m28, m25, m22, m17, m16, m9, m6, m5, m2_1, m1_1] (fun _ => False) w27 w28 ∧ ∀ (w29 : World), RowKit.Below w.heap.size w
    w29 → Kept [m28, m25, m22, m17, m16, m9, m6, m5, m2_1, m1_1] w28 w29 → Calls Try.prog 17 #[Value.agg #[Value.int IntKind.i64 x76, Value.int IntKind.i64 x77, Value.slice a10 m29
    m30, Value.int IntKind.i64 x78, Value.int IntKind.i64 x79, Value.int IntKind.i64 x80, Value.int IntKind.i64 x81]] w29 fun (e15 : Ending) (w30 : World) => ∃ (x82 : Int), e15 =
    Ending.returned (Value.int IntKind.i64 x82) ∧ KeepX true w.heap.size [m28, m25, m22, m17, m16, m9, m6, m5, m2_1, m1_1] (fun _ => False) w29 w30 ∧ (x82 ≠ 0 → ∀ (w31 : World),
    RowKit.Below w.heap.size w w31 → Kept [m28, m25, m22, m17, m16, m9, m6, m5, m2_1, m1_1] w30 w31 → R (Ending.returned (Value.bool false)) w31) ∧ (x82 = 0 → (x23 ≠ 0 → ∀ (w32 :
    World), RowKit.Below w.heap.size w w32 → Kept [m28, m25, m22, m17, m16, m9, m6, m5, m2_1, m1_1] w30 w32 → R (Ending.returned (Value.bool false)) w32) ∧ (x23 = 0 → (x42 ≠ 0 → ∀
    (w33 : World), RowKit.Below w.heap.size w w33 → Kept [m28, m25, m22, m17, m16, m9, m6, m5, m2_1, m1_1] w30 w33 → R (Ending.returned (Value.bool false)) w33) ∧ (x42 = 0 → (x57 ≠
    0 → ∀ (w34 : World), RowKit.Below w.heap.size w w34 → Kept [m28, m25, m22, m17, m16, m9, m6, m5, m2_1, m1_1] w30 w34 → R (Ending.returned (Value.bool false)) w34) ∧ (x57 = 0 →
    (x66 ≠ 0 → ∀ (w35 : World), RowKit.Below w.heap.size w w35 → Kept [m28, m25, m22, m17, m16, m9, m6, m5, m2_1, m1_1] w30 w35 → R (Ending.returned (Value.bool false)) w35) ∧ (x66
    = 0 → (x75 ≠ 0 → ∀ (w36 : World), RowKit.Below w.heap.size w w36 → Kept [m28, m25, m22, m17, m16, m9, m6, m5, m2_1, m1_1] w30 w36 → R (Ending.returned (Value.bool false)) w36)
    ∧ (x75 = 0 → ∀ (w37 : World), RowKit.Below w.heap.size w w37 → Kept [m28, m25, m22, m17, m16, m9, m6, m5, m2_1, m1_1] w30 w37 → Calls Try.prog 36 #[Value.agg #[Value.slice a4
    m12 m13, Value.int IntKind.i64 x30, Value.int IntKind.i64 x31, Value.int IntKind.i64 x32, Value.int IntKind.i64 x33, Value.int IntKind.i64 x34, Value.int IntKind.i64 x35],
    Value.agg #[Value.int IntKind.i64 x1, Value.int IntKind.i64 x2, Value.slice a1 m3 m4, Value.int IntKind.i64 x3, Value.int IntKind.i64 x4, Value.int IntKind.i64 x5, Value.int
    IntKind.i64 x6], Value.agg #[Value.int IntKind.i64 x7, Value.int IntKind.i64 x8, Value.int IntKind.i64 x9, Value.int IntKind.i64 x10, Value.int IntKind.i64 x11, Value.int
    IntKind.i64 x12, Value.int IntKind.i64 x13, Value.int IntKind.i64 x14]] w37 fun (e16 : Ending) (w38 : World) => ∃ (t1 : Bool), e16 = Ending.returned (Value.bool t1) ∧ KeepX
    true w.heap.size [m28, m25, m22, m17, m16, m9, m6, m5, m2_1, m1_1] (fun _ => False) w37 w38 ∧ ((!t1) = true → ∀ (w39 : World), RowKit.Below w.heap.size w w39 → Kept [m28, m25,
    m22, m17, m16, m9, m6, m5, m2_1, m1_1] w38 w39 → R (Ending.returned (Value.bool false)) w39) ∧ ((!t1) = false → ∀ (w40 : World), RowKit.Below w.heap.size w w40 → Kept [m28,
    m25, m22, m17, m16, m9, m6, m5, m2_1, m1_1] w38 w40 → Calls Try.prog 36 #[Value.agg #[Value.slice a5 m14 m15, Value.int IntKind.i64 x36, Value.int IntKind.i64 x37, Value.int
    IntKind.i64 x38, Value.int IntKind.i64 x39, Value.int IntKind.i64 x40, Value.int IntKind.i64 x41], Value.agg #[Value.int IntKind.i64 x1, Value.int IntKind.i64 x2, Value.slice
    a1 m3 m4, Value.int IntKind.i64 x3, Value.int IntKind.i64 x4, Value.int IntKind.i64 x5, Value.int IntKind.i64 x6], Value.agg #[Value.int IntKind.i64 x7, Value.int IntKind.i64
    x8, Value.int IntKind.i64 x9, Value.int IntKind.i64 x10, Value.int IntKind.i64 x11, Value.int IntKind.i64 x12, Value.int IntKind.i64 x13, Value.int IntKind.i64 x14]] w40 fun
    (e17 : Ending) (w41 : World) => ∃ (t2 : Bool), e17 = Ending.returned (Value.bool t2) ∧ KeepX true w.heap.size [m28, m25, m22, m17, m16, m9, m6, m5, m2_1, m1_1] (fun _ => False)
    w40 w41 ∧ ((!t2) = true → ∀ (w42 : World), RowKit.Below w.heap.size w w42 → Kept [m28, m25, m22, m17, m16, m9, m6, m5, m2_1, m1_1] w41 w42 → R (Ending.returned (Value.bool
    false)) w42) ∧ ((!t2) = false → (x56 < 1 → ∀ (w43 : World), RowKit.Below w.heap.size w w43 → Kept [m28, m25, m22, m17, m16, m9, m6, m5, m2_1, m1_1] w41 w43 → R (Ending.returned
    (Value.bool false)) w43) ∧ (1 ≤ x56 → (x65 < 1 → ∀ (w44 : World), RowKit.Below w.heap.size w w44 → Kept [m28, m25, m22, m17, m16, m9, m6, m5, m2_1, m1_1] w41 w44 → R
    (Ending.returned (Value.bool false)) w44) ∧ (1 ≤ x65 → (x74 < 1 → ∀ (w45 : World), RowKit.Below w.heap.size w w45 → Kept [m28, m25, m22, m17, m16, m9, m6, m5, m2_1, m1_1] w41
    w45 → R (Ending.returned (Value.bool false)) w45) ∧ (1 ≤ x74 → (-9223372036854775808 ≤ x21 * x56 ∧ x21 * x56 ≤ 9223372036854775807) ∧ (x55 < x21 * x56 → ∀ (w46 : World),
    RowKit.Below w.heap.size w w46 → Kept [m28, m25, m22, m17, m16, m9, m6, m5, m2_1, m1_1] w41 w46 → R (Ending.returned (Value.bool false)) w46) ∧ (x21 * x56 ≤ x55 →
    (-9223372036854775808 ≤ x22 * x56 ∧ x22 * x56 ≤ 9223372036854775807) ∧ (x22 * x56 < x55 → ∀ (w47 : World), RowKit.Below w.heap.size w w47 → Kept [m28, m25, m22, m17, m16, m9,
    m6, m5, m2_1, m1_1] w41 w47 → R (Ending.returned (Value.bool false)) w47) ∧ (x55 ≤ x22 * x56 → (x73 < x64 → (x65 = x74 → ∀ (w48 : World), RowKit.Below w.heap.size w w48 → Kept
    [m28, m25, m22, m17, m16, m9, m6, m5, m2_1, m1_1] w41 w48 → R (Ending.returned (Value.bool false)) w48) ∧ (x65 ≠ x74 → (-9223372036854775808 ≤ x21 * x65 ∧ x21 * x65 ≤
    9223372036854775807) ∧ (x21 * x65 ≤ x64 → (-9223372036854775808 ≤ x21 + 1 ∧ x21 + (1 : Int) ≤ 9223372036854775807) ∧ (-9223372036854775808 ≤ (x21 + 1) * x65 ∧ (x21 + 1) * x65 ≤
    9223372036854775807) ∧ (x64 < (x21 + 1) * x65 → (-9223372036854775808 ≤ x22 * x74 ∧ x22 * x74 ≤ 9223372036854775807) ∧ (x73 ≤ x22 * x74 → (-9223372036854775808 ≤ x22 - 1 ∧ x22
    - (1 : Int) ≤ 9223372036854775807) ∧ (-9223372036854775808 ≤ (x22 - 1) * x74 ∧ (x22 - 1) * x74 ≤ 9223372036854775807) ∧ ((x22 - 1) * x74 < x73 → ∀ (w49 : World), RowKit.Below
    w.heap.size w w49 → Kept [m28, m25, m22, m17, m16, m9, m6, m5, m2_1, m1_1] w41 w49 → Calls Try.prog 12 #[] w49 fun (e18 : Ending) (w50 : World) => ∃ (t3 : Bool), e18 =
    Ending.returned (Value.bool t3) ∧ KeepX true w.heap.size [m28, m25, m22, m17, m16, m9, m6, m5, m2_1, m1_1] (fun _ => False) w49 w50 ∧ ∀ (w51 : World), RowKit.Below w.heap.size
    w w51 → Kept [m28, m25, m22, m17, m16, m9, m6, m5, m2_1, m1_1] w50 w51 → R (Ending.returned (Value.bool t3)) w51) ∧ (x73 ≤ (x22 - 1) * x74 → ∀ (w52 : World), RowKit.Below
    w.heap.size w w52 → Kept [m28, m25, m22, m17, m16, m9, m6, m5, m2_1, m1_1] w41 w52 → R (Ending.returned (Value.bool false)) w52)) ∧ (x22 * x74 < x73 → ∀ (w53 : World),
    RowKit.Below w.heap.size w w53 → Kept [m28, m25, m22, m17, m16, m9, m6, m5, m2_1, m1_1] w41 w53 → R (Ending.returned (Value.bool false)) w53)) ∧ ((x21 + 1) * x65 ≤ x64 → ∀ (w54
    : World), RowKit.Below w.heap.size w w54 → Kept [m28, m25, m22, m17, m16, m9, m6, m5, m2_1, m1_1] w41 w54 → R (Ending.returned (Value.bool false)) w54)) ∧ (x64 < x21 * x65 → ∀
    (w55 : World), RowKit.Below w.heap.size w w55 → Kept [m28, m25, m22, m17, m16, m9, m6, m5, m2_1, m1_1] w41 w55 → R (Ending.returned (Value.bool false)) w55))) ∧ (x64 ≤ x73 →
    (-9223372036854775808 ≤ x21 * x65 ∧ x21 * x65 ≤ 9223372036854775807) ∧ (x21 * x65 ≤ x64 → (-9223372036854775808 ≤ x21 + 1 ∧ x21 + (1 : Int) ≤ 9223372036854775807) ∧
    (-9223372036854775808 ≤ (x21 + 1) * x65 ∧ (x21 + 1) * x65 ≤ 9223372036854775807) ∧ (x64 < (x21 + 1) * x65 → (-9223372036854775808 ≤ x22 * x74 ∧ x22 * x74 ≤ 9223372036854775807)
    ∧ (x73 ≤ x22 * x74 → (-9223372036854775808 ≤ x22 - 1 ∧ x22 - (1 : Int) ≤ 9223372036854775807) ∧ (-9223372036854775808 ≤ (x22 - 1) * x74 ∧ (x22 - 1) * x74 ≤ 9223372036854775807)
    ∧ ((x22 - 1) * x74 < x73 → ∀ (w56 : World), RowKit.Below w.heap.size w w56 → Kept [m28, m25, m22, m17, m16, m9, m6, m5, m2_1, m1_1] w41 w56 → Calls Try.prog 12 #[] w56 fun (e19
    : Ending) (w57 : World) => ∃ (t4 : Bool), e19 = Ending.returned (Value.bool t4) ∧ KeepX true w.heap.size [m28, m25, m22, m17, m16, m9, m6, m5, m2_1, m1_1] (fun _ => False) w56
    w57 ∧ ∀ (w58 : World), RowKit.Below w.heap.size w w58 → Kept [m28, m25, m22, m17, m16, m9, m6, m5, m2_1, m1_1] w57 w58 → R (Ending.returned (Value.bool t4)) w58) ∧ (x73 ≤ (x22
    - 1) * x74 → ∀ (w59 : World), RowKit.Below w.heap.size w w59 → Kept [m28, m25, m22, m17, m16, m9, m6, m5, m2_1, m1_1] w41 w59 → R (Ending.returned (Value.bool false)) w59)) ∧
    (x22 * x74 < x73 → ∀ (w60 : World), RowKit.Below w.heap.size w w60 → Kept [m28, m25, m22, m17, m16, m9, m6, m5, m2_1, m1_1] w41 w60 → R (Ending.returned (Value.bool false))
    w60)) ∧ ((x21 + 1) * x65 ≤ x64 → ∀ (w61 : World), RowKit.Below w.heap.size w w61 → Kept [m28, m25, m22, m17, m16, m9, m6, m5, m2_1, m1_1] w41 w61 → R (Ending.returned
    (Value.bool false)) w61)) ∧ (x64 < x21 * x65 → ∀ (w62 : World), RowKit.Below w.heap.size w w62 → Kept [m28, m25, m22, m17, m16, m9, m6, m5, m2_1, m1_1] w41 w62 → R
    (Ending.returned (Value.bool false)) w62)))))))))))))))) : Calls Try.prog 7 #[Value.agg #[Value.slice m0a m0n m0c, Value.int IntKind.u8 m1, Value.int IntKind.i16 m2, Value.int
    IntKind.u8 m3, Value.int IntKind.u8 m4, Value.int IntKind.u8 m5, Value.int IntKind.u8 m6], Value.agg #[Value.int IntKind.u8 p1w0, Value.int IntKind.u8 p1w1, Value.int
    IntKind.u8 p1w2, Value.int IntKind.u8 p1w3, Value.int IntKind.u8 p1w4, Value.int IntKind.u8 p1w5, Value.int IntKind.u8 p1w6, Value.int IntKind.u8 p1w7], Value.slice p2bya p2byn
    p2byc] w R := calls_of_vc (pure := true) (wrapAt := []) (muts := []) (esc := []) (args := [SV.pv (PV.agg [Lf.sl m0a m0n m0c, Lf.int IntKind.u8 m1, Lf.int IntKind.i16 m2, Lf.int
    IntKind.u8 m3, Lf.int IntKind.u8 m4, Lf.int IntKind.u8 m5, Lf.int IntKind.u8 m6]), SV.pv (PV.agg [Lf.int IntKind.u8 p1w0, Lf.int IntKind.u8 p1w1, Lf.int IntKind.u8 p1w2, Lf.int
    IntKind.u8 p1w3, Lf.int IntKind.u8 p1w4, Lf.int IntKind.u8 p1w5, Lf.int IntKind.u8 p1w6, Lf.int IntKind.u8 p1w7]), SV.pv (PV.one (Lf.sl p2bya p2byn p2byc))]) (vs := [Value.agg
    #[Value.slice m0a m0n m0c, Value.int IntKind.u8 m1, Value.int IntKind.i16 m2, Value.int IntKind.u8 m3, Value.int IntKind.u8 m4, Value.int IntKind.u8 m5, Value.int IntKind.u8
    m6], Value.agg #[Value.int IntKind.u8 p1w0, Value.int IntKind.u8 p1w1, Value.int IntKind.u8 p1w2, Value.int IntKind.u8 p1w3, Value.int IntKind.u8 p1w4, Value.int IntKind.u8
    p1w5, Value.int IntKind.u8 p1w6, Value.int IntKind.u8 p1w7], Value.slice p2bya p2byn p2byc]) Try.func7 rfl rfl rfl (Eq.mp (by kernel_rfl) h) 
set_option maxRecDepth 100000 in
set_option maxHeartbeats 2000000 in
theorem vc8 (m0a : Option Addr) (m0n : Nat) (m0c : Nat) (m1 : Int) (m2 : Int) (m3 : Int) (m4 : Int) (m5 : Int) (m6 : Int) (p1w0 : Int) (p1w1 : Int) (p1w2 : Int) (p1w3 : Int) (p1w4
    : Int) (p1w5 : Int) (p1w6 : Int) (p1w7 : Int) (p2bya : Option Addr) (p2byn : Nat) (p2byc : Nat) (w : World) (R : Ending → World → Prop) (h : ∀ (m1_1 : Nat), w.heap.size ≤ m1_1
    → ∀ (m2_1 : Nat), w.heap.size ≤ m2_1 → ∀ (w1 : World), RowKit.Below w.heap.size w w1 → KeptIn [(0, w.heap.size)] [m2_1, m1_1] w w1 → Calls Try.prog 33 #[Value.agg #[Value.slice
    m0a m0n m0c, Value.int IntKind.u8 m1, Value.int IntKind.i16 m2, Value.int IntKind.u8 m3, Value.int IntKind.u8 m4, Value.int IntKind.u8 m5, Value.int IntKind.u8 m6]] w1 fun (e1
    : Ending) (w2 : World) => ∃ (x1 : Int), ∃ (x2 : Int), ∃ (a1 : Option Addr), ∃ (m3 : Nat), ∃ (m4 : Nat), ∃ (x3 : Int), ∃ (x4 : Int), ∃ (x5 : Int), ∃ (x6 : Int), e1 =
    Ending.returned (Value.agg #[Value.int IntKind.i64 x1, Value.int IntKind.i64 x2, Value.slice a1 m3 m4, Value.int IntKind.i64 x3, Value.int IntKind.i64 x4, Value.int IntKind.i64
    x5, Value.int IntKind.i64 x6]) ∧ RowKit.Below w1.heap.size w1 w2 ∧ ∀ (w3 : World), RowKit.Below w.heap.size w w3 → KeptIn [(0, w.heap.size), (w1.heap.size, w2.heap.size)]
    [m2_1, m1_1] w2 w3 → Calls Try.prog 34 #[Value.agg #[Value.int IntKind.u8 p1w0, Value.int IntKind.u8 p1w1, Value.int IntKind.u8 p1w2, Value.int IntKind.u8 p1w3, Value.int
    IntKind.u8 p1w4, Value.int IntKind.u8 p1w5, Value.int IntKind.u8 p1w6, Value.int IntKind.u8 p1w7]] w3 fun (e2 : Ending) (w4 : World) => ∃ (x7 : Int), ∃ (x8 : Int), ∃ (x9 :
    Int), ∃ (x10 : Int), ∃ (x11 : Int), ∃ (x12 : Int), ∃ (x13 : Int), ∃ (x14 : Int), e2 = Ending.returned (Value.agg #[Value.int IntKind.i64 x7, Value.int IntKind.i64 x8, Value.int
    IntKind.i64 x9, Value.int IntKind.i64 x10, Value.int IntKind.i64 x11, Value.int IntKind.i64 x12, Value.int IntKind.i64 x13, Value.int IntKind.i64 x14]) ∧ RowKit.Below
    w3.heap.size w3 w4 ∧ ∀ (m5 : Nat), w.heap.size ≤ m5 → m5 < w3.heap.size ∨ w4.heap.size ≤ m5 → m5 < w1.heap.size ∨ w2.heap.size ≤ m5 → ∀ (m6 : Nat), w.heap.size ≤ m6 → m6 <
    w3.heap.size ∨ w4.heap.size ≤ m6 → m6 < w1.heap.size ∨ w2.heap.size ≤ m6 → ∀ (w5 : World), RowKit.Below w.heap.size w w5 → Kept [m6, m5, m2_1, m1_1] w4 w5 → Calls Try.prog 35
    #[Value.agg #[Value.int IntKind.i64 x1, Value.int IntKind.i64 x2, Value.slice a1 m3 m4, Value.int IntKind.i64 x3, Value.int IntKind.i64 x4, Value.int IntKind.i64 x5, Value.int
    IntKind.i64 x6], Value.agg #[Value.int IntKind.i64 x7, Value.int IntKind.i64 x8, Value.int IntKind.i64 x9, Value.int IntKind.i64 x10, Value.int IntKind.i64 x11, Value.int
    IntKind.i64 x12, Value.int IntKind.i64 x13, Value.int IntKind.i64 x14], Value.slice p2bya p2byn p2byc] w5 fun (e3 : Ending) (w6 : World) => ∃ (a2 : Option Addr), ∃ (m7 : Nat),
    ∃ (m8 : Nat), ∃ (x15 : Int), ∃ (x16 : Int), ∃ (x17 : Int), ∃ (x18 : Int), ∃ (x19 : Int), ∃ (x20 : Int), e3 = Ending.returned (Value.agg #[Value.slice a2 m7 m8, Value.int
    IntKind.i64 x15, Value.int IntKind.i64 x16, Value.int IntKind.i64 x17, Value.int IntKind.i64 x18, Value.int IntKind.i64 x19, Value.int IntKind.i64 x20]) ∧ KeepX true
    w.heap.size [m6, m5, m2_1, m1_1] (fun _ => False) w5 w6 ∧ ∀ (m10 : Nat), w6.heap.size ≤ m10 → ∀ (w7 : World), RowKit.Below w.heap.size w w7 → Kept [m10, m6, m5, m2_1, m1_1] w6
    w7 → Calls Try.prog 13 #[Value.agg #[Value.int IntKind.i64 x1, Value.int IntKind.i64 x2, Value.slice a1 m3 m4, Value.int IntKind.i64 x3, Value.int IntKind.i64 x4, Value.int
    IntKind.i64 x5, Value.int IntKind.i64 x6]] w7 fun (e4 : Ending) (w8 : World) => ∃ (x21 : Int), ∃ (x22 : Int), ∃ (a3 : Option Addr), ∃ (m11 : Nat), ∃ (m12 : Nat), ∃ (x23 : Int),
    ∃ (x24 : Int), ∃ (x25 : Int), ∃ (x26 : Int), e4 = Ending.returned (Value.agg #[Value.int IntKind.i64 x21, Value.int IntKind.i64 x22, Value.slice a3 m11 m12, Value.int
    IntKind.i64 x23, Value.int IntKind.i64 x24, Value.int IntKind.i64 x25, Value.int IntKind.i64 x26]) ∧ KeepX true w.heap.size [m10, m6, m5, m2_1, m1_1] (fun _ => False) w7 w8 ∧ ∀
    (m14 : Nat), w8.heap.size ≤ m14 → ∃ (F1 : List Lf → World → Prop), ∃ (F2 : List Lf → Nat), (∀ (w10 : World), RowKit.Below w.heap.size w w10 → Kept [m14, m10, m6, m5, m2_1,
    m1_1] w8 w10 → F1 [Lf.int IntKind.i64 0] w10) ∧ ∀ (x27 : Int) (w11 : World), RowKit.Below w.heap.size w w11 → F1 [Lf.int IntKind.i64 x27] w11 → (x27 < (↑m11 : Int) → ∃ (m15 :
    Nat), ∃ (m16 : Nat), a3 = some { block := m15, off := m16 } ∧ (0 ≤ x27 ∧ x27 < (↑m11 : Int)) ∧ ∃ (x28 : Int), ∃ (x29 : Int), w11.cell?
    { block := m15, off := m16 + x27.toNat * 4 + 1 } = some (Value.int IntKind.i64 x28) ∧ w11.cell? { block := m15, off := m16 + x27.toNat * 4 + 1 + 1 } = some (Value.int
    IntKind.i64 x29) ∧ (m15 < w.heap.size ∨ m15 ≠ m14 ∧ m15 ≠ m10 ∧ m15 ≠ m6 ∧ m15 ≠ m5 ∧ m15 ≠ m2_1 ∧ m15 ≠ m1_1) ∧ ∃ (m17 : Nat), ∃ (m18 : Nat), a2 = some
    { block := m17, off := m18 } ∧ (0 ≤ x27 ∧ x27 < (↑m7 : Int)) ∧ ∃ (x30 : Int), w11.cell? { block := m17, off := m18 + x27.toNat * 1 } = some (Value.int IntKind.i64 x30) ∧ (m17 <
    w.heap.size ∨ m17 ≠ m14 ∧ m17 ≠ m10 ∧ m17 ≠ m6 ∧ m17 ≠ m5 ∧ m17 ≠ m2_1 ∧ m17 ≠ m1_1) ∧ ∀ (w12 : World), RowKit.Below w.heap.size w w12 → KeptIn [(0, w11.heap.size)] [m14, m10,
    m6, m5, m2_1, m1_1] w11 w12 → Calls Try.prog 37 #[Value.agg #[Value.int IntKind.i64 x28, Value.int IntKind.i64 x29], Value.int IntKind.i64 x30] w12 fun (e5 : Ending) (w13 :
    World) => ∃ (x31 : Int), ∃ (x32 : Int), e5 = Ending.returned (Value.agg #[Value.int IntKind.i64 x31, Value.int IntKind.i64 x32]) ∧ KeepX true w.heap.size [m14, m10, m6, m5,
    m2_1, m1_1] (fun _ => False) w12 w13 ∧ ∃ (m20 : Nat), ∃ (m21 : Nat), a3 = some { block := m20, off := m21 } ∧ (0 ≤ x27 ∧ x27 < (↑m11 : Int)) ∧ ∀ (w14 : World), RowKit.Below
    w.heap.size w w14 → KeptIn [(0, w13.heap.size)] [m14, m10, m6, m5, m2_1, m1_1] w13 w14 → RunsTo Try.prog ((Instr.storeAt 25 (Value.pointer (some
    { block := m20, off := m21 + x27.toNat * 4 + 1 })) (Value.agg #[Value.int IntKind.i64 x31, Value.int IntKind.i64 x32])) >>= fun _ => pure (Value.tuple #[])) w14 fun (v1 :
    Value) (w15 : World) => KeepX true w.heap.size [m14, m10, m6, m5, m2_1, m1_1] (fun _ => False) w14 w15 ∧ (-9223372036854775808 ≤ x27 + 1 ∧ x27 + (1 : Int) ≤
    9223372036854775807) ∧ ∀ (w16 : World), RowKit.Below w.heap.size w w16 → Kept [m14, m10, m6, m5, m2_1, m1_1] w15 w16 → F1 [Lf.int IntKind.i64 (x27 + 1)] w16 ∧ F2 [Lf.int
    IntKind.i64 (x27 + 1)] < F2 [Lf.int IntKind.i64 x27]) ∧ ((↑m11 : Int) ≤ x27 → ∀ (w17 : World), RowKit.Below w.heap.size w w17 → KeptIn [(0, w11.heap.size)] [m14, m10, m6, m5,
    m2_1, m1_1] w11 w17 → Calls Try.prog 37 #[Value.agg #[Value.int IntKind.i64 x23, Value.int IntKind.i64 x24], Value.int IntKind.i64 x15] w17 fun (e6 : Ending) (w18 : World) => ∃
    (x33 : Int), ∃ (x34 : Int), e6 = Ending.returned (Value.agg #[Value.int IntKind.i64 x33, Value.int IntKind.i64 x34]) ∧ KeepX true w.heap.size [m14, m10, m6, m5, m2_1, m1_1]
    (fun _ => False) w17 w18 ∧ ∀ (w19 : World), RowKit.Below w.heap.size w w19 → KeptIn [(0, w18.heap.size)] [m14, m10, m6, m5, m2_1, m1_1] w18 w19 → Calls Try.prog 37 #[Value.agg
    #[Value.int IntKind.i64 x25, Value.int IntKind.i64 x26], Value.int IntKind.i64 x16] w19 fun (e7 : Ending) (w20 : World) => ∃ (x35 : Int), ∃ (x36 : Int), e7 = Ending.returned
    (Value.agg #[Value.int IntKind.i64 x35, Value.int IntKind.i64 x36]) ∧ KeepX true w.heap.size [m14, m10, m6, m5, m2_1, m1_1] (fun _ => False) w19 w20 ∧ ∀ (w21 : World),
    RowKit.Below w.heap.size w w21 → KeptIn [(0, w20.heap.size)] [m14, m10, m6, m5, m2_1, m1_1] w20 w21 → Calls Try.prog 37 #[Value.agg #[Value.int IntKind.i64 x7, Value.int
    IntKind.i64 x8], Value.int IntKind.i64 x17] w21 fun (e8 : Ending) (w22 : World) => ∃ (x37 : Int), ∃ (x38 : Int), e8 = Ending.returned (Value.agg #[Value.int IntKind.i64 x37,
    Value.int IntKind.i64 x38]) ∧ RowKit.Below w21.heap.size w21 w22 ∧ ∀ (w23 : World), RowKit.Below w.heap.size w w23 → KeptIn [(0, w20.heap.size), (w21.heap.size, w22.heap.size)]
    [m14, m10, m6, m5, m2_1, m1_1] w22 w23 → Calls Try.prog 37 #[Value.agg #[Value.int IntKind.i64 x9, Value.int IntKind.i64 x10], Value.int IntKind.i64 x18] w23 fun (e9 : Ending)
    (w24 : World) => ∃ (x39 : Int), ∃ (x40 : Int), e9 = Ending.returned (Value.agg #[Value.int IntKind.i64 x39, Value.int IntKind.i64 x40]) ∧ RowKit.Below w23.heap.size w23 w24 ∧ ∀
    (w25 : World), RowKit.Below w.heap.size w w25 → KeptIn [(0, w20.heap.size), (w23.heap.size, w24.heap.size), (w21.heap.size, w22.heap.size)] [m14, m10, m6, m5, m2_1, m1_1] w24
    w25 → Calls Try.prog 37 #[Value.agg #[Value.int IntKind.i64 x11, Value.int IntKind.i64 x12], Value.int IntKind.i64 x19] w25 fun (e10 : Ending) (w26 : World) => ∃ (x41 : Int), ∃
    (x42 : Int), e10 = Ending.returned (Value.agg #[Value.int IntKind.i64 x41, Value.int IntKind.i64 x42]) ∧ RowKit.Below w25.heap.size w25 w26 ∧ ∀ (w27 : World), RowKit.Below
    w.heap.size w w27 → KeptIn [(0, w20.heap.size), (w25.heap.size, w26.heap.size), (w23.heap.size, w24.heap.size), (w21.heap.size, w22.heap.size)] [m14, m10, m6, m5, m2_1, m1_1]
    w26 w27 → Calls Try.prog 37 #[Value.agg #[Value.int IntKind.i64 x13, Value.int IntKind.i64 x14], Value.int IntKind.i64 x20] w27 fun (e11 : Ending) (w28 : World) => ∃ (x43 :
    Int), ∃ (x44 : Int), e11 = Ending.returned (Value.agg #[Value.int IntKind.i64 x43, Value.int IntKind.i64 x44]) ∧ RowKit.Below w27.heap.size w27 w28 ∧ ∀ (m25 : Nat),
    w20.heap.size ≤ m25 → m25 < w27.heap.size ∨ w28.heap.size ≤ m25 → m25 < w25.heap.size ∨ w26.heap.size ≤ m25 → m25 < w23.heap.size ∨ w24.heap.size ≤ m25 → m25 < w21.heap.size ∨
    w22.heap.size ≤ m25 → ∀ (w29 : World), RowKit.Below w.heap.size w w29 → KeptIn [(0, w28.heap.size)] [m25, m14, m10, m6, m5, m2_1, m1_1] w28 w29 → Calls Try.prog 13 #[Value.agg
    #[Value.int IntKind.i64 x1, Value.int IntKind.i64 x2, Value.slice a1 m3 m4, Value.int IntKind.i64 x3, Value.int IntKind.i64 x4, Value.int IntKind.i64 x5, Value.int IntKind.i64
    x6]] w29 fun (e12 : Ending) (w30 : World) => ∃ (x45 : Int), ∃ (x46 : Int), ∃ (a4 : Option Addr), ∃ (m26 : Nat), ∃ (m27 : Nat), ∃ (x47 : Int), ∃ (x48 : Int), ∃ (x49 : Int), ∃
    (x50 : Int), e12 = Ending.returned (Value.agg #[Value.int IntKind.i64 x45, Value.int IntKind.i64 x46, Value.slice a4 m26 m27, Value.int IntKind.i64 x47, Value.int IntKind.i64
    x48, Value.int IntKind.i64 x49, Value.int IntKind.i64 x50]) ∧ RowKit.Below w29.heap.size w29 w30 ∧ ∀ (w31 : World), RowKit.Below w.heap.size w w31 → KeptIn [(0, w28.heap.size),
    (w29.heap.size, w30.heap.size)] [m25, m14, m10, m6, m5, m2_1, m1_1] w30 w31 → Calls Try.prog 22 #[Value.agg #[Value.int IntKind.i64 x45, Value.int IntKind.i64 x46, Value.slice
    a4 m26 m27, Value.int IntKind.i64 x47, Value.int IntKind.i64 x48, Value.int IntKind.i64 x49, Value.int IntKind.i64 x50], Value.agg #[Value.int IntKind.i64 x7, Value.int
    IntKind.i64 x8, Value.int IntKind.i64 x9, Value.int IntKind.i64 x10, Value.int IntKind.i64 x11, Value.int IntKind.i64 x12, Value.int IntKind.i64 x13, Value.int IntKind.i64
    x14]] w31 fun (e13 : Ending) (w32 : World) => ∃ (x51 : Int), ∃ (x52 : Int), ∃ (x53 : Int), e13 = Ending.returned (Value.tuple #[Value.agg #[Value.int IntKind.i64 x51, Value.int
    IntKind.i64 x52], Value.int IntKind.i64 x53]) ∧ RowKit.Below w31.heap.size w31 w32 ∧ ∀ (m28 : Nat), w28.heap.size ≤ m28 → m28 < w31.heap.size ∨ w32.heap.size ≤ m28 → m28 <
    w29.heap.size ∨ w30.heap.size ≤ m28 → ∀ (w33 : World), RowKit.Below w.heap.size w w33 → KeptIn [(0, w32.heap.size)] [m28, m25, m14, m10, m6, m5, m2_1, m1_1] w32 w33 → Calls
    Try.prog 13 #[Value.agg #[Value.int IntKind.i64 x21, Value.int IntKind.i64 x22, Value.slice a3 m11 m12, Value.int IntKind.i64 x33, Value.int IntKind.i64 x34, Value.int
    IntKind.i64 x35, Value.int IntKind.i64 x36]] w33 fun (e14 : Ending) (w34 : World) => ∃ (x54 : Int), ∃ (x55 : Int), ∃ (a5 : Option Addr), ∃ (m29 : Nat), ∃ (m30 : Nat), ∃ (x56 :
    Int), ∃ (x57 : Int), ∃ (x58 : Int), ∃ (x59 : Int), e14 = Ending.returned (Value.agg #[Value.int IntKind.i64 x54, Value.int IntKind.i64 x55, Value.slice a5 m29 m30, Value.int
    IntKind.i64 x56, Value.int IntKind.i64 x57, Value.int IntKind.i64 x58, Value.int IntKind.i64 x59]) ∧ RowKit.Below w33.heap.size w33 w34 ∧ ∀ (w35 : World), RowKit.Below
    w.heap.size w w35 → KeptIn [(0, w32.heap.size), (w33.heap.size, w34.heap.size)] [m28, m25, m14, m10, m6, m5, m2_1, m1_1] w34 w35 → Calls Try.prog 22 #[Value.agg #[Value.int
    IntKind.i64 x54, Value.int IntKind.i64 x55, Value.slice a5 m29 m30, Value.int IntKind.i64 x56, Value.int IntKind.i64 x57, Value.int IntKind.i64 x58, Value.int IntKind.i64 x59],
    Value.agg #[Value.int IntKind.i64 x37, Value.int IntKind.i64 x38, Value.int IntKind.i64 x39, Value.int IntKind.i64 x40, Value.int IntKind.i64 x41, Value.int IntKind.i64 x42,
    Value.int IntKind.i64 x43, Value.int IntKind.i64 x44]] w35 fun (e15 : Ending) (w36 : World) => ∃ (x60 : Int), ∃ (x61 : Int), ∃ (x62 : Int), e15 = Ending.returned (Value.tuple
    #[Value.agg #[Value.int IntKind.i64 x60, Value.int IntKind.i64 x61], Value.int IntKind.i64 x62]) ∧ RowKit.Below w35.heap.size w35 w36 ∧ ∀ (m31 : Nat), w32.heap.size ≤ m31 → m31
    < w35.heap.size ∨ w36.heap.size ≤ m31 → m31 < w33.heap.size ∨ w34.heap.size ≤ m31 → ∀ (w37 : World), RowKit.Below w.heap.size w w37 → KeptIn [(0, w36.heap.size)] [m31, m28,
    m25, m14, m10, m6, m5, m2_1, m1_1] w36 w37 → Calls Try.prog 13 #[Value.agg #[Value.int IntKind.i64 x1, Value.int IntKind.i64 x2, Value.slice a1 m3 m4, Value.int IntKind.i64 x3,
    Value.int IntKind.i64 x4, Value.int IntKind.i64 x5, Value.int IntKind.i64 x6]] w37 fun (e16 : Ending) (w38 : World) => ∃ (x63 : Int), ∃ (x64 : Int), ∃ (a6 : Option Addr), ∃
    (m32 : Nat), ∃ (m33 : Nat), ∃ (x65 : Int), ∃ (x66 : Int), ∃ (x67 : Int), ∃ (x68 : Int), e16 = Ending.returned (Value.agg #[Value.int IntKind.i64 x63, Value.int IntKind.i64 x64,
    Value.slice a6 m32 m33, Value.int IntKind.i64 x65, Value.int IntKind.i64 x66, Value.int IntKind.i64 x67, Value.int IntKind.i64 x68]) ∧ RowKit.Below w37.heap.size w37 w38 ∧ ∀
    (w39 : World), RowKit.Below w.heap.size w w39 → KeptIn [(0, w36.heap.size), (w37.heap.size, w38.heap.size)] [m31, m28, m25, m14, m10, m6, m5, m2_1, m1_1] w38 w39 → Calls
    Try.prog 29 #[Value.agg #[Value.int IntKind.i64 x63, Value.int IntKind.i64 x64, Value.slice a6 m32 m33, Value.int IntKind.i64 x65, Value.int IntKind.i64 x66, Value.int
    IntKind.i64 x67, Value.int IntKind.i64 x68], Value.agg #[Value.int IntKind.i64 0, Value.int IntKind.i64 0, Value.int IntKind.i64 0, Value.int IntKind.i64 0, Value.int
    IntKind.i64 0, Value.int IntKind.i64 0, Value.int IntKind.i64 0, Value.int IntKind.i64 0], Value.agg #[Value.int IntKind.i64 x7, Value.int IntKind.i64 x8, Value.int IntKind.i64
    x9, Value.int IntKind.i64 x10, Value.int IntKind.i64 x11, Value.int IntKind.i64 x12, Value.int IntKind.i64 x13, Value.int IntKind.i64 x14]] w39 fun (e17 : Ending) (w40 : World)
    => ∃ (x69 : Int), ∃ (x70 : Int), ∃ (x71 : Int), e17 = Ending.returned (Value.tuple #[Value.agg #[Value.int IntKind.i64 x69, Value.int IntKind.i64 x70], Value.int IntKind.i64
    x71]) ∧ RowKit.Below w39.heap.size w39 w40 ∧ ∀ (m34 : Nat), w36.heap.size ≤ m34 → m34 < w39.heap.size ∨ w40.heap.size ≤ m34 → m34 < w37.heap.size ∨ w38.heap.size ≤ m34 → ∀ (w41
    : World), RowKit.Below w.heap.size w w41 → KeptIn [(0, w40.heap.size)] [m34, m31, m28, m25, m14, m10, m6, m5, m2_1, m1_1] w40 w41 → Calls Try.prog 13 #[Value.agg #[Value.int
    IntKind.i64 x21, Value.int IntKind.i64 x22, Value.slice a3 m11 m12, Value.int IntKind.i64 x33, Value.int IntKind.i64 x34, Value.int IntKind.i64 x35, Value.int IntKind.i64 x36]]
    w41 fun (e18 : Ending) (w42 : World) => ∃ (x72 : Int), ∃ (x73 : Int), ∃ (a7 : Option Addr), ∃ (m35 : Nat), ∃ (m36 : Nat), ∃ (x74 : Int), ∃ (x75 : Int), ∃ (x76 : Int), ∃ (x77 :
    Int), e18 = Ending.returned (Value.agg #[Value.int IntKind.i64 x72, Value.int IntKind.i64 x73, Value.slice a7 m35 m36, Value.int IntKind.i64 x74, Value.int IntKind.i64 x75,
    Value.int IntKind.i64 x76, Value.int IntKind.i64 x77]) ∧ RowKit.Below w41.heap.size w41 w42 ∧ ∀ (w43 : World), RowKit.Below w.heap.size w w43 → KeptIn [(0, w40.heap.size),
    (w41.heap.size, w42.heap.size)] [m34, m31, m28, m25, m14, m10, m6, m5, m2_1, m1_1] w42 w43 → Calls Try.prog 29 #[Value.agg #[Value.int IntKind.i64 x72, Value.int IntKind.i64
    x73, Value.slice a7 m35 m36, Value.int IntKind.i64 x74, Value.int IntKind.i64 x75, Value.int IntKind.i64 x76, Value.int IntKind.i64 x77], Value.agg #[Value.int IntKind.i64 0,
    Value.int IntKind.i64 0, Value.int IntKind.i64 0, Value.int IntKind.i64 0, Value.int IntKind.i64 0, Value.int IntKind.i64 0, Value.int IntKind.i64 0, Value.int IntKind.i64 0],
    Value.agg #[Value.int IntKind.i64 x37, Value.int IntKind.i64 x38, Value.int IntKind.i64 x39, Value.int IntKind.i64 x40, Value.int IntKind.i64 x41, Value.int IntKind.i64 x42,
    Value.int IntKind.i64 x43, Value.int IntKind.i64 x44]] w43 fun (e19 : Ending) (w44 : World) => ∃ (x78 : Int), ∃ (x79 : Int), ∃ (x80 : Int), e19 = Ending.returned (Value.tuple
    #[Value.agg #[Value.int IntKind.i64 x78, Value.int IntKind.i64 x79], Value.int IntKind.i64 x80]) ∧ RowKit.Below w43.heap.size w43 w44 ∧ ∀ (m37 : Nat), w40.heap.size ≤ m37 → m37
    < w43.heap.size ∨ w44.heap.size ≤ m37 → m37 < w41.heap.size ∨ w42.heap.size ≤ m37 → (x53 = 0 → (x62 = 0 → (x71 = 0 → (x80 = 0 → (x51 ≤ x60 → (x61 ≤ x52 → (x60 ≤ x61 → (x69 ≤
    x78 → (x79 ≤ x70 → ∀ (w45 : World), RowKit.Below w.heap.size w w45 → Kept [m37, m34, m31, m28, m25, m14, m10, m6, m5, m2_1, m1_1] w44 w45 → Calls Try.prog 12 #[] w45 fun (e20 :
    Ending) (w46 : World) => ∃ (t1 : Bool), e20 = Ending.returned (Value.bool t1) ∧ KeepX true w.heap.size [m37, m34, m31, m28, m25, m14, m10, m6, m5, m2_1, m1_1] (fun _ => False)
    w45 w46 ∧ ∀ (w47 : World), RowKit.Below w.heap.size w w47 → Kept [m37, m34, m31, m28, m25, m14, m10, m6, m5, m2_1, m1_1] w46 w47 → R (Ending.returned (Value.bool t1)) w47) ∧
    (x70 < x79 → ∀ (w48 : World), RowKit.Below w.heap.size w w48 → Kept [m37, m34, m31, m28, m25, m14, m10, m6, m5, m2_1, m1_1] w44 w48 → R (Ending.returned (Value.bool false))
    w48)) ∧ (x78 < x69 → ∀ (w49 : World), RowKit.Below w.heap.size w w49 → Kept [m37, m34, m31, m28, m25, m14, m10, m6, m5, m2_1, m1_1] w44 w49 → R (Ending.returned (Value.bool
    false)) w49)) ∧ (x61 < x60 → ∀ (w50 : World), RowKit.Below w.heap.size w w50 → Kept [m37, m34, m31, m28, m25, m14, m10, m6, m5, m2_1, m1_1] w44 w50 → R (Ending.returned
    (Value.bool false)) w50)) ∧ (x52 < x61 → ∀ (w51 : World), RowKit.Below w.heap.size w w51 → Kept [m37, m34, m31, m28, m25, m14, m10, m6, m5, m2_1, m1_1] w44 w51 → R
    (Ending.returned (Value.bool false)) w51)) ∧ (x60 < x51 → ∀ (w52 : World), RowKit.Below w.heap.size w w52 → Kept [m37, m34, m31, m28, m25, m14, m10, m6, m5, m2_1, m1_1] w44 w52
    → R (Ending.returned (Value.bool false)) w52)) ∧ (x80 ≠ 0 → ∀ (w53 : World), RowKit.Below w.heap.size w w53 → Kept [m37, m34, m31, m28, m25, m14, m10, m6, m5, m2_1, m1_1] w44
    w53 → R (Ending.returned (Value.bool false)) w53)) ∧ (x71 ≠ 0 → ∀ (w54 : World), RowKit.Below w.heap.size w w54 → Kept [m37, m34, m31, m28, m25, m14, m10, m6, m5, m2_1, m1_1]
    w44 w54 → R (Ending.returned (Value.bool false)) w54)) ∧ (x62 ≠ 0 → ∀ (w55 : World), RowKit.Below w.heap.size w w55 → Kept [m37, m34, m31, m28, m25, m14, m10, m6, m5, m2_1,
    m1_1] w44 w55 → R (Ending.returned (Value.bool false)) w55)) ∧ (x53 ≠ 0 → ∀ (w56 : World), RowKit.Below w.heap.size w w56 → Kept [m37, m34, m31, m28, m25, m14, m10, m6, m5,
    m2_1, m1_1] w44 w56 → R (Ending.returned (Value.bool false)) w56))) : Calls Try.prog 8 #[Value.agg #[Value.slice m0a m0n m0c, Value.int IntKind.u8 m1, Value.int IntKind.i16 m2,
    Value.int IntKind.u8 m3, Value.int IntKind.u8 m4, Value.int IntKind.u8 m5, Value.int IntKind.u8 m6], Value.agg #[Value.int IntKind.u8 p1w0, Value.int IntKind.u8 p1w1, Value.int
    IntKind.u8 p1w2, Value.int IntKind.u8 p1w3, Value.int IntKind.u8 p1w4, Value.int IntKind.u8 p1w5, Value.int IntKind.u8 p1w6, Value.int IntKind.u8 p1w7], Value.slice p2bya p2byn
    p2byc] w R := calls_of_vc (pure := true) (wrapAt := []) (muts := []) (esc := []) (args := [SV.pv (PV.agg [Lf.sl m0a m0n m0c, Lf.int IntKind.u8 m1, Lf.int IntKind.i16 m2, Lf.int
    IntKind.u8 m3, Lf.int IntKind.u8 m4, Lf.int IntKind.u8 m5, Lf.int IntKind.u8 m6]), SV.pv (PV.agg [Lf.int IntKind.u8 p1w0, Lf.int IntKind.u8 p1w1, Lf.int IntKind.u8 p1w2, Lf.int
    IntKind.u8 p1w3, Lf.int IntKind.u8 p1w4, Lf.int IntKind.u8 p1w5, Lf.int IntKind.u8 p1w6, Lf.int IntKind.u8 p1w7]), SV.pv (PV.one (Lf.sl p2bya p2byn p2byc))]) (vs := [Value.agg
    #[Value.slice m0a m0n m0c, Value.int IntKind.u8 m1, Value.int IntKind.i16 m2, Value.int IntKind.u8 m3, Value.int IntKind.u8 m4, Value.int IntKind.u8 m5, Value.int IntKind.u8
    m6], Value.agg #[Value.int IntKind.u8 p1w0, Value.int IntKind.u8 p1w1, Value.int IntKind.u8 p1w2, Value.int IntKind.u8 p1w3, Value.int IntKind.u8 p1w4, Value.int IntKind.u8
    p1w5, Value.int IntKind.u8 p1w6, Value.int IntKind.u8 p1w7], Value.slice p2bya p2byn p2byc]) Try.func8 rfl rfl rfl (Eq.mp (by kernel_rfl) h) 
set_option maxRecDepth 100000 in
set_option maxHeartbeats 2000000 in
theorem vc9 (x0a : Option Addr) (x0n : Nat) (x0c : Nat) (x1 : Int) (x2 : Int) (x3 : Int) (x4 : Int) (x5 : Int) (x6 : Int) (x7 : Int) (x8 : Int) (x9 : Int) (x10 : Int) (x11 : Int)
    (x12 : Int) (x13 : Int) (x14 : Int) (x15a : Option Addr) (x15n : Nat) (x15c : Nat) (x16 : Int) (w : World) (R : Ending → World → Prop) (h : ∀ (m1 : Nat), w.heap.size ≤ m1 → ∀
    (w1 : World), RowKit.Below w.heap.size w w1 → KeptIn [(0, w.heap.size)] [m1] w w1 → Calls Try.prog 33 #[Value.agg #[Value.slice x0a x0n x0c, Value.int IntKind.u8 x1, Value.int
    IntKind.i16 x2, Value.int IntKind.u8 x3, Value.int IntKind.u8 x4, Value.int IntKind.u8 x5, Value.int IntKind.u8 x6]] w1 fun (e1 : Ending) (w2 : World) => ∃ (x1 : Int), ∃ (x2 :
    Int), ∃ (a1 : Option Addr), ∃ (m2 : Nat), ∃ (m3 : Nat), ∃ (x3 : Int), ∃ (x4 : Int), ∃ (x5 : Int), ∃ (x6 : Int), e1 = Ending.returned (Value.agg #[Value.int IntKind.i64 x1,
    Value.int IntKind.i64 x2, Value.slice a1 m2 m3, Value.int IntKind.i64 x3, Value.int IntKind.i64 x4, Value.int IntKind.i64 x5, Value.int IntKind.i64 x6]) ∧ RowKit.Below
    w1.heap.size w1 w2 ∧ ∀ (w3 : World), RowKit.Below w.heap.size w w3 → KeptIn [(0, w.heap.size), (w1.heap.size, w2.heap.size)] [m1] w2 w3 → Calls Try.prog 34 #[Value.agg
    #[Value.int IntKind.u8 x7, Value.int IntKind.u8 x8, Value.int IntKind.u8 x9, Value.int IntKind.u8 x10, Value.int IntKind.u8 x11, Value.int IntKind.u8 x12, Value.int IntKind.u8
    x13, Value.int IntKind.u8 x14]] w3 fun (e2 : Ending) (w4 : World) => ∃ (x7 : Int), ∃ (x8 : Int), ∃ (x9 : Int), ∃ (x10 : Int), ∃ (x11 : Int), ∃ (x12 : Int), ∃ (x13 : Int), ∃
    (x14 : Int), e2 = Ending.returned (Value.agg #[Value.int IntKind.i64 x7, Value.int IntKind.i64 x8, Value.int IntKind.i64 x9, Value.int IntKind.i64 x10, Value.int IntKind.i64
    x11, Value.int IntKind.i64 x12, Value.int IntKind.i64 x13, Value.int IntKind.i64 x14]) ∧ RowKit.Below w3.heap.size w3 w4 ∧ ∀ (m4 : Nat), w.heap.size ≤ m4 → m4 < w3.heap.size ∨
    w4.heap.size ≤ m4 → m4 < w1.heap.size ∨ w2.heap.size ≤ m4 → ∀ (m5 : Nat), w.heap.size ≤ m5 → m5 < w3.heap.size ∨ w4.heap.size ≤ m5 → m5 < w1.heap.size ∨ w2.heap.size ≤ m5 → ∀
    (w5 : World), RowKit.Below w.heap.size w w5 → Kept [m5, m4, m1] w4 w5 → Calls Try.prog 13 #[Value.agg #[Value.int IntKind.i64 x1, Value.int IntKind.i64 x2, Value.slice a1 m2
    m3, Value.int IntKind.i64 x3, Value.int IntKind.i64 x4, Value.int IntKind.i64 x5, Value.int IntKind.i64 x6]] w5 fun (e3 : Ending) (w6 : World) => ∃ (x15 : Int), ∃ (x16_1 :
    Int), ∃ (a2 : Option Addr), ∃ (m6 : Nat), ∃ (m7 : Nat), ∃ (x17 : Int), ∃ (x18 : Int), ∃ (x19 : Int), ∃ (x20 : Int), e3 = Ending.returned (Value.agg #[Value.int IntKind.i64 x15,
    Value.int IntKind.i64 x16_1, Value.slice a2 m6 m7, Value.int IntKind.i64 x17, Value.int IntKind.i64 x18, Value.int IntKind.i64 x19, Value.int IntKind.i64 x20]) ∧ KeepX true
    w.heap.size [m5, m4, m1] (fun _ => False) w5 w6 ∧ ∀ (m9 : Nat), w6.heap.size ≤ m9 → (-9223372036854775808 ≤ x16 ∧ x16 ≤ 9223372036854775807) ∧ (-9223372036854775808 ≤ x16_1 +
    x16 ∧ x16_1 + x16 ≤ 9223372036854775807) ∧ ∀ (w7 : World), RowKit.Below w.heap.size w w7 → KeptIn [(0, w6.heap.size)] [m9, m5, m4, m1] w6 w7 → Calls Try.prog 13 #[Value.agg
    #[Value.int IntKind.i64 x1, Value.int IntKind.i64 x2, Value.slice a1 m2 m3, Value.int IntKind.i64 x3, Value.int IntKind.i64 x4, Value.int IntKind.i64 x5, Value.int IntKind.i64
    x6]] w7 fun (e4 : Ending) (w8 : World) => ∃ (x21 : Int), ∃ (x22 : Int), ∃ (a3 : Option Addr), ∃ (m10 : Nat), ∃ (m11 : Nat), ∃ (x23 : Int), ∃ (x24 : Int), ∃ (x25 : Int), ∃ (x26
    : Int), e4 = Ending.returned (Value.agg #[Value.int IntKind.i64 x21, Value.int IntKind.i64 x22, Value.slice a3 m10 m11, Value.int IntKind.i64 x23, Value.int IntKind.i64 x24,
    Value.int IntKind.i64 x25, Value.int IntKind.i64 x26]) ∧ RowKit.Below w7.heap.size w7 w8 ∧ ∀ (w9 : World), RowKit.Below w.heap.size w w9 → KeptIn [(0, w6.heap.size),
    (w7.heap.size, w8.heap.size)] [m9, m5, m4, m1] w8 w9 → Calls Try.prog 22 #[Value.agg #[Value.int IntKind.i64 x21, Value.int IntKind.i64 x22, Value.slice a3 m10 m11, Value.int
    IntKind.i64 x23, Value.int IntKind.i64 x24, Value.int IntKind.i64 x25, Value.int IntKind.i64 x26], Value.agg #[Value.int IntKind.i64 x7, Value.int IntKind.i64 x8, Value.int
    IntKind.i64 x9, Value.int IntKind.i64 x10, Value.int IntKind.i64 x11, Value.int IntKind.i64 x12, Value.int IntKind.i64 x13, Value.int IntKind.i64 x14]] w9 fun (e5 : Ending)
    (w10 : World) => ∃ (x27 : Int), ∃ (x28 : Int), ∃ (x29 : Int), e5 = Ending.returned (Value.tuple #[Value.agg #[Value.int IntKind.i64 x27, Value.int IntKind.i64 x28], Value.int
    IntKind.i64 x29]) ∧ RowKit.Below w9.heap.size w9 w10 ∧ ∀ (m12 : Nat), w6.heap.size ≤ m12 → m12 < w9.heap.size ∨ w10.heap.size ≤ m12 → m12 < w7.heap.size ∨ w8.heap.size ≤ m12 →
    ∀ (w11 : World), RowKit.Below w.heap.size w w11 → KeptIn [(0, w10.heap.size)] [m12, m9, m5, m4, m1] w10 w11 → Calls Try.prog 13 #[Value.agg #[Value.int IntKind.i64 x15,
    Value.int IntKind.i64 (x16_1 + x16), Value.slice a2 m6 m7, Value.int IntKind.i64 x17, Value.int IntKind.i64 x18, Value.int IntKind.i64 x19, Value.int IntKind.i64 x20]] w11 fun
    (e6 : Ending) (w12 : World) => ∃ (x30 : Int), ∃ (x31 : Int), ∃ (a4 : Option Addr), ∃ (m13 : Nat), ∃ (m14 : Nat), ∃ (x32 : Int), ∃ (x33 : Int), ∃ (x34 : Int), ∃ (x35 : Int), e6
    = Ending.returned (Value.agg #[Value.int IntKind.i64 x30, Value.int IntKind.i64 x31, Value.slice a4 m13 m14, Value.int IntKind.i64 x32, Value.int IntKind.i64 x33, Value.int
    IntKind.i64 x34, Value.int IntKind.i64 x35]) ∧ RowKit.Below w11.heap.size w11 w12 ∧ ∀ (w13 : World), RowKit.Below w.heap.size w w13 → KeptIn [(0, w10.heap.size),
    (w11.heap.size, w12.heap.size)] [m12, m9, m5, m4, m1] w12 w13 → Calls Try.prog 22 #[Value.agg #[Value.int IntKind.i64 x30, Value.int IntKind.i64 x31, Value.slice a4 m13 m14,
    Value.int IntKind.i64 x32, Value.int IntKind.i64 x33, Value.int IntKind.i64 x34, Value.int IntKind.i64 x35], Value.agg #[Value.int IntKind.i64 x7, Value.int IntKind.i64 x8,
    Value.int IntKind.i64 x9, Value.int IntKind.i64 x10, Value.int IntKind.i64 x11, Value.int IntKind.i64 x12, Value.int IntKind.i64 x13, Value.int IntKind.i64 x14]] w13 fun (e7 :
    Ending) (w14 : World) => ∃ (x36 : Int), ∃ (x37 : Int), ∃ (x38 : Int), e7 = Ending.returned (Value.tuple #[Value.agg #[Value.int IntKind.i64 x36, Value.int IntKind.i64 x37],
    Value.int IntKind.i64 x38]) ∧ RowKit.Below w13.heap.size w13 w14 ∧ ∀ (m15 : Nat), w10.heap.size ≤ m15 → m15 < w13.heap.size ∨ w14.heap.size ≤ m15 → m15 < w11.heap.size ∨
    w12.heap.size ≤ m15 → ∀ (w15 : World), RowKit.Below w.heap.size w w15 → KeptIn [(0, w14.heap.size)] [m15, m12, m9, m5, m4, m1] w14 w15 → Calls Try.prog 13 #[Value.agg
    #[Value.int IntKind.i64 x1, Value.int IntKind.i64 x2, Value.slice a1 m2 m3, Value.int IntKind.i64 x3, Value.int IntKind.i64 x4, Value.int IntKind.i64 x5, Value.int IntKind.i64
    x6]] w15 fun (e8 : Ending) (w16 : World) => ∃ (x39 : Int), ∃ (x40 : Int), ∃ (a5 : Option Addr), ∃ (m16 : Nat), ∃ (m17 : Nat), ∃ (x41 : Int), ∃ (x42 : Int), ∃ (x43 : Int), ∃
    (x44 : Int), e8 = Ending.returned (Value.agg #[Value.int IntKind.i64 x39, Value.int IntKind.i64 x40, Value.slice a5 m16 m17, Value.int IntKind.i64 x41, Value.int IntKind.i64
    x42, Value.int IntKind.i64 x43, Value.int IntKind.i64 x44]) ∧ RowKit.Below w15.heap.size w15 w16 ∧ ∀ (w17 : World), RowKit.Below w.heap.size w w17 → KeptIn [(0, w14.heap.size),
    (w15.heap.size, w16.heap.size)] [m15, m12, m9, m5, m4, m1] w16 w17 → Calls Try.prog 29 #[Value.agg #[Value.int IntKind.i64 x39, Value.int IntKind.i64 x40, Value.slice a5 m16
    m17, Value.int IntKind.i64 x41, Value.int IntKind.i64 x42, Value.int IntKind.i64 x43, Value.int IntKind.i64 x44], Value.agg #[Value.int IntKind.i64 x7, Value.int IntKind.i64
    x8, Value.int IntKind.i64 x9, Value.int IntKind.i64 x10, Value.int IntKind.i64 x11, Value.int IntKind.i64 x12, Value.int IntKind.i64 x13, Value.int IntKind.i64 x14], Value.agg
    #[Value.int IntKind.i64 x7, Value.int IntKind.i64 x8, Value.int IntKind.i64 x9, Value.int IntKind.i64 x10, Value.int IntKind.i64 x11, Value.int IntKind.i64 x12, Value.int
    IntKind.i64 x13, Value.int IntKind.i64 x14]] w17 fun (e9 : Ending) (w18 : World) => ∃ (x45 : Int), ∃ (x46 : Int), ∃ (x47 : Int), e9 = Ending.returned (Value.tuple #[Value.agg
    #[Value.int IntKind.i64 x45, Value.int IntKind.i64 x46], Value.int IntKind.i64 x47]) ∧ RowKit.Below w17.heap.size w17 w18 ∧ ∀ (m18 : Nat), w14.heap.size ≤ m18 → m18 <
    w17.heap.size ∨ w18.heap.size ≤ m18 → m18 < w15.heap.size ∨ w16.heap.size ≤ m18 → ∀ (w19 : World), RowKit.Below w.heap.size w w19 → KeptIn [(0, w18.heap.size)] [m18, m15, m12,
    m9, m5, m4, m1] w18 w19 → Calls Try.prog 13 #[Value.agg #[Value.int IntKind.i64 x15, Value.int IntKind.i64 (x16_1 + x16), Value.slice a2 m6 m7, Value.int IntKind.i64 x17,
    Value.int IntKind.i64 x18, Value.int IntKind.i64 x19, Value.int IntKind.i64 x20]] w19 fun (e10 : Ending) (w20 : World) => ∃ (x48 : Int), ∃ (x49 : Int), ∃ (a6 : Option Addr), ∃
    (m19 : Nat), ∃ (m20 : Nat), ∃ (x50 : Int), ∃ (x51 : Int), ∃ (x52 : Int), ∃ (x53 : Int), e10 = Ending.returned (Value.agg #[Value.int IntKind.i64 x48, Value.int IntKind.i64 x49,
    Value.slice a6 m19 m20, Value.int IntKind.i64 x50, Value.int IntKind.i64 x51, Value.int IntKind.i64 x52, Value.int IntKind.i64 x53]) ∧ RowKit.Below w19.heap.size w19 w20 ∧ ∀
    (w21 : World), RowKit.Below w.heap.size w w21 → KeptIn [(0, w18.heap.size), (w19.heap.size, w20.heap.size)] [m18, m15, m12, m9, m5, m4, m1] w20 w21 → Calls Try.prog 29
    #[Value.agg #[Value.int IntKind.i64 x48, Value.int IntKind.i64 x49, Value.slice a6 m19 m20, Value.int IntKind.i64 x50, Value.int IntKind.i64 x51, Value.int IntKind.i64 x52,
    Value.int IntKind.i64 x53], Value.agg #[Value.int IntKind.i64 x7, Value.int IntKind.i64 x8, Value.int IntKind.i64 x9, Value.int IntKind.i64 x10, Value.int IntKind.i64 x11,
    Value.int IntKind.i64 x12, Value.int IntKind.i64 x13, Value.int IntKind.i64 x14], Value.agg #[Value.int IntKind.i64 x7, Value.int IntKind.i64 x8, Value.int IntKind.i64 x9,
    Value.int IntKind.i64 x10, Value.int IntKind.i64 x11, Value.int IntKind.i64 x12, Value.int IntKind.i64 x13, Value.int IntKind.i64 x14]] w21 fun (e11 : Ending) (w22 : World) =>
    ∃ (x54 : Int), ∃ (x55 : Int), ∃ (x56 : Int), e11 = Ending.returned (Value.tuple #[Value.agg #[Value.int IntKind.i64 x54, Value.int IntKind.i64 x55], Value.int IntKind.i64 x56])
    ∧ RowKit.Below w21.heap.size w21 w22 ∧ ∀ (m21 : Nat), w18.heap.size ≤ m21 → m21 < w21.heap.size ∨ w22.heap.size ≤ m21 → m21 < w19.heap.size ∨ w20.heap.size ≤ m21 → ∀ (w23 :
    World), RowKit.Below w.heap.size w w23 → KeptIn [(0, w22.heap.size)] [m21, m18, m15, m12, m9, m5, m4, m1] w22 w23 → Calls Try.prog 13 #[Value.agg #[Value.int IntKind.i64 x1,
    Value.int IntKind.i64 x2, Value.slice a1 m2 m3, Value.int IntKind.i64 x3, Value.int IntKind.i64 x4, Value.int IntKind.i64 x5, Value.int IntKind.i64 x6]] w23 fun (e12 : Ending)
    (w24 : World) => ∃ (x57 : Int), ∃ (x58 : Int), ∃ (a7 : Option Addr), ∃ (m22 : Nat), ∃ (m23 : Nat), ∃ (x59 : Int), ∃ (x60 : Int), ∃ (x61 : Int), ∃ (x62 : Int), e12 =
    Ending.returned (Value.agg #[Value.int IntKind.i64 x57, Value.int IntKind.i64 x58, Value.slice a7 m22 m23, Value.int IntKind.i64 x59, Value.int IntKind.i64 x60, Value.int
    IntKind.i64 x61, Value.int IntKind.i64 x62]) ∧ RowKit.Below w23.heap.size w23 w24 ∧ ∀ (w25 : World), RowKit.Below w.heap.size w w25 → KeptIn [(0, w22.heap.size),
    (w23.heap.size, w24.heap.size)] [m21, m18, m15, m12, m9, m5, m4, m1] w24 w25 → Calls Try.prog 35 #[Value.agg #[Value.int IntKind.i64 x1, Value.int IntKind.i64 x2, Value.slice
    a1 m2 m3, Value.int IntKind.i64 x3, Value.int IntKind.i64 x4, Value.int IntKind.i64 x5, Value.int IntKind.i64 x6], Value.agg #[Value.int IntKind.i64 x7, Value.int IntKind.i64
    x8, Value.int IntKind.i64 x9, Value.int IntKind.i64 x10, Value.int IntKind.i64 x11, Value.int IntKind.i64 x12, Value.int IntKind.i64 x13, Value.int IntKind.i64 x14],
    Value.slice x15a x15n x15c] w25 fun (e13 : Ending) (w26 : World) => ∃ (a8 : Option Addr), ∃ (m24 : Nat), ∃ (m25 : Nat), ∃ (x63 : Int), ∃ (x64 : Int), ∃ (x65 : Int), ∃ (x66 :
    Int), ∃ (x67 : Int), ∃ (x68 : Int), e13 = Ending.returned (Value.agg #[Value.slice a8 m24 m25, Value.int IntKind.i64 x63, Value.int IntKind.i64 x64, Value.int IntKind.i64 x65,
    Value.int IntKind.i64 x66, Value.int IntKind.i64 x67, Value.int IntKind.i64 x68]) ∧ RowKit.Below w25.heap.size w25 w26 ∧ ∀ (w27 : World), RowKit.Below w.heap.size w w27 →
    KeptIn [(0, w22.heap.size), (w25.heap.size, w26.heap.size), (w23.heap.size, w24.heap.size)] [m21, m18, m15, m12, m9, m5, m4, m1] w26 w27 → Calls Try.prog 14 #[Value.agg
    #[Value.int IntKind.i64 x57, Value.int IntKind.i64 x58, Value.slice a7 m22 m23, Value.int IntKind.i64 x59, Value.int IntKind.i64 x60, Value.int IntKind.i64 x61, Value.int
    IntKind.i64 x62], Value.agg #[Value.slice a8 m24 m25, Value.int IntKind.i64 x63, Value.int IntKind.i64 x64, Value.int IntKind.i64 x65, Value.int IntKind.i64 x66, Value.int
    IntKind.i64 x67, Value.int IntKind.i64 x68]] w27 fun (e14 : Ending) (w28 : World) => ∃ (x69 : Int), ∃ (x70 : Int), ∃ (x71 : Int), e14 = Ending.returned (Value.tuple #[Value.agg
    #[Value.int IntKind.i64 x69, Value.int IntKind.i64 x70], Value.int IntKind.i64 x71]) ∧ RowKit.Below w27.heap.size w27 w28 ∧ ∀ (m26 : Nat), w22.heap.size ≤ m26 → m26 <
    w27.heap.size ∨ w28.heap.size ≤ m26 → m26 < w25.heap.size ∨ w26.heap.size ≤ m26 → m26 < w23.heap.size ∨ w24.heap.size ≤ m26 → ∀ (w29 : World), RowKit.Below w.heap.size w w29 →
    KeptIn [(0, w28.heap.size)] [m26, m21, m18, m15, m12, m9, m5, m4, m1] w28 w29 → Calls Try.prog 13 #[Value.agg #[Value.int IntKind.i64 x15, Value.int IntKind.i64 (x16_1 + x16),
    Value.slice a2 m6 m7, Value.int IntKind.i64 x17, Value.int IntKind.i64 x18, Value.int IntKind.i64 x19, Value.int IntKind.i64 x20]] w29 fun (e15 : Ending) (w30 : World) => ∃
    (x72 : Int), ∃ (x73 : Int), ∃ (a9 : Option Addr), ∃ (m27 : Nat), ∃ (m28 : Nat), ∃ (x74 : Int), ∃ (x75 : Int), ∃ (x76 : Int), ∃ (x77 : Int), e15 = Ending.returned (Value.agg
    #[Value.int IntKind.i64 x72, Value.int IntKind.i64 x73, Value.slice a9 m27 m28, Value.int IntKind.i64 x74, Value.int IntKind.i64 x75, Value.int IntKind.i64 x76, Value.int
    IntKind.i64 x77]) ∧ RowKit.Below w29.heap.size w29 w30 ∧ ∀ (w31 : World), RowKit.Below w.heap.size w w31 → KeptIn [(0, w28.heap.size), (w29.heap.size, w30.heap.size)] [m26,
    m21, m18, m15, m12, m9, m5, m4, m1] w30 w31 → Calls Try.prog 35 #[Value.agg #[Value.int IntKind.i64 x15, Value.int IntKind.i64 (x16_1 + x16), Value.slice a2 m6 m7, Value.int
    IntKind.i64 x17, Value.int IntKind.i64 x18, Value.int IntKind.i64 x19, Value.int IntKind.i64 x20], Value.agg #[Value.int IntKind.i64 x7, Value.int IntKind.i64 x8, Value.int
    IntKind.i64 x9, Value.int IntKind.i64 x10, Value.int IntKind.i64 x11, Value.int IntKind.i64 x12, Value.int IntKind.i64 x13, Value.int IntKind.i64 x14], Value.slice x15a x15n
    x15c] w31 fun (e16 : Ending) (w32 : World) => ∃ (a10 : Option Addr), ∃ (m29 : Nat), ∃ (m30 : Nat), ∃ (x78 : Int), ∃ (x79 : Int), ∃ (x80 : Int), ∃ (x81 : Int), ∃ (x82 : Int), ∃
    (x83 : Int), e16 = Ending.returned (Value.agg #[Value.slice a10 m29 m30, Value.int IntKind.i64 x78, Value.int IntKind.i64 x79, Value.int IntKind.i64 x80, Value.int IntKind.i64
    x81, Value.int IntKind.i64 x82, Value.int IntKind.i64 x83]) ∧ RowKit.Below w31.heap.size w31 w32 ∧ ∀ (w33 : World), RowKit.Below w.heap.size w w33 → KeptIn [(0, w28.heap.size),
    (w31.heap.size, w32.heap.size), (w29.heap.size, w30.heap.size)] [m26, m21, m18, m15, m12, m9, m5, m4, m1] w32 w33 → Calls Try.prog 14 #[Value.agg #[Value.int IntKind.i64 x72,
    Value.int IntKind.i64 x73, Value.slice a9 m27 m28, Value.int IntKind.i64 x74, Value.int IntKind.i64 x75, Value.int IntKind.i64 x76, Value.int IntKind.i64 x77], Value.agg
    #[Value.slice a10 m29 m30, Value.int IntKind.i64 x78, Value.int IntKind.i64 x79, Value.int IntKind.i64 x80, Value.int IntKind.i64 x81, Value.int IntKind.i64 x82, Value.int
    IntKind.i64 x83]] w33 fun (e17 : Ending) (w34 : World) => ∃ (x84 : Int), ∃ (x85 : Int), ∃ (x86 : Int), e17 = Ending.returned (Value.tuple #[Value.agg #[Value.int IntKind.i64
    x84, Value.int IntKind.i64 x85], Value.int IntKind.i64 x86]) ∧ RowKit.Below w33.heap.size w33 w34 ∧ ∀ (m31 : Nat), w28.heap.size ≤ m31 → m31 < w33.heap.size ∨ w34.heap.size ≤
    m31 → m31 < w31.heap.size ∨ w32.heap.size ≤ m31 → m31 < w29.heap.size ∨ w30.heap.size ≤ m31 → (x29 ≠ 0 → ∀ (w35 : World), RowKit.Below w.heap.size w w35 → Kept [m31, m26, m21,
    m18, m15, m12, m9, m5, m4, m1] w34 w35 → R (Ending.returned (Value.bool false)) w35) ∧ (x29 = 0 → (x38 ≠ 0 → ∀ (w36 : World), RowKit.Below w.heap.size w w36 → Kept [m31, m26,
    m21, m18, m15, m12, m9, m5, m4, m1] w34 w36 → R (Ending.returned (Value.bool false)) w36) ∧ (x38 = 0 → (x47 ≠ 0 → ∀ (w37 : World), RowKit.Below w.heap.size w w37 → Kept [m31,
    m26, m21, m18, m15, m12, m9, m5, m4, m1] w34 w37 → R (Ending.returned (Value.bool false)) w37) ∧ (x47 = 0 → (x56 ≠ 0 → ∀ (w38 : World), RowKit.Below w.heap.size w w38 → Kept
    [m31, m26, m21, m18, m15, m12, m9, m5, m4, m1] w34 w38 → R (Ending.returned (Value.bool false)) w38) ∧ (x56 = 0 → (x71 ≠ 0 → ∀ (w39 : World), RowKit.Below w.heap.size w w39 →
    Kept [m31, m26, m21, m18, m15, m12, m9, m5, m4, m1] w34 w39 → R (Ending.returned (Value.bool false)) w39) ∧ (x71 = 0 → (x86 ≠ 0 → ∀ (w40 : World), RowKit.Below w.heap.size w
    w40 → Kept [m31, m26, m21, m18, m15, m12, m9, m5, m4, m1] w34 w40 → R (Ending.returned (Value.bool false)) w40) ∧ (x86 = 0 → (-9223372036854775808 ≤ x16 ∧ x16 ≤
    9223372036854775807) ∧ (-9223372036854775808 ≤ x27 + x16 ∧ x27 + x16 ≤ 9223372036854775807) ∧ (x36 ≠ x27 + x16 → ∀ (w41 : World), RowKit.Below w.heap.size w w41 → Kept [m31,
    m26, m21, m18, m15, m12, m9, m5, m4, m1] w34 w41 → R (Ending.returned (Value.bool false)) w41) ∧ (x36 = x27 + x16 → (-9223372036854775808 ≤ x16 ∧ x16 ≤ 9223372036854775807) ∧
    (-9223372036854775808 ≤ x28 + x16 ∧ x28 + x16 ≤ 9223372036854775807) ∧ (x37 ≠ x28 + x16 → ∀ (w42 : World), RowKit.Below w.heap.size w w42 → Kept [m31, m26, m21, m18, m15, m12,
    m9, m5, m4, m1] w34 w42 → R (Ending.returned (Value.bool false)) w42) ∧ (x37 = x28 + x16 → ∀ (w43 : World), RowKit.Below w.heap.size w w43 → Kept [m31, m26, m21, m18, m15, m12,
    m9, m5, m4, m1] w34 w43 → RunsTo Try.prog ((eqGuard BinOp.neq 25 (Operand.tmp 134) (Operand.tmp 135) (Value.agg #[Value.int IntKind.i64 x45, Value.int IntKind.i64 x46])
    (Value.agg #[Value.int IntKind.i64 x54, Value.int IntKind.i64 x55])) >>= fun _ => binOp BinOp.neq 25 (Value.agg #[Value.int IntKind.i64 x45, Value.int IntKind.i64 x46])
    (Value.agg #[Value.int IntKind.i64 x54, Value.int IntKind.i64 x55])) w43 fun (v1 : Value) (w44 : World) => ∃ (t1 : Bool), v1 = Value.bool t1 ∧ KeepX true w.heap.size [m31, m26,
    m21, m18, m15, m12, m9, m5, m4, m1] (fun _ => False) w43 w44 ∧ (t1 = true → ∀ (w45 : World), RowKit.Below w.heap.size w w45 → Kept [m31, m26, m21, m18, m15, m12, m9, m5, m4,
    m1] w44 w45 → R (Ending.returned (Value.bool false)) w45) ∧ (t1 = false → (0 < x45 → ∀ (w46 : World), RowKit.Below w.heap.size w w46 → Kept [m31, m26, m21, m18, m15, m12, m9,
    m5, m4, m1] w44 w46 → R (Ending.returned (Value.bool false)) w46) ∧ (x45 ≤ 0 → (x46 < 0 → ∀ (w47 : World), RowKit.Below w.heap.size w w47 → Kept [m31, m26, m21, m18, m15, m12,
    m9, m5, m4, m1] w44 w47 → R (Ending.returned (Value.bool false)) w47) ∧ (0 ≤ x46 → (x85 ≠ x70 → ∀ (w48 : World), RowKit.Below w.heap.size w w48 → Kept [m31, m26, m21, m18, m15,
    m12, m9, m5, m4, m1] w44 w48 → R (Ending.returned (Value.bool false)) w48) ∧ (x85 = x70 → (-9223372036854775808 ≤ x16 ∧ x16 ≤ 9223372036854775807) ∧ (-9223372036854775808 ≤ x16
    * x70 ∧ x16 * x70 ≤ 9223372036854775807) ∧ (-9223372036854775808 ≤ x69 + x16 * x70 ∧ x69 + x16 * x70 ≤ 9223372036854775807) ∧ (x84 ≠ x69 + x16 * x70 → ∀ (w49 : World),
    RowKit.Below w.heap.size w w49 → Kept [m31, m26, m21, m18, m15, m12, m9, m5, m4, m1] w44 w49 → R (Ending.returned (Value.bool false)) w49) ∧ (x84 = x69 + x16 * x70 → ∀ (m33 :
    Nat), w44.heap.size ≤ m33 → ∀ (w50 : World), RowKit.Below w.heap.size w w50 → KeptIn [(0, w44.heap.size)] [m33, m31, m26, m21, m18, m15, m12, m9, m5, m4, m1] w44 w50 → Calls
    Try.prog 13 #[Value.agg #[Value.int IntKind.i64 x1, Value.int IntKind.i64 x2, Value.slice a1 m2 m3, Value.int IntKind.i64 x3, Value.int IntKind.i64 x4, Value.int IntKind.i64
    x5, Value.int IntKind.i64 x6]] w50 fun (e18 : Ending) (w51 : World) => ∃ (x87 : Int), ∃ (x88 : Int), ∃ (a11 : Option Addr), ∃ (m34 : Nat), ∃ (m35 : Nat), ∃ (x89 : Int), ∃ (x90
    : Int), ∃ (x91 : Int), ∃ (x92 : Int), e18 = Ending.returned (Value.agg #[Value.int IntKind.i64 x87, Value.int IntKind.i64 x88, Value.slice a11 m34 m35, Value.int IntKind.i64
    x89, Value.int IntKind.i64 x90, Value.int IntKind.i64 x91, Value.int IntKind.i64 x92]) ∧ RowKit.Below w50.heap.size w50 w51 ∧ ∀ (w52 : World), RowKit.Below w.heap.size w w52 →
    KeptIn [(0, w44.heap.size), (w50.heap.size, w51.heap.size)] [m33, m31, m26, m21, m18, m15, m12, m9, m5, m4, m1] w51 w52 → Calls Try.prog 22 #[Value.agg #[Value.int IntKind.i64
    x87, Value.int IntKind.i64 x88, Value.slice a11 m34 m35, Value.int IntKind.i64 x89, Value.int IntKind.i64 x90, Value.int IntKind.i64 x91, Value.int IntKind.i64 x92], Value.agg
    #[Value.int IntKind.i64 x7, Value.int IntKind.i64 x8, Value.int IntKind.i64 x9, Value.int IntKind.i64 x10, Value.int IntKind.i64 x11, Value.int IntKind.i64 x12, Value.int
    IntKind.i64 0, Value.int IntKind.i64 0]] w52 fun (e19 : Ending) (w53 : World) => ∃ (x93 : Int), ∃ (x94 : Int), ∃ (x95 : Int), e19 = Ending.returned (Value.tuple #[Value.agg
    #[Value.int IntKind.i64 x93, Value.int IntKind.i64 x94], Value.int IntKind.i64 x95]) ∧ RowKit.Below w52.heap.size w52 w53 ∧ ∀ (m36 : Nat), w44.heap.size ≤ m36 → m36 <
    w52.heap.size ∨ w53.heap.size ≤ m36 → m36 < w50.heap.size ∨ w51.heap.size ≤ m36 → (x95 = 0 → (x1 ≠ 3 → ∀ (w54 : World), RowKit.Below w.heap.size w w54 → Kept [m36, m33, m31,
    m26, m21, m18, m15, m12, m9, m5, m4, m1] w53 w54 → Calls Try.prog 12 #[] w54 fun (e20 : Ending) (w55 : World) => ∃ (t2 : Bool), e20 = Ending.returned (Value.bool t2) ∧ KeepX
    true w.heap.size [m36, m33, m31, m26, m21, m18, m15, m12, m9, m5, m4, m1] (fun _ => False) w54 w55 ∧ ∀ (w56 : World), RowKit.Below w.heap.size w w56 → Kept [m36, m33, m31, m26,
    m21, m18, m15, m12, m9, m5, m4, m1] w55 w56 → R (Ending.returned (Value.bool t2)) w56) ∧ (x1 = 3 → ∀ (w57 : World), RowKit.Below w.heap.size w w57 → Kept [m36, m33, m31, m26,
    m21, m18, m15, m12, m9, m5, m4, m1] w53 w57 → RunsTo Try.prog ((eqGuard BinOp.eql 25 (Operand.tmp 185) (Operand.tmp 186) (Value.agg #[Value.int IntKind.i64 x93, Value.int
    IntKind.i64 x94]) (Value.agg #[Value.int IntKind.i64 x27, Value.int IntKind.i64 x28])) >>= fun _ => binOp BinOp.eql 25 (Value.agg #[Value.int IntKind.i64 x93, Value.int
    IntKind.i64 x94]) (Value.agg #[Value.int IntKind.i64 x27, Value.int IntKind.i64 x28])) w57 fun (v2 : Value) (w58 : World) => ∃ (t3 : Bool), v2 = Value.bool t3 ∧ KeepX true
    w.heap.size [m36, m33, m31, m26, m21, m18, m15, m12, m9, m5, m4, m1] (fun _ => False) w57 w58 ∧ (t3 = true → ∀ (w59 : World), RowKit.Below w.heap.size w w59 → Kept [m36, m33,
    m31, m26, m21, m18, m15, m12, m9, m5, m4, m1] w58 w59 → Calls Try.prog 12 #[] w59 fun (e21 : Ending) (w60 : World) => ∃ (t4 : Bool), e21 = Ending.returned (Value.bool t4) ∧
    KeepX true w.heap.size [m36, m33, m31, m26, m21, m18, m15, m12, m9, m5, m4, m1] (fun _ => False) w59 w60 ∧ ∀ (w61 : World), RowKit.Below w.heap.size w w61 → Kept [m36, m33,
    m31, m26, m21, m18, m15, m12, m9, m5, m4, m1] w60 w61 → R (Ending.returned (Value.bool t4)) w61) ∧ (t3 = false → ∀ (w62 : World), RowKit.Below w.heap.size w w62 → Kept [m36,
    m33, m31, m26, m21, m18, m15, m12, m9, m5, m4, m1] w58 w62 → R (Ending.returned (Value.bool false)) w62))) ∧ (x95 ≠ 0 → ∀ (w63 : World), RowKit.Below w.heap.size w w63 → Kept
    [m36, m33, m31, m26, m21, m18, m15, m12, m9, m5, m4, m1] w53 w63 → R (Ending.returned (Value.bool false)) w63))))))))))))))) : Calls Try.prog 9 #[Value.agg #[Value.slice x0a
    x0n x0c, Value.int IntKind.u8 x1, Value.int IntKind.i16 x2, Value.int IntKind.u8 x3, Value.int IntKind.u8 x4, Value.int IntKind.u8 x5, Value.int IntKind.u8 x6, Value.int
    IntKind.u8 x7, Value.int IntKind.u8 x8, Value.int IntKind.u8 x9, Value.int IntKind.u8 x10, Value.int IntKind.u8 x11, Value.int IntKind.u8 x12, Value.int IntKind.u8 x13,
    Value.int IntKind.u8 x14, Value.slice x15a x15n x15c, Value.int IntKind.i16 x16]] w R := calls_of_vc (pure := true) (wrapAt := []) (muts := []) (esc := []) (args := [SV.pv
    (PV.agg [Lf.sl x0a x0n x0c, Lf.int IntKind.u8 x1, Lf.int IntKind.i16 x2, Lf.int IntKind.u8 x3, Lf.int IntKind.u8 x4, Lf.int IntKind.u8 x5, Lf.int IntKind.u8 x6, Lf.int
    IntKind.u8 x7, Lf.int IntKind.u8 x8, Lf.int IntKind.u8 x9, Lf.int IntKind.u8 x10, Lf.int IntKind.u8 x11, Lf.int IntKind.u8 x12, Lf.int IntKind.u8 x13, Lf.int IntKind.u8 x14,
    Lf.sl x15a x15n x15c, Lf.int IntKind.i16 x16])]) (vs := [Value.agg #[Value.slice x0a x0n x0c, Value.int IntKind.u8 x1, Value.int IntKind.i16 x2, Value.int IntKind.u8 x3,
    Value.int IntKind.u8 x4, Value.int IntKind.u8 x5, Value.int IntKind.u8 x6, Value.int IntKind.u8 x7, Value.int IntKind.u8 x8, Value.int IntKind.u8 x9, Value.int IntKind.u8 x10,
    Value.int IntKind.u8 x11, Value.int IntKind.u8 x12, Value.int IntKind.u8 x13, Value.int IntKind.u8 x14, Value.slice x15a x15n x15c, Value.int IntKind.i16 x16]]) Try.func9 rfl
    rfl rfl (Eq.mp (by kernel_rfl) h) 
end Go.Proofs
end
