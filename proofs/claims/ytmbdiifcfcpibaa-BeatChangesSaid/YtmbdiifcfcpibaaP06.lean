/- Part 6: own lemmas, and the conditions of the functions. -/
import Derived.Test.YtmbdiifcfcpibaaProg
import Derived.Test.YtmbdiifcfcpibaaP05
section
/- The conditions of the functions, printed by program; each is what the generator reckons (kernel_rfl). -/
namespace Go.Proofs
open Go.Vc
set_option maxRecDepth 100000 in
set_option maxHeartbeats 2000000 in
theorem vc68 (c0 : Int) (c1 : Int) (c2a : Option Addr) (c2n : Nat) (c2c : Nat) (c3 : Int) (c4 : Int) (c5 : Int) (c6 : Int) (w : World) (R : Ending → World → Prop) (h : ∀ (m1 :
    Nat), w.heap.size ≤ m1 → ∀ (m2 : Nat), w.heap.size ≤ m2 → ∀ (m3 : Nat), w.heap.size ≤ m3 → ∀ (m4 : Nat), w.heap.size ≤ m4 → ∃ (F1 : List Lf → World → Prop), ∃ (F2 : List Lf →
    Nat), (∀ (w2 : World), RowKit.Below w.heap.size w w2 → Kept [m4, m3, m2, m1] w w2 → w2.heap[m3]? = some (Obj.cells #[] 3) → w2.heap[m4]? = some (Obj.cells #[] 3) → F1 [Lf.sl
    (some { block := m3, off := 0 }) 0 0, Lf.sl (some { block := m4, off := 0 }) 0 0, Lf.int IntKind.i64 0] w2) ∧ ∀ (a1 : Option Addr) (m7 m8 : Nat) (a2 : Option Addr) (m9 m10 :
    Nat) (x1 : Int) (w3 : World), RowKit.Below w.heap.size w w3 → F1 [Lf.sl a1 m7 m8, Lf.sl a2 m9 m10, Lf.int IntKind.i64 x1] w3 → (x1 < (↑c2n : Int) → ∃ (m11 : Nat), ∃ (m12 :
    Nat), c2a = some { block := m11, off := m12 } ∧ (0 ≤ x1 ∧ x1 < (↑c2n : Int)) ∧ ∃ (x2 : Int), ∃ (x3 : Int), w3.cell? { block := m11, off := m12 + x1.toNat * 4 + 1 } = some
    (Value.int IntKind.i64 x2) ∧ w3.cell? { block := m11, off := m12 + x1.toNat * 4 + 1 + 1 } = some (Value.int IntKind.i64 x3) ∧ (m11 < w.heap.size ∨ m11 ≠ m2 ∧ m11 ≠ m1) ∧ ∀ (m13
    : Nat), w3.heap.size ≤ m13 → ∃ (m14 : Nat), ∃ (m15 : Nat), c2a = some { block := m14, off := m15 } ∧ (0 ≤ x1 ∧ x1 < (↑c2n : Int)) ∧ ∃ (t1 : Bool), w3.cell?
    { block := m14, off := m15 + x1.toNat * 4 + 3 } = some (Value.bool t1) ∧ (m14 < w.heap.size ∨ m14 ≠ m13 ∧ m14 ≠ m2 ∧ m14 ≠ m1) ∧ (t1 = true → ∀ (m16 : Nat), w3.heap.size ≤ m16
    → ∀ (w4 : World), RowKit.Below w.heap.size w w4 → KeptIn [(0, w3.heap.size)] [m16, m13, m2, m1] w3 w4 → w4.heap[m16]? = some (Obj.cells #[Value.int IntKind.i64 x3] 3) → RunsTo
    Try.prog (Builtin.append_ #[28, 28] 28 #[Value.slice a1 m7 m8, Value.slice (some { block := m16, off := 0 }) 1 1]) w4 fun (v1 : Value) (w5 : World) => ∃ (a3 : Option Addr), ∃
    (m18 : Nat), ∃ (m19 : Nat), v1 = Value.slice a3 m18 m19 ∧ KeepX true w.heap.size [m16, m13, m2, m1] (fun (m20 : Nat) => False ∨ w3.heap.size ≤ m20 ∧ m20 < w4.heap.size) w4 w5 ∧
    ∀ (m21 : Nat), w3.heap.size ≤ m21 → m21 < w4.heap.size ∨ w5.heap.size ≤ m21 → ∀ (w6 : World), RowKit.Below w.heap.size w w6 → KeptIn [(0, w3.heap.size), (w4.heap.size,
    w5.heap.size)] [m21, m16, m13, m2, m1] w5 w6 → w6.heap[m21]? = some (Obj.cells #[Value.int IntKind.i64 x2] 3) → RunsTo Try.prog (Builtin.append_ #[28, 28] 28 #[Value.slice a2
    m9 m10, Value.slice (some { block := m21, off := 0 }) 1 1]) w6 fun (v2 : Value) (w7 : World) => ∃ (a4 : Option Addr), ∃ (m23 : Nat), ∃ (m24 : Nat), v2 = Value.slice a4 m23 m24
    ∧ KeepX true w.heap.size [m21, m16, m13, m2, m1] (fun _ => False) w6 w7 ∧ (-9223372036854775808 ≤ x1 + 1 ∧ x1 + (1 : Int) ≤ 9223372036854775807) ∧ ∀ (w8 : World), RowKit.Below
    w.heap.size w w8 → Kept [m21, m16, m13, m2, m1] w7 w8 → F1 [Lf.sl a3 m18 m19, Lf.sl a4 m23 m24, Lf.int IntKind.i64 (x1 + 1)] w8 ∧ F2 [Lf.sl a3 m18 m19, Lf.sl a4 m23 m24, Lf.int
    IntKind.i64 (x1 + 1)] < F2 [Lf.sl a1 m7 m8, Lf.sl a2 m9 m10, Lf.int IntKind.i64 x1]) ∧ (t1 = false → ∀ (m26 : Nat), w3.heap.size ≤ m26 → ∀ (w9 : World), RowKit.Below
    w.heap.size w w9 → KeptIn [(0, w3.heap.size)] [m26, m13, m2, m1] w3 w9 → w9.heap[m26]? = some (Obj.cells #[Value.int IntKind.i64 x2] 3) → RunsTo Try.prog (Builtin.append_ #[28,
    28] 28 #[Value.slice a1 m7 m8, Value.slice (some { block := m26, off := 0 }) 1 1]) w9 fun (v3 : Value) (w10 : World) => ∃ (a5 : Option Addr), ∃ (m28 : Nat), ∃ (m29 : Nat), v3 =
    Value.slice a5 m28 m29 ∧ KeepX true w.heap.size [m26, m13, m2, m1] (fun (m30 : Nat) => False ∨ w3.heap.size ≤ m30 ∧ m30 < w9.heap.size) w9 w10 ∧ ∀ (m31 : Nat), w3.heap.size ≤
    m31 → m31 < w9.heap.size ∨ w10.heap.size ≤ m31 → ∀ (w11 : World), RowKit.Below w.heap.size w w11 → KeptIn [(0, w3.heap.size), (w9.heap.size, w10.heap.size)] [m31, m26, m13, m2,
    m1] w10 w11 → w11.heap[m31]? = some (Obj.cells #[Value.int IntKind.i64 x3] 3) → RunsTo Try.prog (Builtin.append_ #[28, 28] 28 #[Value.slice a2 m9 m10, Value.slice (some
    { block := m31, off := 0 }) 1 1]) w11 fun (v4 : Value) (w12 : World) => ∃ (a6 : Option Addr), ∃ (m33 : Nat), ∃ (m34 : Nat), v4 = Value.slice a6 m33 m34 ∧ KeepX true w.heap.size
    [m31, m26, m13, m2, m1] (fun _ => False) w11 w12 ∧ (-9223372036854775808 ≤ x1 + 1 ∧ x1 + (1 : Int) ≤ 9223372036854775807) ∧ ∀ (w13 : World), RowKit.Below w.heap.size w w13 →
    Kept [m31, m26, m13, m2, m1] w12 w13 → F1 [Lf.sl a5 m28 m29, Lf.sl a6 m33 m34, Lf.int IntKind.i64 (x1 + 1)] w13 ∧ F2 [Lf.sl a5 m28 m29, Lf.sl a6 m33 m34, Lf.int IntKind.i64 (x1
    + 1)] < F2 [Lf.sl a1 m7 m8, Lf.sl a2 m9 m10, Lf.int IntKind.i64 x1])) ∧ ((↑c2n : Int) ≤ x1 → ∀ (w14 : World), RowKit.Below w.heap.size w w14 → KeptIn [(0, w3.heap.size)] [m2,
    m1] w3 w14 → Calls Try.prog 54 #[Value.agg #[Value.int IntKind.i64 c0, Value.int IntKind.i64 c1, Value.slice c2a c2n c2c, Value.int IntKind.i64 c3, Value.int IntKind.i64 c4,
    Value.int IntKind.i64 c5, Value.int IntKind.i64 c6], Value.slice a1 m7 m8] w14 fun (e1 : Ending) (w15 : World) => ∃ (x4 : Int), e1 = Ending.returned (Value.int IntKind.i64 x4)
    ∧ KeepX true w.heap.size [m2, m1] (fun _ => False) w14 w15 ∧ ∀ (w16 : World), RowKit.Below w.heap.size w w16 → KeptIn [(0, w15.heap.size)] [m2, m1] w15 w16 → Calls Try.prog 54
    #[Value.agg #[Value.int IntKind.i64 c0, Value.int IntKind.i64 c1, Value.slice c2a c2n c2c, Value.int IntKind.i64 c3, Value.int IntKind.i64 c4, Value.int IntKind.i64 c5,
    Value.int IntKind.i64 c6], Value.slice a2 m9 m10] w16 fun (e2 : Ending) (w17 : World) => ∃ (x5 : Int), e2 = Ending.returned (Value.int IntKind.i64 x5) ∧ KeepX true w.heap.size
    [m2, m1] (fun _ => False) w16 w17 ∧ ∀ (w18 : World), RowKit.Below w.heap.size w w18 → Kept [m2, m1] w17 w18 → R (Ending.returned (Value.agg #[Value.int IntKind.i64 x4,
    Value.int IntKind.i64 x5])) w18)) : Calls Try.prog 68 #[Value.agg #[Value.int IntKind.i64 c0, Value.int IntKind.i64 c1, Value.slice c2a c2n c2c, Value.int IntKind.i64 c3,
    Value.int IntKind.i64 c4, Value.int IntKind.i64 c5, Value.int IntKind.i64 c6]] w R := calls_of_vcj (pure := true) (wrapAt := []) (muts := []) (esc := []) (joins := [(3000000,
    [])]) (args := [SV.pv (PV.agg [Lf.int IntKind.i64 c0, Lf.int IntKind.i64 c1, Lf.sl c2a c2n c2c, Lf.int IntKind.i64 c3, Lf.int IntKind.i64 c4, Lf.int IntKind.i64 c5, Lf.int
    IntKind.i64 c6])]) (vs := [Value.agg #[Value.int IntKind.i64 c0, Value.int IntKind.i64 c1, Value.slice c2a c2n c2c, Value.int IntKind.i64 c3, Value.int IntKind.i64 c4,
    Value.int IntKind.i64 c5, Value.int IntKind.i64 c6]]) Try.func68 rfl rfl rfl (Eq.mp (by kernel_rfl) h) 
end Go.Proofs
end
section
/- The reference's Sums and Balance. -/
namespace Go.Proofs.R03
open Go.Vc Go.RowKit Go.Proofs

def loG (r : Rod) : Int := if r.up then r.hi else r.lo
def hiG (r : Rod) : Int := if r.up then r.lo else r.hi
theorem loG_C (r : Rod) : sgn r * (r.len * loG r) = loC r := by unfold loG loC sgn; split <;> omega
theorem hiG_C (r : Rod) : sgn r * (r.len * hiG r) = hiC r := by unfold hiG hiC sgn; split <;> omega
theorem sumT_map {f g : Rod → Int} (h : ∀ r, sgn r * (r.len * f r) = g r) (l : List Rod) : ∀ n, n ≤ l.length → sumT l (l.map f) n = sumF g (l.take n)
  | 0, _ => rfl
  | n + 1, hn => by
    have hx : n < l.length := by omega
    unfold sumT
    rw [sumT_map h l n (by omega), sumF_take g l hx, List.getElem?_map, getElem_of_lt hx]
    simp only [Option.map_some]
    rw [h]
theorem map_take_step (f : Rod → Int) (l : List Rod) {n : Nat} (h : n < l.length) : (l.take (n + 1)).map f = (l.take n).map f ++ [f l[n]] := by
  rw [List.take_add_one, getElem_of_lt h, List.map_append]; rfl

def blkOf : Option Addr → List Nat
  | some ad => [ad.block]
  | none => []
set_option maxHeartbeats 2000000 in
theorem rsums_any (c : Clk) {ra : Option Addr} {rc : Nat} {w : World} (hc : Cells w ra (rods c.rods)) (hl : c.rods.length ≤ 1000) (hr : ∀ r ∈ c.rods, 1 ≤ r.len ∧ r.len ≤ 100000) (hg : ∀ r ∈ c.rods, (-40000 ≤ r.lo ∧ r.lo ≤ 40000) ∧ (-40000 ≤ r.hi ∧ r.hi ≤ 40000)) :
    Calls Try.prog 68 #[c.v ra rc] w (Pure w (spv (sumF loC c.rods, sumF hiC c.rods))) := by
  refine vc68 _ _ _ _ _ _ _ _ _ w _ fun m1 h1 m2 h2 m3 h3 m4 h4 => ?_
  refine ⟨fun ls w' => match ls with | [.sl a n g, .sl a' n' g', .int _ i] => 0 ≤ i ∧ i ≤ c.rods.length ∧ n = i.toNat ∧ n' = i.toNat ∧ (∀ y ∈ [m2, m1], y < w'.heap.size) ∧ (∃ B, RowE 3 1 w.heap.size [m2, m1] a n g (ints ((c.rods.take i.toNat).map loG)) w' ∧ RowE 3 1 w.heap.size [m2, m1] a' n' g' (ints ((c.rods.take i.toNat).map hiG)) w' ∧ B = 0) ∧ (∀ b o b' o', n ≠ 0 → a = some ⟨b, o, none⟩ → a' = some ⟨b', o', none⟩ → b ≠ b') ∧ (n = 0 → (∃ b0, a = some ⟨b0, 0, none⟩ ∧ g = 0) ∧ ∃ b0, a' = some ⟨b0, 0, none⟩ ∧ g' = 0) | _ => False,
    fun ls => match ls with | [_, _, .int _ i] => (c.rods.length - i).toNat | _ => 0, fun w2 hb2 hk2 _ _ => ⟨by omega, by omega, rfl, rfl, fun y hy => hk2.own y (by simp at hy ⊢; omega), ⟨0, RowE.lit, RowE.lit, rfl⟩, fun b o b' o' h => absurd rfl h, fun _ => ⟨⟨m3, rfl, rfl⟩, ⟨m4, rfl, rfl⟩⟩⟩, ?_⟩
  rintro a n g a' n' g' i w3 hb3 ⟨i0, il, rfl, rfl, ho3, ⟨_, R, R', _⟩, hne, hlit⟩
  have z3 := hb3.size
  refine ⟨fun hi => ?_, fun hi w14 hb14 hk14 => ?_⟩
  · have hix : i.toNat < c.rods.length := by omega
    obtain ⟨b1, o1, e1, hlt, c1, c2, c3, c4⟩ := rods_at hc (getElem_of_lt hix)
    have st1 := map_take_step loG c.rods hix
    have st2 := map_take_step hiG c.rods hix
    generalize c.rods[i.toNat] = r at *
    refine ⟨b1, o1, e1, ⟨i0, hi⟩, _, _, cell_keep hb3 c2, cell_keep hb3 c3, .inl hlt, fun m13 h13 => ⟨b1, o1, e1, ⟨i0, hi⟩, _, cell_keep hb3 c4, .inl hlt, ?_⟩⟩
    -- both ways alike
    have main : ∀ (x y : Int) (ms : List Nat), x = loG r → y = hiG r → (∀ z ∈ ms, w3.heap.size ≤ z ∨ z ∈ [m2, m1]) → (∀ z ∈ [m2, m1], z ∈ ms) → ∀ (m16 : Nat), w3.heap.size ≤ m16 → ∀ (w4 : World), Below w.heap.size w w4 → KeptIn [(0, w3.heap.size)] (m16 :: ms) w3 w4 → w4.heap[m16]? = some (Obj.cells #[I x] 3 (0, 0)) →
        RunsTo Try.prog (Builtin.append_ #[28, 28] 28 #[.slice a i.toNat g, .slice (some ⟨m16, 0, none⟩) 1 1]) w4 fun v1 w5 => ∃ a3 m18 m19, v1 = .slice a3 m18 m19 ∧ KeepX true w.heap.size (m16 :: ms) (fun k => False ∨ w3.heap.size ≤ k ∧ k < w4.heap.size) w4 w5 ∧
          ∀ m21, w3.heap.size ≤ m21 → (m21 < w4.heap.size ∨ w5.heap.size ≤ m21) → ∀ w6, Below w.heap.size w w6 → KeptIn [(0, w3.heap.size), (w4.heap.size, w5.heap.size)] (m21 :: m16 :: ms) w5 w6 → w6.heap[m21]? = some (Obj.cells #[I y] 3 (0, 0)) →
          RunsTo Try.prog (Builtin.append_ #[28, 28] 28 #[.slice a' i.toNat g', .slice (some ⟨m21, 0, none⟩) 1 1]) w6 fun v2 w7 => ∃ a4 m23 m24, v2 = .slice a4 m23 m24 ∧ KeepX true w.heap.size (m21 :: m16 :: ms) (fun _ => False) w6 w7 ∧ (-9223372036854775808 ≤ i + 1 ∧ i + 1 ≤ 9223372036854775807) ∧
          ∀ w8, Below w.heap.size w w8 → Kept (m21 :: m16 :: ms) w7 w8 → (0 ≤ i + 1 ∧ i + 1 ≤ c.rods.length ∧ m18 = (i + 1).toNat ∧ m23 = (i + 1).toNat ∧ (∀ y ∈ [m2, m1], y < w8.heap.size) ∧ (∃ B, RowE 3 1 w.heap.size [m2, m1] a3 m18 m19 (ints ((c.rods.take (i + 1).toNat).map loG)) w8 ∧ RowE 3 1 w.heap.size [m2, m1] a4 m23 m24 (ints ((c.rods.take (i + 1).toNat).map hiG)) w8 ∧ B = 0) ∧ (∀ b o b' o', m18 ≠ 0 → a3 = some ⟨b, o, none⟩ → a4 = some ⟨b', o', none⟩ → b ≠ b') ∧ (m18 = 0 → (∃ b0, a3 = some ⟨b0, 0, none⟩ ∧ m19 = 0) ∧ ∃ b0, a4 = some ⟨b0, 0, none⟩ ∧ m24 = 0)) ∧ ((c.rods.length : Int) - (i + 1)).toNat < ((c.rods.length : Int) - i).toNat := by
      intro x y ms hx hy hms hms2 m16 h16 w4 hb4 hk4 hc4
      have z4 := hk4.size
      have o4 := hk4.own
      -- where the rows lie
      have hrows : (i.toNat = 0 ∧ (∃ b0, a = some ⟨b0, 0, none⟩) ∧ g = 0 ∧ (∃ b0, a' = some ⟨b0, 0, none⟩) ∧ g' = 0) ∨ (i.toNat ≠ 0 ∧ Row 3 1 w.heap.size [m2, m1] a i.toNat g (ints ((c.rods.take i.toNat).map loG)) w3 ∧ Row 3 1 w.heap.size [m2, m1] a' i.toNat g' (ints ((c.rods.take i.toNat).map hiG)) w3) := by
        by_cases h0 : i.toNat = 0
        · obtain ⟨⟨p, h1, h2⟩, q, h3, h4⟩ := hlit h0
          exact .inl ⟨h0, ⟨p, h1⟩, h2, ⟨q, h3⟩, h4⟩
        · refine .inr ⟨h0, ?_, ?_⟩
          · rcases R with ⟨_, h, _⟩ | h
            · exact absurd h h0
            · exact h
          · rcases R' with ⟨_, h, _⟩ | h
            · exact absurd h h0
            · exact h
      obtain ⟨ns, hns⟩ : ∃ ns : List Nat, ns = (if i.toNat = 0 then [] else blkOf a') ++ (List.range' w3.heap.size (w4.heap.size - w3.heap.size) ++ m16 :: ms) := ⟨_, rfl⟩
      have hnsm : ∀ z ∈ m16 :: ms, z ∈ ns := fun z hz => by rw [hns]; exact List.mem_append_right _ (List.mem_append_right _ hz)
      have hnsk : ∀ k, w3.heap.size ≤ k → k < w4.heap.size → k ∈ ns := fun k h1 h2 => by
        rw [hns]
        refine List.mem_append_right _ (List.mem_append_left _ ?_)
        rw [List.mem_range'_1]; omega
      have hnslt : ∀ z ∈ ns, z < w4.heap.size := fun z hz => by
        rw [hns] at hz
        rcases List.mem_append.1 hz with hz | hz
        · split at hz
          · simp at hz
          · rename_i h0
            rcases hrows with ⟨h, _⟩ | ⟨_, _, h⟩
            · exact absurd h h0
            · rcases h.own.2 with ⟨e1, e2⟩ | ⟨b2, _, _, he, _⟩
              · exact absurd e2 h0
              · cases he
                simp [blkOf] at hz
                have := (h.lt b2 0 rfl).2
                omega
        · rcases List.mem_append.1 hz with hz | hz
          · rw [List.mem_range'_1] at hz; omega
          · exact o4 z hz
      have hK4 : ∀ z ∈ m16 :: ms, w3.heap.size ≤ z ∨ z ∈ [m2, m1] := fun z hz => by
        rcases List.mem_cons.1 hz with rfl | hz
        · exact .inl h16
        · exact hms z hz
      have low : ∀ {b : Nat}, b < w3.heap.size → b ∉ [m2, m1] → b ∉ m16 :: ms := fun {b} h1 h2 h3 => by
        rcases hK4 b h3 with h | h
        · omega
        · exact h2 h
      have hRE : RowE 3 1 w.heap.size ns a i.toNat g (ints ((c.rods.take i.toNat).map loG)) w4 := by
        rcases hrows with ⟨h0, ⟨b0, rfl⟩, rfl, _⟩ | ⟨h0, h, h'⟩
        · rw [h0]; exact RowE.lit
        · refine .inr ⟨(h.of (w' := w4) fun b o e => hk4.chg.keep b (h.lt b o e).2 (low (h.lt b o e).2 (h.ns b o e))).own, fun b o e hm => ?_⟩
          have hlt := (h.lt b o e).2
          rw [hns, if_neg h0] at hm
          rcases List.mem_append.1 hm with hm | hm
          · rcases h'.own.2 with ⟨e1, e2⟩ | ⟨b2, _, _, he, _⟩
            · exact absurd e2 h0
            · cases he
              simp [blkOf] at hm
              exact hne b o b2 0 h0 e rfl hm
          · rcases List.mem_append.1 hm with hm | hm
            · rw [List.mem_range'_1] at hm; omega
            · exact low hlt (h.ns b o e) hm
      refine append_rowE (P := Try.prog) (bytes := 8) (by kernel_rfl) (by omega) hRE (m := 1) (news := ints [x]) (Cells.obj (vs := [I _]) hc4) rfl (by simp [ints] <;> rfl) (by omega) (by omega) hb4.size hnslt (by omega) fun a3 g3 w5 R5 S cS hS => ?_
      have z5 := cS.size
      obtain ⟨b3, rfl⟩ : ∃ b3, a3 = some ⟨b3, 0, none⟩ := by
        rcases R5.own.2 with ⟨_, e2⟩ | ⟨b2, _, _, he, _⟩
        · omega
        · cases he; exact ⟨b2, rfl⟩
      have hb3 := R5.lt b3 0 rfl
      have hn3 := R5.ns b3 0 rfl
      refine ⟨_, _, g3, rfl, cS.own (fun b hb => ⟨o4 b hb, fun hh => (hS b hh).2 (hnsm b hb)⟩) (fun b hb => by
        rcases hb with hb | hb
        · exact hb.elim
        · exact ⟨hb.2, fun hh => (hS b hh).2 (hnsk b hb.1 hb.2)⟩) (fun _ => ⟨hb4.size, fun b hb => (hS b hb).1⟩), fun m21 h21 d21 w6 hb6 hk6 hc6 => ?_⟩
      have z6 := hk6.size
      have o6 := hk6.own
      -- the other row, there
      have hRE' : RowE 3 1 w.heap.size (b3 :: m21 :: m16 :: ms) a' i.toNat g' (ints ((c.rods.take i.toNat).map hiG)) w6 := by
        rcases hrows with ⟨h0, _, _, ⟨b0, rfl⟩, rfl⟩ | ⟨h0, h, h'⟩
        · rw [h0]; exact RowE.lit
        · obtain ⟨b', rfl⟩ : ∃ b', a' = some ⟨b', 0, none⟩ := by
            rcases h'.own.2 with ⟨_, e2⟩ | ⟨b2, _, _, he, _⟩
            · exact absurd e2 h0
            · cases he; exact ⟨b2, rfl⟩
          have hlt := (h'.lt b' 0 rfl).2
          have hnn := h'.ns b' 0 rfl
          have hl := low hlt hnn
          have hbn : b' ∈ ns := by rw [hns, if_neg h0]; exact List.mem_append_left _ (by simp [blkOf])
          refine .inr ⟨(h'.of (w' := w6) fun b o e => by
            cases e
            have k1 := hk4.chg.keep b' hlt hl
            have k2 := cS.keep b' (by omega) (fun hm => (hS b' hm).2 hbn)
            have k3 := hk6.block b' (by omega) (fun hm => by
              rcases List.mem_cons.1 hm with rfl | hm
              · omega
              · exact hl hm) ⟨_, List.mem_cons_self, Nat.zero_le _, hlt⟩
            rw [k3, k2, k1]).own, fun b o e hm => ?_⟩
          cases e
          rcases List.mem_cons.1 hm with rfl | hm
          · exact hn3 hbn
          · rcases List.mem_cons.1 hm with rfl | hm
            · omega
            · exact hl hm
      have R6 : Row 3 1 w.heap.size ns (some ⟨b3, 0, none⟩) (i.toNat + 1) g3 (ints ((c.rods.take i.toNat).map loG) ++ ints [x]) w6 := R5.of fun b o e => by
        cases e
        refine hk6.block b3 hb3.2 (fun hm => ?_) ?_
        · rcases List.mem_cons.1 hm with rfl | hm
          · rcases d21 with h | h
            · exact hn3 (hnsk _ h21 h)
            · omega
          · exact hn3 (hnsm b3 hm)
        · by_cases h : b3 < w3.heap.size
          · exact ⟨_, List.mem_cons_self, Nat.zero_le _, h⟩
          · refine ⟨(w4.heap.size, w5.heap.size), by simp, ?_, hb3.2⟩
            show w4.heap.size ≤ b3
            exact Nat.le_of_not_lt fun h2 => hn3 (hnsk b3 (by omega) h2)
      refine append_rowE (P := Try.prog) (bytes := 8) (by kernel_rfl) (by omega) hRE' (m := 1) (news := ints [y]) (Cells.obj (vs := [I _]) hc6) rfl (by simp [ints] <;> rfl) (by omega) (by omega) hb6.size (fun z hz => by
        rcases List.mem_cons.1 hz with rfl | hz
        · omega
        · exact o6 z hz) (by omega) fun a4 g4 w7 R7 S2 cS2 hS2 => ?_
      refine ⟨_, _, g4, rfl, cS2.own (fun b hb => ⟨o6 b hb, fun hh => (hS2 b hh).2 (List.mem_cons_of_mem _ hb)⟩) (by simp) (fun _ => ⟨hb6.size, fun b hb => (hS2 b hb).1⟩), by omega, fun w8 hb8 hk8 => ⟨⟨by omega, by omega, by omega, by omega, fun z hz => hk8.own z (List.mem_cons_of_mem _ (List.mem_cons_of_mem _ (hms2 z hz))), ⟨0, ?_, ?_, rfl⟩, ?_, fun h => by omega⟩, by omega⟩⟩
      · have hb3m : b3 ∉ m21 :: m16 :: ms := fun hm => by
          rcases List.mem_cons.1 hm with rfl | hm
          · rcases d21 with h | h
            · exact hn3 (hnsk _ h21 h)
            · omega
          · exact hn3 (hnsm b3 hm)
        have R7' := R6.of (w' := w7) fun b o e => by
          cases e
          exact cS2.keep b3 (by omega) (fun hm => (hS2 b3 hm).2 List.mem_cons_self)
        have z7 := cS2.size
        have R8 := R7'.of (w' := w8) fun b o e => by
          cases e
          exact hk8.block b3 (by omega) hb3m
        rw [show (i + 1).toNat = i.toNat + 1 by omega, st1, ints_app, ← hx]
        exact .inr (R8.less fun z hz => hnsm z (List.mem_cons_of_mem _ (hms2 z hz)))
      · have R8 := R7.chg (Chg.kept hk8) (fun z hz => List.mem_cons_of_mem _ hz)
        rw [show (i + 1).toNat = i.toNat + 1 by omega, st2, ints_app, ← hy]
        exact .inr (R8.less fun z hz => List.mem_cons_of_mem _ (List.mem_cons_of_mem _ (List.mem_cons_of_mem _ (hms2 z hz))))
      · intro b o b' o' _ e1 e2 hbb
        cases e1
        exact R7.ns b' o' e2 (by rw [← hbb]; exact List.mem_cons_self)
    exact ⟨fun hu m16 h16 w4 hb4 hk4 hc4 => main _ _ [m13, m2, m1] (by unfold loG; rw [if_pos hu]) (by unfold hiG; rw [if_pos hu]) (by simp; omega) (by simp) m16 h16 w4 hb4 hk4 hc4, fun hu m16 h16 w4 hb4 hk4 hc4 => main _ _ [m13, m2, m1] (by unfold loG; rw [if_neg (by rw [hu]; decide)]) (by unfold hiG; rw [if_neg (by rw [hu]; decide)]) (by simp; omega) (by simp) m16 h16 w4 hb4 hk4 hc4⟩
  · have hi' : i.toNat = c.rods.length := by omega
    rw [hi', List.take_length] at R R'
    have hgl : (c.rods.map loG).length = c.rods.length := List.length_map ..
    have hgh : (c.rods.map hiG).length = c.rods.length := List.length_map ..
    have C14 := (R.chg hk14.chg fun y hy => hy).cells
    have R14 := R'.chg hk14.chg fun y hy => hy
    rw [hi']
    have b1 : ∀ x ∈ c.rods.map loG, -40000 ≤ x ∧ x ≤ 40000 := fun x hx => by
      obtain ⟨r, h, rfl⟩ := List.mem_map.1 hx
      have := hg r h
      unfold loG; split <;> omega
    have b2 : ∀ x ∈ c.rods.map hiG, -40000 ≤ x ∧ x ≤ 40000 := fun x hx => by
      obtain ⟨r, h, rfl⟩ := List.mem_map.1 hx
      have := hg r h
      unfold hiG; split <;> omega
    have k1 := rsum_any c (n := rc) (g := c.rods.map loG) (gc := g) (hc.keep hb14) C14 hgl hl hr b1
    rw [hgl] at k1
    refine Pure.calls k1 fun w15 hb15 => ⟨_, rfl, .all hb15, fun w16 hb16 hk16 => ?_⟩
    have C16 := ((R14.below hb15).chg hk16.chg fun y hy => hy).cells
    have k2 := rsum_any c (n := rc) (g := c.rods.map hiG) (gc := g') (hc.keep hb16) C16 hgh hl hr b2
    rw [hgh] at k2
    refine Pure.calls k2 fun w17 hb17 => ⟨_, rfl, .all hb17, fun w18 hb18 _ => ⟨?_, hb18⟩⟩
    rw [sumT_map loG_C c.rods _ (Nat.le_refl _), sumT_map hiG_C c.rods _ (Nat.le_refl _), List.take_length]
end Go.Proofs.R03
end
section
/- The reference's Balance; BeatBalances. -/
namespace Go.Proofs.R03
open Go.Vc Go.RowKit Go.Proofs

def CutOk (c : Clk) (i : Nat) (m : Int) : Prop := (1 ≤ m ∧ m ≤ 100000) ∧ LenOk (cutL c i m)
/-- The best one of the lengths below n. -/
def BestN (c : Clk) (i : Nat) (n best least : Int) : Prop :=
  (best = 0 ∧ ∀ m, m < n → ¬CutOk c i m) ∨ (best ≠ 0 ∧ CutOk c i best ∧ best < n ∧ least = effC c i best ∧ ∀ m, m < n → CutOk c i m → (m < best → effC c i best < effC c i m) ∧ (best < m → effC c i best ≤ effC c i m))
end Go.Proofs.R03
end
section
/- BeatBalances. -/
namespace Go.Proofs.R03
open Go.Vc Go.RowKit Go.Proofs

end Go.Proofs.R03
end
section
/- The conditions of the functions, printed by program; each is what the generator reckons (kernel_rfl). -/
namespace Go.Proofs
open Go.Vc
set_option maxRecDepth 100000 in
set_option maxHeartbeats 2000000 in
theorem vc30 (c0 : Int) (c1 : Int) (c2a : Option Addr) (c2n : Nat) (c2c : Nat) (c3 : Int) (c4 : Int) (c5 : Int) (c6 : Int) (p1from0 : Int) (p1from1 : Int) (p1from2 : Int) (p1from3
    : Int) (p1from4 : Int) (p1from5 : Int) (p1from6 : Int) (p1from7 : Int) (p2to0 : Int) (p2to1 : Int) (p2to2 : Int) (p2to3 : Int) (p2to4 : Int) (p2to5 : Int) (p2to6 : Int) (p2to7
    : Int) (w : World) (R : Ending → World → Prop) (h : ∀ (m1 : Nat), w.heap.size ≤ m1 → ∀ (m2 : Nat), w.heap.size ≤ m2 → ∀ (m3 : Nat), w.heap.size ≤ m3 → ∀ (m4 : Nat), w.heap.size
    ≤ m4 → ∀ (w1 : World), RowKit.Below w.heap.size w w1 → Kept [m4, m3, m2, m1] w w1 → Calls Try.prog 21 #[Value.agg #[Value.int IntKind.i64 c0, Value.int IntKind.i64 c1,
    Value.slice c2a c2n c2c, Value.int IntKind.i64 c3, Value.int IntKind.i64 c4, Value.int IntKind.i64 c5, Value.int IntKind.i64 c6]] w1 fun (e1 : Ending) (w2 : World) => ∃ (x1 :
    Int), e1 = Ending.returned (Value.int IntKind.i64 x1) ∧ KeepX true w.heap.size [m4, m3, m2, m1] (fun _ => False) w1 w2 ∧ ((-9223372036854775808 : Int) ≤ 10000 * x1 ∧ 10000 * x1
    ≤ 9223372036854775807) ∧ ∀ (m6 : Nat), w2.heap.size ≤ m6 → ∀ (w3 : World), RowKit.Below w.heap.size w w3 → Kept [m6, m4, m3, m2, m1] w2 w3 → Calls Try.prog 68 #[Value.agg
    #[Value.int IntKind.i64 c0, Value.int IntKind.i64 c1, Value.slice c2a c2n c2c, Value.int IntKind.i64 c3, Value.int IntKind.i64 c4, Value.int IntKind.i64 c5, Value.int
    IntKind.i64 c6]] w3 fun (e2 : Ending) (w4 : World) => ∃ (x2 : Int), ∃ (x3 : Int), e2 = Ending.returned (Value.agg #[Value.int IntKind.i64 x2, Value.int IntKind.i64 x3]) ∧ KeepX
    true w.heap.size [m6, m4, m3, m2, m1] (fun _ => False) w3 w4 ∧ ∀ (m8 : Nat), w4.heap.size ≤ m8 → ∃ (F1 : List Lf → World → Prop), ∃ (F2 : List Lf → Nat), (∀ (w6 : World),
    RowKit.Below w.heap.size w w6 → Kept [m8, m6, m4, m3, m2, m1] w4 w6 → F1 [Lf.bool false, Lf.int IntKind.i64 0, Lf.int IntKind.i64 0, Lf.int IntKind.i64 0] w6) ∧ ∀ (t1 : Bool)
    (x4 x5 x6 : Int) (w7 : World), RowKit.Below w.heap.size w w7 → F1 [Lf.bool t1, Lf.int IntKind.i64 x4, Lf.int IntKind.i64 x5, Lf.int IntKind.i64 x6] w7 → (x4 < 2048 → ∀ (w8 :
    World), RowKit.Below w.heap.size w w8 → Kept [m8, m6, m4, m3, m2, m1] w7 w8 → ∀ (m9 : Nat) (w9 : World), m9 = w8.heap.size → w9 = w8.alloc (Obj.cells #[Value.int IntKind.i64 0,
    Value.int IntKind.i64 0, Value.int IntKind.i64 0, Value.int IntKind.i64 0, Value.int IntKind.i64 0, Value.int IntKind.i64 0, Value.int IntKind.i64 0, Value.int IntKind.i64 0,
    Value.int IntKind.i64 0, Value.int IntKind.i64 0, Value.int IntKind.i64 0] 120) → ∀ (w10 : World), RowKit.Below w.heap.size w w10 → Kept [m8, m6, m4, m3, m2, m1] w9 w10 →
    RunsTo Try.prog ((Instr.storeAt 120 (Value.pointer (some { block := m9, off := 0 })) (Value.agg #[Value.int IntKind.i64 0, Value.int IntKind.i64 0, Value.int IntKind.i64 0,
    Value.int IntKind.i64 0, Value.int IntKind.i64 0, Value.int IntKind.i64 0, Value.int IntKind.i64 0, Value.int IntKind.i64 0, Value.int IntKind.i64 0, Value.int IntKind.i64 0,
    Value.int IntKind.i64 0])) >>= fun _ => pure (Value.tuple #[])) w10 fun (v1 : Value) (w11 : World) => KeepX true w.heap.size [m8, m6, m4, m3, m2, m1] (fun _ => False) w10 w11 ∧
    ∃ (F3 : List Lf → World → Prop), ∃ (F4 : List Lf → Nat), (∀ (w13 : World), RowKit.Below w.heap.size w w13 → Kept [m8, m6, m4, m3, m2, m1] w11 w13 → F3 [Lf.int IntKind.i64 0,
    Lf.int IntKind.i64 x5, Lf.int IntKind.i64 x6] w13) ∧ ∀ (x7 x8 x9 : Int) (w14 : World), RowKit.Below w.heap.size w w14 → F3 [Lf.int IntKind.i64 x7, Lf.int IntKind.i64 x8, Lf.int
    IntKind.i64 x9] w14 → (x7 < 11 → (0 ≤ x7 ∧ x7 ≤ 18446744073709551615) ∧ 0 ≤ x7 ∧ (0 ≤ x7 ∧ x7 < (↑11 : Int)) ∧ ∀ (w15 : World), RowKit.Below w.heap.size w w15 → Kept [m8, m6,
    m4, m3, m2, m1] w14 w15 → RunsTo Try.prog ((Instr.storeAt 3 (Value.pointer (some { block := m9, off := 0 + x7.toNat * 1 })) (Value.int IntKind.i64 (IntKind.i64.wrap
    (↑(BitVec.ofInt IntKind.i64.bits (x4.fdiv (2 ^ min x7.toNat IntKind.i64.bits)) &&& BitVec.ofInt IntKind.i64.bits 1).toNat : Int)))) >>= fun _ => pure (Value.tuple #[])) w15 fun
    (v2 : Value) (w16 : World) => KeepX true w.heap.size [m8, m6, m4, m3, m2, m1] (fun _ => False) w15 w16 ∧ (-9223372036854775808 ≤ x7 + 1 ∧ x7 + (1 : Int) ≤ 9223372036854775807)
    ∧ ∀ (w17 : World), RowKit.Below w.heap.size w w17 → Kept [m8, m6, m4, m3, m2, m1] w16 w17 → F3 [Lf.int IntKind.i64 (x7 + 1), Lf.int IntKind.i64 x8, Lf.int IntKind.i64 x9] w17 ∧
    F4 [Lf.int IntKind.i64 (x7 + 1), Lf.int IntKind.i64 x8, Lf.int IntKind.i64 x9] < F4 [Lf.int IntKind.i64 x7, Lf.int IntKind.i64 x8, Lf.int IntKind.i64 x9]) ∧ (11 ≤ x7 → ∀ (w18 :
    World), RowKit.Below w.heap.size w w18 → KeptIn [(0, w14.heap.size)] [m8, m6, m4, m3, m2, m1] w14 w18 → Calls Try.prog 69 #[Value.agg #[Value.int IntKind.i64 x2, Value.int
    IntKind.i64 x3]] w18 fun (e3 : Ending) (w19 : World) => ∃ (x10 : Int), ∃ (x11 : Int), e3 = Ending.returned (Value.agg #[Value.int IntKind.i64 x10, Value.int IntKind.i64 x11]) ∧
    RowKit.Below w18.heap.size w18 w19 ∧ ∀ (w20 : World), RowKit.Below w.heap.size w w20 → KeptIn [(0, w14.heap.size), (w18.heap.size, w19.heap.size)] [m8, m6, m4, m3, m2, m1] w19
    w20 → Calls Try.prog 69 #[Value.agg #[Value.int IntKind.i64 c3, Value.int IntKind.i64 c4]] w20 fun (e4 : Ending) (w21 : World) => ∃ (x12 : Int), ∃ (x13 : Int), e4 =
    Ending.returned (Value.agg #[Value.int IntKind.i64 x12, Value.int IntKind.i64 x13]) ∧ RowKit.Below w20.heap.size w20 w21 ∧ ∀ (w22 : World), RowKit.Below w.heap.size w w22 →
    KeptIn [(0, w14.heap.size), (w20.heap.size, w21.heap.size), (w18.heap.size, w19.heap.size)] [m8, m6, m4, m3, m2, m1] w21 w22 → Calls Try.prog 69 #[Value.agg #[Value.int
    IntKind.i64 c5, Value.int IntKind.i64 c6]] w22 fun (e5 : Ending) (w23 : World) => ∃ (x14 : Int), ∃ (x15 : Int), e5 = Ending.returned (Value.agg #[Value.int IntKind.i64 x14,
    Value.int IntKind.i64 x15]) ∧ RowKit.Below w22.heap.size w22 w23 ∧ ((0 : Int) ≤ 0 ∧ 0 < (↑11 : Int)) ∧ ∃ (x16 : Int), w14.cell? { block := m9, off := 0 + Int.toNat 0 * 1 } =
    some (Value.int IntKind.i64 x16) ∧ (m9 < w.heap.size ∨ m9 ≠ m8 ∧ m9 ≠ m6 ∧ m9 ≠ m4 ∧ m9 ≠ m3 ∧ m9 ≠ m2 ∧ m9 ≠ m1) ∧ (0 ≤ x16 ∧ x16 < (↑2 : Int)) ∧ ((0 : Int) ≤ 1 ∧ 1 < (↑11 :
    Int)) ∧ ∃ (x17 : Int), w14.cell? { block := m9, off := 0 + Int.toNat 1 * 1 } = some (Value.int IntKind.i64 x17) ∧ (m9 < w.heap.size ∨ m9 ≠ m8 ∧ m9 ≠ m6 ∧ m9 ≠ m4 ∧ m9 ≠ m3 ∧ m9
    ≠ m2 ∧ m9 ≠ m1) ∧ (0 ≤ x17 ∧ x17 < (↑2 : Int)) ∧ ((0 : Int) ≤ 2 ∧ 2 < (↑11 : Int)) ∧ ∃ (x18 : Int), w14.cell? { block := m9, off := 0 + Int.toNat 2 * 1 } = some (Value.int
    IntKind.i64 x18) ∧ (m9 < w.heap.size ∨ m9 ≠ m8 ∧ m9 ≠ m6 ∧ m9 ≠ m4 ∧ m9 ≠ m3 ∧ m9 ≠ m2 ∧ m9 ≠ m1) ∧ (0 ≤ x18 ∧ x18 < (↑2 : Int)) ∧ ∀ (w24 : World), RowKit.Below w.heap.size w
    w24 → KeptIn [(0, w23.heap.size)] [m8, m6, m4, m3, m2, m1] w23 w24 → Calls Try.prog 69 #[Value.agg #[Value.int IntKind.i64 p2to0, Value.int IntKind.i64 p2to1]] w24 fun (e6 :
    Ending) (w25 : World) => ∃ (x19 : Int), ∃ (x20 : Int), e6 = Ending.returned (Value.agg #[Value.int IntKind.i64 x19, Value.int IntKind.i64 x20]) ∧ RowKit.Below w24.heap.size w24
    w25 ∧ ∀ (w26 : World), RowKit.Below w.heap.size w w26 → KeptIn [(0, w23.heap.size), (w24.heap.size, w25.heap.size)] [m8, m6, m4, m3, m2, m1] w25 w26 → Calls Try.prog 69
    #[Value.agg #[Value.int IntKind.i64 p1from0, Value.int IntKind.i64 p1from1]] w26 fun (e7 : Ending) (w27 : World) => ∃ (x21 : Int), ∃ (x22 : Int), e7 = Ending.returned
    (Value.agg #[Value.int IntKind.i64 x21, Value.int IntKind.i64 x22]) ∧ RowKit.Below w26.heap.size w26 w27 ∧ ((0 : Int) ≤ 3 ∧ 3 < (↑11 : Int)) ∧ ∃ (x23 : Int), w23.cell?
    { block := m9, off := 0 + Int.toNat 3 * 1 } = some (Value.int IntKind.i64 x23) ∧ (m9 < w.heap.size ∨ m9 ≠ m8 ∧ m9 ≠ m6 ∧ m9 ≠ m4 ∧ m9 ≠ m3 ∧ m9 ≠ m2 ∧ m9 ≠ m1) ∧ (0 ≤ x23 ∧ x23
    < (↑2 : Int)) ∧ ((0 : Int) ≤ 4 ∧ 4 < (↑11 : Int)) ∧ ∃ (x24 : Int), w23.cell? { block := m9, off := 0 + Int.toNat 4 * 1 } = some (Value.int IntKind.i64 x24) ∧ (m9 < w.heap.size
    ∨ m9 ≠ m8 ∧ m9 ≠ m6 ∧ m9 ≠ m4 ∧ m9 ≠ m3 ∧ m9 ≠ m2 ∧ m9 ≠ m1) ∧ (0 ≤ x24 ∧ x24 < (↑2 : Int)) ∧ (-9223372036854775808 ≤ nthI [x19, x20] x23 - nthI [x21, x22] x24 ∧ nthI [x19,
    x20] x23 - nthI [x21, x22] x24 ≤ 9223372036854775807) ∧ ∀ (w28 : World), RowKit.Below w.heap.size w w28 → KeptIn [(0, w27.heap.size)] [m8, m6, m4, m3, m2, m1] w27 w28 → Calls
    Try.prog 69 #[Value.agg #[Value.int IntKind.i64 p2to2, Value.int IntKind.i64 p2to3]] w28 fun (e8 : Ending) (w29 : World) => ∃ (x25 : Int), ∃ (x26 : Int), e8 = Ending.returned
    (Value.agg #[Value.int IntKind.i64 x25, Value.int IntKind.i64 x26]) ∧ RowKit.Below w28.heap.size w28 w29 ∧ ∀ (w30 : World), RowKit.Below w.heap.size w w30 → KeptIn [(0,
    w27.heap.size), (w28.heap.size, w29.heap.size)] [m8, m6, m4, m3, m2, m1] w29 w30 → Calls Try.prog 69 #[Value.agg #[Value.int IntKind.i64 p1from2, Value.int IntKind.i64
    p1from3]] w30 fun (e9 : Ending) (w31 : World) => ∃ (x27 : Int), ∃ (x28 : Int), e9 = Ending.returned (Value.agg #[Value.int IntKind.i64 x27, Value.int IntKind.i64 x28]) ∧
    RowKit.Below w30.heap.size w30 w31 ∧ ((0 : Int) ≤ 5 ∧ 5 < (↑11 : Int)) ∧ ∃ (x29 : Int), w27.cell? { block := m9, off := 0 + Int.toNat 5 * 1 } = some (Value.int IntKind.i64 x29)
    ∧ (m9 < w.heap.size ∨ m9 ≠ m8 ∧ m9 ≠ m6 ∧ m9 ≠ m4 ∧ m9 ≠ m3 ∧ m9 ≠ m2 ∧ m9 ≠ m1) ∧ (0 ≤ x29 ∧ x29 < (↑2 : Int)) ∧ ((0 : Int) ≤ 6 ∧ 6 < (↑11 : Int)) ∧ ∃ (x30 : Int), w27.cell?
    { block := m9, off := 0 + Int.toNat 6 * 1 } = some (Value.int IntKind.i64 x30) ∧ (m9 < w.heap.size ∨ m9 ≠ m8 ∧ m9 ≠ m6 ∧ m9 ≠ m4 ∧ m9 ≠ m3 ∧ m9 ≠ m2 ∧ m9 ≠ m1) ∧ (0 ≤ x30 ∧ x30
    < (↑2 : Int)) ∧ (-9223372036854775808 ≤ nthI [x25, x26] x29 - nthI [x27, x28] x30 ∧ nthI [x25, x26] x29 - nthI [x27, x28] x30 ≤ 9223372036854775807) ∧ ∀ (w32 : World),
    RowKit.Below w.heap.size w w32 → KeptIn [(0, w31.heap.size)] [m8, m6, m4, m3, m2, m1] w31 w32 → Calls Try.prog 69 #[Value.agg #[Value.int IntKind.i64 p2to4, Value.int
    IntKind.i64 p2to5]] w32 fun (e10 : Ending) (w33 : World) => ∃ (x31 : Int), ∃ (x32 : Int), e10 = Ending.returned (Value.agg #[Value.int IntKind.i64 x31, Value.int IntKind.i64
    x32]) ∧ RowKit.Below w32.heap.size w32 w33 ∧ ∀ (w34 : World), RowKit.Below w.heap.size w w34 → KeptIn [(0, w31.heap.size), (w32.heap.size, w33.heap.size)] [m8, m6, m4, m3, m2,
    m1] w33 w34 → Calls Try.prog 69 #[Value.agg #[Value.int IntKind.i64 p1from4, Value.int IntKind.i64 p1from5]] w34 fun (e11 : Ending) (w35 : World) => ∃ (x33 : Int), ∃ (x34 :
    Int), e11 = Ending.returned (Value.agg #[Value.int IntKind.i64 x33, Value.int IntKind.i64 x34]) ∧ RowKit.Below w34.heap.size w34 w35 ∧ ((0 : Int) ≤ 7 ∧ 7 < (↑11 : Int)) ∧ ∃
    (x35 : Int), w31.cell? { block := m9, off := 0 + Int.toNat 7 * 1 } = some (Value.int IntKind.i64 x35) ∧ (m9 < w.heap.size ∨ m9 ≠ m8 ∧ m9 ≠ m6 ∧ m9 ≠ m4 ∧ m9 ≠ m3 ∧ m9 ≠ m2 ∧ m9
    ≠ m1) ∧ (0 ≤ x35 ∧ x35 < (↑2 : Int)) ∧ ((0 : Int) ≤ 8 ∧ 8 < (↑11 : Int)) ∧ ∃ (x36 : Int), w31.cell? { block := m9, off := 0 + Int.toNat 8 * 1 } = some (Value.int IntKind.i64
    x36) ∧ (m9 < w.heap.size ∨ m9 ≠ m8 ∧ m9 ≠ m6 ∧ m9 ≠ m4 ∧ m9 ≠ m3 ∧ m9 ≠ m2 ∧ m9 ≠ m1) ∧ (0 ≤ x36 ∧ x36 < (↑2 : Int)) ∧ ∀ (w36 : World), RowKit.Below w.heap.size w w36 → KeptIn
    [(0, w35.heap.size)] [m8, m6, m4, m3, m2, m1] w35 w36 → Calls Try.prog 69 #[Value.agg #[Value.int IntKind.i64 p2to6, Value.int IntKind.i64 p2to7]] w36 fun (e12 : Ending) (w37 :
    World) => ∃ (x37 : Int), ∃ (x38 : Int), e12 = Ending.returned (Value.agg #[Value.int IntKind.i64 x37, Value.int IntKind.i64 x38]) ∧ RowKit.Below w36.heap.size w36 w37 ∧ ∀ (w38
    : World), RowKit.Below w.heap.size w w38 → KeptIn [(0, w35.heap.size), (w36.heap.size, w37.heap.size)] [m8, m6, m4, m3, m2, m1] w37 w38 → Calls Try.prog 69 #[Value.agg
    #[Value.int IntKind.i64 p1from6, Value.int IntKind.i64 p1from7]] w38 fun (e13 : Ending) (w39 : World) => ∃ (x39 : Int), ∃ (x40 : Int), e13 = Ending.returned (Value.agg
    #[Value.int IntKind.i64 x39, Value.int IntKind.i64 x40]) ∧ RowKit.Below w38.heap.size w38 w39 ∧ ((0 : Int) ≤ 9 ∧ 9 < (↑11 : Int)) ∧ ∃ (x41 : Int), w35.cell?
    { block := m9, off := 0 + Int.toNat 9 * 1 } = some (Value.int IntKind.i64 x41) ∧ (m9 < w.heap.size ∨ m9 ≠ m8 ∧ m9 ≠ m6 ∧ m9 ≠ m4 ∧ m9 ≠ m3 ∧ m9 ≠ m2 ∧ m9 ≠ m1) ∧ (0 ≤ x41 ∧ x41
    < (↑2 : Int)) ∧ ((0 : Int) ≤ 10 ∧ 10 < (↑11 : Int)) ∧ ∃ (x42 : Int), w35.cell? { block := m9, off := 0 + Int.toNat 10 * 1 } = some (Value.int IntKind.i64 x42) ∧ (m9 <
    w.heap.size ∨ m9 ≠ m8 ∧ m9 ≠ m6 ∧ m9 ≠ m4 ∧ m9 ≠ m3 ∧ m9 ≠ m2 ∧ m9 ≠ m1) ∧ (0 ≤ x42 ∧ x42 < (↑2 : Int)) ∧ (-9223372036854775808 ≤ nthI [x37, x38] x41 - nthI [x39, x40] x42 ∧
    nthI [x37, x38] x41 - nthI [x39, x40] x42 ≤ 9223372036854775807) ∧ (-9223372036854775808 ≤ nthI [x12, x13] x17 * (nthI [x25, x26] x29 - nthI [x27, x28] x30) ∧ nthI [x12, x13]
    x17 * (nthI [x25, x26] x29 - nthI [x27, x28] x30) ≤ 9223372036854775807) ∧ (-9223372036854775808 ≤ nthI [x14, x15] x18 * (nthI [x37, x38] x41 - nthI [x39, x40] x42) ∧ nthI
    [x14, x15] x18 * (nthI [x37, x38] x41 - nthI [x39, x40] x42) ≤ 9223372036854775807) ∧ (-9223372036854775808 ≤ nthI [x12, x13] x17 * (nthI [x25, x26] x29 - nthI [x27, x28] x30)
    + nthI [x14, x15] x18 * (nthI [x37, x38] x41 - nthI [x39, x40] x42) ∧ nthI [x12, x13] x17 * (nthI [x25, x26] x29 - nthI [x27, x28] x30) + nthI [x14, x15] x18 * (nthI [x37, x38]
    x41 - nthI [x39, x40] x42) ≤ 9223372036854775807) ∧ ((-9223372036854775808 : Int) ≤ 10000 * x1 * (nthI [x12, x13] x17 * (nthI [x25, x26] x29 - nthI [x27, x28] x30) + nthI [x14,
    x15] x18 * (nthI [x37, x38] x41 - nthI [x39, x40] x42)) ∧ 10000 * x1 * (nthI [x12, x13] x17 * (nthI [x25, x26] x29 - nthI [x27, x28] x30) + nthI [x14, x15] x18 * (nthI [x37,
    x38] x41 - nthI [x39, x40] x42)) ≤ 9223372036854775807) ∧ ((-9223372036854775808 : Int) ≤ 432 * nthI [x10, x11] x16 ∧ 432 * nthI [x10, x11] x16 ≤ 9223372036854775807) ∧
    ((-9223372036854775808 : Int) ≤ 432 * nthI [x10, x11] x16 * (nthI [x19, x20] x23 - nthI [x21, x22] x24) ∧ 432 * nthI [x10, x11] x16 * (nthI [x19, x20] x23 - nthI [x21, x22]
    x24) ≤ 9223372036854775807) ∧ ((-9223372036854775808 : Int) ≤ 10000 * x1 * (nthI [x12, x13] x17 * (nthI [x25, x26] x29 - nthI [x27, x28] x30) + nthI [x14, x15] x18 * (nthI
    [x37, x38] x41 - nthI [x39, x40] x42)) - 432 * nthI [x10, x11] x16 * (nthI [x19, x20] x23 - nthI [x21, x22] x24) ∧ 10000 * x1 * (nthI [x12, x13] x17 * (nthI [x25, x26] x29 -
    nthI [x27, x28] x30) + nthI [x14, x15] x18 * (nthI [x37, x38] x41 - nthI [x39, x40] x42)) - 432 * nthI [x10, x11] x16 * (nthI [x19, x20] x23 - nthI [x21, x22] x24) ≤
    9223372036854775807) ∧ ∀ (w40 : World), RowKit.Below w.heap.size w w40 → Kept [m8, m6, m4, m3, m2, m1] w39 w40 → Calls Try.prog 21 #[Value.agg #[Value.int IntKind.i64 c0,
    Value.int IntKind.i64 c1, Value.slice c2a c2n c2c, Value.int IntKind.i64 c3, Value.int IntKind.i64 c4, Value.int IntKind.i64 c5, Value.int IntKind.i64 c6]] w40 fun (e14 :
    Ending) (w41 : World) => ∃ (x43 : Int), e14 = Ending.returned (Value.int IntKind.i64 x43) ∧ KeepX true w.heap.size [m8, m6, m4, m3, m2, m1] (fun _ => False) w40 w41 ∧
    ((-9223372036854775808 : Int) ≤ 4570 * x43 ∧ 4570 * x43 ≤ 9223372036854775807) ∧ (-9223372036854775808 ≤ nthI [x31, x32] x35 * nthI [x31, x32] x35 ∧ nthI [x31, x32] x35 * nthI
    [x31, x32] x35 ≤ 9223372036854775807) ∧ (-9223372036854775808 ≤ nthI [x33, x34] x36 * nthI [x33, x34] x36 ∧ nthI [x33, x34] x36 * nthI [x33, x34] x36 ≤ 9223372036854775807) ∧
    (-9223372036854775808 ≤ nthI [x31, x32] x35 * nthI [x31, x32] x35 - nthI [x33, x34] x36 * nthI [x33, x34] x36 ∧ nthI [x31, x32] x35 * nthI [x31, x32] x35 - nthI [x33, x34] x36
    * nthI [x33, x34] x36 ≤ 9223372036854775807) ∧ ((-9223372036854775808 : Int) ≤ 4570 * x43 * (nthI [x31, x32] x35 * nthI [x31, x32] x35 - nthI [x33, x34] x36 * nthI [x33, x34]
    x36) ∧ 4570 * x43 * (nthI [x31, x32] x35 * nthI [x31, x32] x35 - nthI [x33, x34] x36 * nthI [x33, x34] x36) ≤ 9223372036854775807) ∧ ((-9223372036854775808 : Int) ≤ 10000 * x1
    * (nthI [x12, x13] x17 * (nthI [x25, x26] x29 - nthI [x27, x28] x30) + nthI [x14, x15] x18 * (nthI [x37, x38] x41 - nthI [x39, x40] x42)) - 432 * nthI [x10, x11] x16 * (nthI
    [x19, x20] x23 - nthI [x21, x22] x24) - 4570 * x43 * (nthI [x31, x32] x35 * nthI [x31, x32] x35 - nthI [x33, x34] x36 * nthI [x33, x34] x36) ∧ 10000 * x1 * (nthI [x12, x13] x17
    * (nthI [x25, x26] x29 - nthI [x27, x28] x30) + nthI [x14, x15] x18 * (nthI [x37, x38] x41 - nthI [x39, x40] x42)) - 432 * nthI [x10, x11] x16 * (nthI [x19, x20] x23 - nthI
    [x21, x22] x24) - 4570 * x43 * (nthI [x31, x32] x35 * nthI [x31, x32] x35 - nthI [x33, x34] x36 * nthI [x33, x34] x36) ≤ 9223372036854775807) ∧ ((!t1) = true →
    (-9223372036854775808 ≤ x4 + 1 ∧ x4 + (1 : Int) ≤ 9223372036854775807) ∧ ∀ (w42 : World), RowKit.Below w.heap.size w w42 → Kept [m8, m6, m4, m3, m2, m1] w41 w42 → F1 [Lf.bool
    true, Lf.int IntKind.i64 (x4 + 1), Lf.int IntKind.i64 (min (10000 * x1 * (nthI [x12, x13] x17 * (nthI [x25, x26] x29 - nthI [x27, x28] x30) + nthI [x14, x15] x18 * (nthI [x37,
    x38] x41 - nthI [x39, x40] x42)) - 432 * nthI [x10, x11] x16 * (nthI [x19, x20] x23 - nthI [x21, x22] x24) - 4570 * x43 * (nthI [x31, x32] x35 * nthI [x31, x32] x35 - nthI
    [x33, x34] x36 * nthI [x33, x34] x36)) (10000 * x1 * (nthI [x12, x13] x17 * (nthI [x25, x26] x29 - nthI [x27, x28] x30) + nthI [x14, x15] x18 * (nthI [x37, x38] x41 - nthI
    [x39, x40] x42)) - 432 * nthI [x10, x11] x16 * (nthI [x19, x20] x23 - nthI [x21, x22] x24) - 4570 * x43 * (nthI [x31, x32] x35 * nthI [x31, x32] x35 - nthI [x33, x34] x36 *
    nthI [x33, x34] x36))), Lf.int IntKind.i64 (max (10000 * x1 * (nthI [x12, x13] x17 * (nthI [x25, x26] x29 - nthI [x27, x28] x30) + nthI [x14, x15] x18 * (nthI [x37, x38] x41 -
    nthI [x39, x40] x42)) - 432 * nthI [x10, x11] x16 * (nthI [x19, x20] x23 - nthI [x21, x22] x24) - 4570 * x43 * (nthI [x31, x32] x35 * nthI [x31, x32] x35 - nthI [x33, x34] x36
    * nthI [x33, x34] x36)) (10000 * x1 * (nthI [x12, x13] x17 * (nthI [x25, x26] x29 - nthI [x27, x28] x30) + nthI [x14, x15] x18 * (nthI [x37, x38] x41 - nthI [x39, x40] x42)) -
    432 * nthI [x10, x11] x16 * (nthI [x19, x20] x23 - nthI [x21, x22] x24) - 4570 * x43 * (nthI [x31, x32] x35 * nthI [x31, x32] x35 - nthI [x33, x34] x36 * nthI [x33, x34]
    x36)))] w42 ∧ F2 [Lf.bool true, Lf.int IntKind.i64 (x4 + 1), Lf.int IntKind.i64 (min (10000 * x1 * (nthI [x12, x13] x17 * (nthI [x25, x26] x29 - nthI [x27, x28] x30) + nthI
    [x14, x15] x18 * (nthI [x37, x38] x41 - nthI [x39, x40] x42)) - 432 * nthI [x10, x11] x16 * (nthI [x19, x20] x23 - nthI [x21, x22] x24) - 4570 * x43 * (nthI [x31, x32] x35 *
    nthI [x31, x32] x35 - nthI [x33, x34] x36 * nthI [x33, x34] x36)) (10000 * x1 * (nthI [x12, x13] x17 * (nthI [x25, x26] x29 - nthI [x27, x28] x30) + nthI [x14, x15] x18 * (nthI
    [x37, x38] x41 - nthI [x39, x40] x42)) - 432 * nthI [x10, x11] x16 * (nthI [x19, x20] x23 - nthI [x21, x22] x24) - 4570 * x43 * (nthI [x31, x32] x35 * nthI [x31, x32] x35 -
    nthI [x33, x34] x36 * nthI [x33, x34] x36))), Lf.int IntKind.i64 (max (10000 * x1 * (nthI [x12, x13] x17 * (nthI [x25, x26] x29 - nthI [x27, x28] x30) + nthI [x14, x15] x18 *
    (nthI [x37, x38] x41 - nthI [x39, x40] x42)) - 432 * nthI [x10, x11] x16 * (nthI [x19, x20] x23 - nthI [x21, x22] x24) - 4570 * x43 * (nthI [x31, x32] x35 * nthI [x31, x32] x35
    - nthI [x33, x34] x36 * nthI [x33, x34] x36)) (10000 * x1 * (nthI [x12, x13] x17 * (nthI [x25, x26] x29 - nthI [x27, x28] x30) + nthI [x14, x15] x18 * (nthI [x37, x38] x41 -
    nthI [x39, x40] x42)) - 432 * nthI [x10, x11] x16 * (nthI [x19, x20] x23 - nthI [x21, x22] x24) - 4570 * x43 * (nthI [x31, x32] x35 * nthI [x31, x32] x35 - nthI [x33, x34] x36
    * nthI [x33, x34] x36)))] < F2 [Lf.bool t1, Lf.int IntKind.i64 x4, Lf.int IntKind.i64 x5, Lf.int IntKind.i64 x6]) ∧ ((!t1) = false → (-9223372036854775808 ≤ x4 + 1 ∧ x4 + (1 :
    Int) ≤ 9223372036854775807) ∧ ∀ (w43 : World), RowKit.Below w.heap.size w w43 → Kept [m8, m6, m4, m3, m2, m1] w41 w43 → F1 [Lf.bool t1, Lf.int IntKind.i64 (x4 + 1), Lf.int
    IntKind.i64 (min x8 (10000 * x1 * (nthI [x12, x13] x17 * (nthI [x25, x26] x29 - nthI [x27, x28] x30) + nthI [x14, x15] x18 * (nthI [x37, x38] x41 - nthI [x39, x40] x42)) - 432
    * nthI [x10, x11] x16 * (nthI [x19, x20] x23 - nthI [x21, x22] x24) - 4570 * x43 * (nthI [x31, x32] x35 * nthI [x31, x32] x35 - nthI [x33, x34] x36 * nthI [x33, x34] x36))),
    Lf.int IntKind.i64 (max x9 (10000 * x1 * (nthI [x12, x13] x17 * (nthI [x25, x26] x29 - nthI [x27, x28] x30) + nthI [x14, x15] x18 * (nthI [x37, x38] x41 - nthI [x39, x40] x42))
    - 432 * nthI [x10, x11] x16 * (nthI [x19, x20] x23 - nthI [x21, x22] x24) - 4570 * x43 * (nthI [x31, x32] x35 * nthI [x31, x32] x35 - nthI [x33, x34] x36 * nthI [x33, x34]
    x36)))] w43 ∧ F2 [Lf.bool t1, Lf.int IntKind.i64 (x4 + 1), Lf.int IntKind.i64 (min x8 (10000 * x1 * (nthI [x12, x13] x17 * (nthI [x25, x26] x29 - nthI [x27, x28] x30) + nthI
    [x14, x15] x18 * (nthI [x37, x38] x41 - nthI [x39, x40] x42)) - 432 * nthI [x10, x11] x16 * (nthI [x19, x20] x23 - nthI [x21, x22] x24) - 4570 * x43 * (nthI [x31, x32] x35 *
    nthI [x31, x32] x35 - nthI [x33, x34] x36 * nthI [x33, x34] x36))), Lf.int IntKind.i64 (max x9 (10000 * x1 * (nthI [x12, x13] x17 * (nthI [x25, x26] x29 - nthI [x27, x28] x30)
    + nthI [x14, x15] x18 * (nthI [x37, x38] x41 - nthI [x39, x40] x42)) - 432 * nthI [x10, x11] x16 * (nthI [x19, x20] x23 - nthI [x21, x22] x24) - 4570 * x43 * (nthI [x31, x32]
    x35 * nthI [x31, x32] x35 - nthI [x33, x34] x36 * nthI [x33, x34] x36)))] < F2 [Lf.bool t1, Lf.int IntKind.i64 x4, Lf.int IntKind.i64 x5, Lf.int IntKind.i64 x6]))) ∧ (2048 ≤ x4
    → ∀ (w44 : World), RowKit.Below w.heap.size w w44 → Kept [m8, m6, m4, m3, m2, m1] w7 w44 → R (Ending.returned (Value.agg #[Value.int IntKind.i64 x5, Value.int IntKind.i64 x6]))
    w44)) : Calls Try.prog 30 #[Value.agg #[Value.int IntKind.i64 c0, Value.int IntKind.i64 c1, Value.slice c2a c2n c2c, Value.int IntKind.i64 c3, Value.int IntKind.i64 c4,
    Value.int IntKind.i64 c5, Value.int IntKind.i64 c6], Value.agg #[Value.int IntKind.i64 p1from0, Value.int IntKind.i64 p1from1, Value.int IntKind.i64 p1from2, Value.int
    IntKind.i64 p1from3, Value.int IntKind.i64 p1from4, Value.int IntKind.i64 p1from5, Value.int IntKind.i64 p1from6, Value.int IntKind.i64 p1from7], Value.agg #[Value.int
    IntKind.i64 p2to0, Value.int IntKind.i64 p2to1, Value.int IntKind.i64 p2to2, Value.int IntKind.i64 p2to3, Value.int IntKind.i64 p2to4, Value.int IntKind.i64 p2to5, Value.int
    IntKind.i64 p2to6, Value.int IntKind.i64 p2to7]] w R := calls_of_vc (pure := true) (wrapAt := []) (muts := [7]) (esc := [12]) (args := [SV.pv (PV.agg [Lf.int IntKind.i64 c0,
    Lf.int IntKind.i64 c1, Lf.sl c2a c2n c2c, Lf.int IntKind.i64 c3, Lf.int IntKind.i64 c4, Lf.int IntKind.i64 c5, Lf.int IntKind.i64 c6]), SV.pv (PV.agg [Lf.int IntKind.i64
    p1from0, Lf.int IntKind.i64 p1from1, Lf.int IntKind.i64 p1from2, Lf.int IntKind.i64 p1from3, Lf.int IntKind.i64 p1from4, Lf.int IntKind.i64 p1from5, Lf.int IntKind.i64 p1from6,
    Lf.int IntKind.i64 p1from7]), SV.pv (PV.agg [Lf.int IntKind.i64 p2to0, Lf.int IntKind.i64 p2to1, Lf.int IntKind.i64 p2to2, Lf.int IntKind.i64 p2to3, Lf.int IntKind.i64 p2to4,
    Lf.int IntKind.i64 p2to5, Lf.int IntKind.i64 p2to6, Lf.int IntKind.i64 p2to7])]) (vs := [Value.agg #[Value.int IntKind.i64 c0, Value.int IntKind.i64 c1, Value.slice c2a c2n
    c2c, Value.int IntKind.i64 c3, Value.int IntKind.i64 c4, Value.int IntKind.i64 c5, Value.int IntKind.i64 c6], Value.agg #[Value.int IntKind.i64 p1from0, Value.int IntKind.i64
    p1from1, Value.int IntKind.i64 p1from2, Value.int IntKind.i64 p1from3, Value.int IntKind.i64 p1from4, Value.int IntKind.i64 p1from5, Value.int IntKind.i64 p1from6, Value.int
    IntKind.i64 p1from7], Value.agg #[Value.int IntKind.i64 p2to0, Value.int IntKind.i64 p2to1, Value.int IntKind.i64 p2to2, Value.int IntKind.i64 p2to3, Value.int IntKind.i64
    p2to4, Value.int IntKind.i64 p2to5, Value.int IntKind.i64 p2to6, Value.int IntKind.i64 p2to7]]) Try.func30 rfl rfl rfl (Eq.mp (by kernel_rfl) h) 
set_option maxRecDepth 100000 in
set_option maxHeartbeats 2000000 in
theorem vc5 (c0 : Int) (c1 : Int) (c2a : Option Addr) (c2n : Nat) (c2c : Nat) (c3 : Int) (c4 : Int) (c5 : Int) (c6 : Int) (p1from0 : Int) (p1from1 : Int) (p1from2 : Int) (p1from3 :
    Int) (p1from4 : Int) (p1from5 : Int) (p1from6 : Int) (p1from7 : Int) (p2to0 : Int) (p2to1 : Int) (p2to2 : Int) (p2to3 : Int) (p2to4 : Int) (p2to5 : Int) (p2to6 : Int) (p2to7 :
    Int) (w : World) (R : Ending → World → Prop) (h : ∀ (m1 : Nat), w.heap.size ≤ m1 → ∀ (m2 : Nat), w.heap.size ≤ m2 → ∀ (m3 : Nat), w.heap.size ≤ m3 → (12 < (↑c2n : Int) → ∀ (w1
    : World), RowKit.Below w.heap.size w w1 → Kept [m3, m2, m1] w w1 → Calls Try.prog 12 #[] w1 fun (e1 : Ending) (w2 : World) => ∃ (t1 : Bool), e1 = Ending.returned (Value.bool
    t1) ∧ KeepX true w.heap.size [m3, m2, m1] (fun _ => False) w1 w2 ∧ ∀ (w3 : World), RowKit.Below w.heap.size w w3 → Kept [m3, m2, m1] w2 w3 → R (Ending.returned (Value.bool t1))
    w3) ∧ ((↑c2n : Int) ≤ 12 → ∀ (w4 : World), RowKit.Below w.heap.size w w4 → KeptIn [(0, w.heap.size)] [m3, m2, m1] w w4 → Calls Try.prog 13 #[Value.agg #[Value.int IntKind.i64
    c0, Value.int IntKind.i64 c1, Value.slice c2a c2n c2c, Value.int IntKind.i64 c3, Value.int IntKind.i64 c4, Value.int IntKind.i64 c5, Value.int IntKind.i64 c6]] w4 fun (e2 :
    Ending) (w5 : World) => ∃ (x1 : Int), ∃ (x2 : Int), ∃ (a1 : Option Addr), ∃ (m5 : Nat), ∃ (m6 : Nat), ∃ (x3 : Int), ∃ (x4 : Int), ∃ (x5 : Int), ∃ (x6 : Int), e2 =
    Ending.returned (Value.agg #[Value.int IntKind.i64 x1, Value.int IntKind.i64 x2, Value.slice a1 m5 m6, Value.int IntKind.i64 x3, Value.int IntKind.i64 x4, Value.int IntKind.i64
    x5, Value.int IntKind.i64 x6]) ∧ RowKit.Below w4.heap.size w4 w5 ∧ ∀ (w6 : World), RowKit.Below w.heap.size w w6 → KeptIn [(0, w.heap.size), (w4.heap.size, w5.heap.size)] [m3,
    m2, m1] w5 w6 → Calls Try.prog 29 #[Value.agg #[Value.int IntKind.i64 x1, Value.int IntKind.i64 x2, Value.slice a1 m5 m6, Value.int IntKind.i64 x3, Value.int IntKind.i64 x4,
    Value.int IntKind.i64 x5, Value.int IntKind.i64 x6], Value.agg #[Value.int IntKind.i64 p1from0, Value.int IntKind.i64 p1from1, Value.int IntKind.i64 p1from2, Value.int
    IntKind.i64 p1from3, Value.int IntKind.i64 p1from4, Value.int IntKind.i64 p1from5, Value.int IntKind.i64 p1from6, Value.int IntKind.i64 p1from7], Value.agg #[Value.int
    IntKind.i64 p2to0, Value.int IntKind.i64 p2to1, Value.int IntKind.i64 p2to2, Value.int IntKind.i64 p2to3, Value.int IntKind.i64 p2to4, Value.int IntKind.i64 p2to5, Value.int
    IntKind.i64 p2to6, Value.int IntKind.i64 p2to7]] w6 fun (e3 : Ending) (w7 : World) => ∃ (x7 : Int), ∃ (x8 : Int), ∃ (x9 : Int), e3 = Ending.returned (Value.tuple #[Value.agg
    #[Value.int IntKind.i64 x7, Value.int IntKind.i64 x8], Value.int IntKind.i64 x9]) ∧ RowKit.Below w6.heap.size w6 w7 ∧ ∀ (m7 : Nat), w.heap.size ≤ m7 → m7 < w6.heap.size ∨
    w7.heap.size ≤ m7 → m7 < w4.heap.size ∨ w5.heap.size ≤ m7 → ∀ (w8 : World), RowKit.Below w.heap.size w w8 → Kept [m7, m3, m2, m1] w7 w8 → Calls Try.prog 15 #[Value.agg
    #[Value.int IntKind.i64 c0, Value.int IntKind.i64 c1, Value.slice c2a c2n c2c, Value.int IntKind.i64 c3, Value.int IntKind.i64 c4, Value.int IntKind.i64 c5, Value.int
    IntKind.i64 c6]] w8 fun (e4 : Ending) (w9 : World) => ∃ (x10 : Int), e4 = Ending.returned (Value.int IntKind.i64 x10) ∧ KeepX true w.heap.size [m7, m3, m2, m1] (fun _ => False)
    w8 w9 ∧ ∃ (F1 : List Lf → World → Prop), ((x10 = 0 → ∀ (w11 : World), RowKit.Below w.heap.size w w11 → Kept [m7, m3, m2, m1] w9 w11 → Calls Try.prog 24 #[Value.agg #[Value.int
    IntKind.i64 p1from0, Value.int IntKind.i64 p1from1, Value.int IntKind.i64 p1from2, Value.int IntKind.i64 p1from3, Value.int IntKind.i64 p1from4, Value.int IntKind.i64 p1from5,
    Value.int IntKind.i64 p1from6, Value.int IntKind.i64 p1from7]] w11 fun (e5 : Ending) (w12 : World) => ∃ (t2 : Bool), e5 = Ending.returned (Value.bool t2) ∧ KeepX true
    w.heap.size [m7, m3, m2, m1] (fun _ => False) w11 w12 ∧ ((!t2) = true → ∀ (w13 : World), RowKit.Below w.heap.size w w13 → Kept [m7, m3, m2, m1] w12 w13 → F1 [Lf.bool true] w13)
    ∧ ((!t2) = false → ∀ (w14 : World), RowKit.Below w.heap.size w w14 → Kept [m7, m3, m2, m1] w12 w14 → Calls Try.prog 24 #[Value.agg #[Value.int IntKind.i64 p2to0, Value.int
    IntKind.i64 p2to1, Value.int IntKind.i64 p2to2, Value.int IntKind.i64 p2to3, Value.int IntKind.i64 p2to4, Value.int IntKind.i64 p2to5, Value.int IntKind.i64 p2to6, Value.int
    IntKind.i64 p2to7]] w14 fun (e6 : Ending) (w15 : World) => ∃ (t3 : Bool), e6 = Ending.returned (Value.bool t3) ∧ KeepX true w.heap.size [m7, m3, m2, m1] (fun _ => False) w14
    w15 ∧ ∀ (w16 : World), RowKit.Below w.heap.size w w16 → Kept [m7, m3, m2, m1] w15 w16 → F1 [Lf.bool !t3] w16)) ∧ (x10 ≠ 0 → ∀ (w17 : World), RowKit.Below w.heap.size w w17 →
    Kept [m7, m3, m2, m1] w9 w17 → F1 [Lf.bool false] w17)) ∧ ∀ (t4 : Bool) (w18 : World), RowKit.Below w.heap.size w w18 → F1 [Lf.bool t4] w18 → ∃ (F2 : List Lf → World → Prop),
    ((t4 = true → ∀ (w20 : World), RowKit.Below w.heap.size w w20 → Kept [m7, m3, m2, m1] w18 w20 → F2 [Lf.int IntKind.i64 2] w20) ∧ (t4 = false → ∀ (w21 : World), RowKit.Below
    w.heap.size w w21 → Kept [m7, m3, m2, m1] w18 w21 → F2 [Lf.int IntKind.i64 x10] w21)) ∧ ∀ (x11 : Int) (w22 : World), RowKit.Below w.heap.size w w22 → F2 [Lf.int IntKind.i64
    x11] w22 → (x11 ≠ 0 → ∃ (F3 : List Lf → World → Prop), ((x9 = x11 → ∀ (w24 : World), RowKit.Below w.heap.size w w24 → Kept [m7, m3, m2, m1] w22 w24 → RunsTo Try.prog ((eqGuard
    BinOp.eql 25 (Operand.tmp 45) (Operand.tmp 46) (Value.agg #[Value.int IntKind.i64 x7, Value.int IntKind.i64 x8]) (Value.agg #[Value.int IntKind.i64 0, Value.int IntKind.i64
    0])) >>= fun _ => binOp BinOp.eql 25 (Value.agg #[Value.int IntKind.i64 x7, Value.int IntKind.i64 x8]) (Value.agg #[Value.int IntKind.i64 0, Value.int IntKind.i64 0])) w24 fun
    (v1 : Value) (w25 : World) => ∃ (t5 : Bool), v1 = Value.bool t5 ∧ KeepX true w.heap.size [m7, m3, m2, m1] (fun _ => False) w24 w25 ∧ (t5 = true → ∀ (w26 : World), RowKit.Below
    w.heap.size w w26 → Kept [m7, m3, m2, m1] w25 w26 → Calls Try.prog 12 #[] w26 fun (e7 : Ending) (w27 : World) => ∃ (t6 : Bool), e7 = Ending.returned (Value.bool t6) ∧ KeepX
    true w.heap.size [m7, m3, m2, m1] (fun _ => False) w26 w27 ∧ ∀ (w28 : World), RowKit.Below w.heap.size w w28 → Kept [m7, m3, m2, m1] w27 w28 → F3 [Lf.bool t6] w28) ∧ (t5 =
    false → ∀ (w29 : World), RowKit.Below w.heap.size w w29 → Kept [m7, m3, m2, m1] w25 w29 → F3 [Lf.bool false] w29)) ∧ (x9 ≠ x11 → ∀ (w30 : World), RowKit.Below w.heap.size w w30
    → Kept [m7, m3, m2, m1] w22 w30 → F3 [Lf.bool false] w30)) ∧ ∀ (t7 : Bool) (w31 : World), RowKit.Below w.heap.size w w31 → F3 [Lf.bool t7] w31 → ∀ (w32 : World), RowKit.Below
    w.heap.size w w32 → Kept [m7, m3, m2, m1] w31 w32 → R (Ending.returned (Value.bool t7)) w32) ∧ (x11 = 0 → ∀ (w33 : World), RowKit.Below w.heap.size w w33 → KeptIn [(0,
    w22.heap.size)] [m7, m3, m2, m1] w22 w33 → Calls Try.prog 30 #[Value.agg #[Value.int IntKind.i64 c0, Value.int IntKind.i64 c1, Value.slice c2a c2n c2c, Value.int IntKind.i64
    c3, Value.int IntKind.i64 c4, Value.int IntKind.i64 c5, Value.int IntKind.i64 c6], Value.agg #[Value.int IntKind.i64 p1from0, Value.int IntKind.i64 p1from1, Value.int
    IntKind.i64 p1from2, Value.int IntKind.i64 p1from3, Value.int IntKind.i64 p1from4, Value.int IntKind.i64 p1from5, Value.int IntKind.i64 p1from6, Value.int IntKind.i64 p1from7],
    Value.agg #[Value.int IntKind.i64 p2to0, Value.int IntKind.i64 p2to1, Value.int IntKind.i64 p2to2, Value.int IntKind.i64 p2to3, Value.int IntKind.i64 p2to4, Value.int
    IntKind.i64 p2to5, Value.int IntKind.i64 p2to6, Value.int IntKind.i64 p2to7]] w33 fun (e8 : Ending) (w34 : World) => ∃ (x12 : Int), ∃ (x13 : Int), e8 = Ending.returned
    (Value.agg #[Value.int IntKind.i64 x12, Value.int IntKind.i64 x13]) ∧ RowKit.Below w33.heap.size w33 w34 ∧ ∀ (w35 : World), RowKit.Below w.heap.size w w35 → KeptIn [(0,
    w22.heap.size), (w33.heap.size, w34.heap.size)] [m7, m3, m2, m1] w34 w35 → Calls Try.prog 21 #[Value.agg #[Value.int IntKind.i64 c0, Value.int IntKind.i64 c1, Value.slice c2a
    c2n c2c, Value.int IntKind.i64 c3, Value.int IntKind.i64 c4, Value.int IntKind.i64 c5, Value.int IntKind.i64 c6]] w35 fun (e9 : Ending) (w36 : World) => ∃ (x14 : Int), e9 =
    Ending.returned (Value.int IntKind.i64 x14) ∧ RowKit.Below w35.heap.size w35 w36 ∧ ∀ (m13 : Nat), w22.heap.size ≤ m13 → m13 < w35.heap.size ∨ w36.heap.size ≤ m13 → m13 <
    w33.heap.size ∨ w34.heap.size ≤ m13 → ((-9223372036854775808 : Int) ≤ 10000 * x14 ∧ 10000 * x14 ≤ 9223372036854775807) ∧ (x9 = 0 → ∀ (w37 : World), RowKit.Below w.heap.size w
    w37 → KeptIn [(0, w36.heap.size)] [m13, m7, m3, m2, m1] w36 w37 → Calls Try.prog 27 #[Value.int IntKind.i64 x12, Value.int IntKind.i64 (10000 * x14)] w37 fun (e10 : Ending)
    (w38 : World) => ∃ (x15 : Int), e10 = Ending.returned (Value.int IntKind.i64 x15) ∧ KeepX true w.heap.size [m13, m7, m3, m2, m1] (fun _ => False) w37 w38 ∧ ∀ (w39 : World),
    RowKit.Below w.heap.size w w39 → KeptIn [(0, w38.heap.size)] [m13, m7, m3, m2, m1] w38 w39 → Calls Try.prog 28 #[Value.int IntKind.i64 x13, Value.int IntKind.i64 (10000 * x14)]
    w39 fun (e11 : Ending) (w40 : World) => ∃ (x16 : Int), e11 = Ending.returned (Value.int IntKind.i64 x16) ∧ KeepX true w.heap.size [m13, m7, m3, m2, m1] (fun _ => False) w39 w40
    ∧ ∀ (w41 : World), RowKit.Below w.heap.size w w41 → KeptIn [(0, w40.heap.size)] [m13, m7, m3, m2, m1] w40 w41 → RunsTo Try.prog ((eqGuard BinOp.eql 25 (Operand.tmp 62)
    (Operand.tmp 71) (Value.agg #[Value.int IntKind.i64 x7, Value.int IntKind.i64 x8]) (Value.agg #[Value.int IntKind.i64 x15, Value.int IntKind.i64 x16])) >>= fun _ => binOp
    BinOp.eql 25 (Value.agg #[Value.int IntKind.i64 x7, Value.int IntKind.i64 x8]) (Value.agg #[Value.int IntKind.i64 x15, Value.int IntKind.i64 x16])) w41 fun (v2 : Value) (w42 :
    World) => ∃ (t8 : Bool), v2 = Value.bool t8 ∧ KeepX true w.heap.size [m13, m7, m3, m2, m1] (fun _ => False) w41 w42 ∧ (t8 = true → ∀ (w43 : World), RowKit.Below w.heap.size w
    w43 → KeptIn [(0, w42.heap.size)] [m13, m7, m3, m2, m1] w42 w43 → Calls Try.prog 12 #[] w43 fun (e12 : Ending) (w44 : World) => ∃ (t9 : Bool), e12 = Ending.returned (Value.bool
    t9) ∧ KeepX true w.heap.size [m13, m7, m3, m2, m1] (fun _ => False) w43 w44 ∧ ∀ (w45 : World), RowKit.Below w.heap.size w w45 → Kept [m13, m7, m3, m2, m1] w44 w45 → R
    (Ending.returned (Value.bool t9)) w45) ∧ (t8 = false → ∀ (w46 : World), RowKit.Below w.heap.size w w46 → Kept [m13, m7, m3, m2, m1] w42 w46 → R (Ending.returned (Value.bool
    false)) w46)) ∧ (x9 ≠ 0 → ∀ (w47 : World), RowKit.Below w.heap.size w w47 → Kept [m13, m7, m3, m2, m1] w36 w47 → R (Ending.returned (Value.bool false)) w47)))) : Calls Try.prog
    5 #[Value.agg #[Value.int IntKind.i64 c0, Value.int IntKind.i64 c1, Value.slice c2a c2n c2c, Value.int IntKind.i64 c3, Value.int IntKind.i64 c4, Value.int IntKind.i64 c5,
    Value.int IntKind.i64 c6], Value.agg #[Value.int IntKind.i64 p1from0, Value.int IntKind.i64 p1from1, Value.int IntKind.i64 p1from2, Value.int IntKind.i64 p1from3, Value.int
    IntKind.i64 p1from4, Value.int IntKind.i64 p1from5, Value.int IntKind.i64 p1from6, Value.int IntKind.i64 p1from7], Value.agg #[Value.int IntKind.i64 p2to0, Value.int
    IntKind.i64 p2to1, Value.int IntKind.i64 p2to2, Value.int IntKind.i64 p2to3, Value.int IntKind.i64 p2to4, Value.int IntKind.i64 p2to5, Value.int IntKind.i64 p2to6, Value.int
    IntKind.i64 p2to7]] w R := calls_of_vcj (pure := true) (wrapAt := []) (muts := []) (esc := []) (joins := [(2000005, [(38, 4)]), (38, [(9, 35)]), (2000008, [(6, 4)])]) (args :=
    [SV.pv (PV.agg [Lf.int IntKind.i64 c0, Lf.int IntKind.i64 c1, Lf.sl c2a c2n c2c, Lf.int IntKind.i64 c3, Lf.int IntKind.i64 c4, Lf.int IntKind.i64 c5, Lf.int IntKind.i64 c6]),
    SV.pv (PV.agg [Lf.int IntKind.i64 p1from0, Lf.int IntKind.i64 p1from1, Lf.int IntKind.i64 p1from2, Lf.int IntKind.i64 p1from3, Lf.int IntKind.i64 p1from4, Lf.int IntKind.i64
    p1from5, Lf.int IntKind.i64 p1from6, Lf.int IntKind.i64 p1from7]), SV.pv (PV.agg [Lf.int IntKind.i64 p2to0, Lf.int IntKind.i64 p2to1, Lf.int IntKind.i64 p2to2, Lf.int
    IntKind.i64 p2to3, Lf.int IntKind.i64 p2to4, Lf.int IntKind.i64 p2to5, Lf.int IntKind.i64 p2to6, Lf.int IntKind.i64 p2to7])]) (vs := [Value.agg #[Value.int IntKind.i64 c0,
    Value.int IntKind.i64 c1, Value.slice c2a c2n c2c, Value.int IntKind.i64 c3, Value.int IntKind.i64 c4, Value.int IntKind.i64 c5, Value.int IntKind.i64 c6], Value.agg
    #[Value.int IntKind.i64 p1from0, Value.int IntKind.i64 p1from1, Value.int IntKind.i64 p1from2, Value.int IntKind.i64 p1from3, Value.int IntKind.i64 p1from4, Value.int
    IntKind.i64 p1from5, Value.int IntKind.i64 p1from6, Value.int IntKind.i64 p1from7], Value.agg #[Value.int IntKind.i64 p2to0, Value.int IntKind.i64 p2to1, Value.int IntKind.i64
    p2to2, Value.int IntKind.i64 p2to3, Value.int IntKind.i64 p2to4, Value.int IntKind.i64 p2to5, Value.int IntKind.i64 p2to6, Value.int IntKind.i64 p2to7]]) Try.func5 rfl rfl rfl
    (Eq.mp (by kernel_rfl) h) 
end Go.Proofs
end
section
/- Plain: the ends of a change are changes of corners. -/
namespace Go.Proofs.R03
open Go.Vc Go.RowKit Go.Proofs

/-- A corner: which end of each span is taken. -/
def cornF (L : Int) (S A D : Sp) (b t : Bn) (e : Nat → Bool) : Int :=
  10000 * L * (pick (e 1) A * (pick (e 5) t.press - pick (e 6) b.press) + pick (e 2) D * (pick (e 9) t.force - pick (e 10) b.force)) - 432 * pick (e 0) S * (pick (e 3) t.heat - pick (e 4) b.heat) - 4570 * L * (pick (e 7) t.arc * pick (e 7) t.arc - pick (e 8) b.arc * pick (e 8) b.arc)
theorem corn_eq (L a p d f s h t u : Int) : (0 + a * p + d * f) * (10000 * L) - s * h * 432 - t * t * (4570 * L) + u * u * (4570 * L) = 10000 * L * (a * p + d * f) - 432 * s * h - 4570 * L * (t * t - u * u) := by
  rw [Int.zero_add, Int.mul_comm (a * p + d * f), Int.mul_comm (s * h) 432, ← Int.mul_assoc 432, Int.mul_comm (t * t), Int.mul_comm (u * u), Int.mul_sub (4570 * L)]
  omega
theorem by_one (x y : Int) : byS (x, x) (y, y) = (x * y, x * y) := by unfold byS; simp only; congr 1 <;> omega
theorem less_one (x y : Int) : lessS (x, x) (y, y) = (x - y, x - y) := less_eq (Int.le_refl _)
theorem plus_one (x y : Int) : plusS (x, x) (y, y) = (x + y, x + y) := rfl

theorem corn_mem {c : Clk} {b t : Bn} (hk : check c = 0) (hb : OkB b) (ht : OkB t) (e : Nat → Bool) :
    (chgS c b t).1 ≤ cornF (lenC c.rods) (sumK (chgK c b t)) c.air c.drive b t e ∧ cornF (lenC c.rods) (sumK (chgK c b t)) c.air c.drive b t e ≤ (chgS c b t).2 := by
  obtain ⟨h8, hne, hrod, hlen, hbase, hair, hdr⟩ := check_len hk
  obtain ⟨b1, b2, b3, b4⟩ := hb
  obtain ⟨t1, t2, t3, t4⟩ := ht
  unfold driveOk at hdr
  simp only [okS] at *
  have one : ∀ {s : Sp} (i : Bool), s.1 ≤ s.2 → Sub (pick i s, pick i s) s := fun i h => Sub.one (pick_in h i)
  have hS : (sumK (chgK c b t)).1 ≤ (sumK (chgK c b t)).2 := sumN_le _
  have zero : Sub ((0 : Int), (0 : Int)) (0, 0) := Sub.refl (Int.le_refl _)
  have rf : ∀ x : Int, Sub (x, x) (x, x) := fun x => Sub.refl (Int.le_refl _)
  have hP := (one (e 5) (s := t.press) (by omega)).less (one (e 6) (s := b.press) (by omega))
  have hF := (one (e 9) (s := t.force) (by omega)).less (one (e 10) (s := b.force) (by omega))
  have hH := (one (e 3) (s := t.heat) (by omega)).less (one (e 4) (s := b.heat) (by omega))
  have hX := (((rf 0).plus ((one (e 1) (s := c.air) (by omega)).by hP)).plus ((one (e 2) (s := c.drive) (by omega)).by hF)).by (rf (10000 * lenC c.rods))
  have hY := ((one (e 0) hS).by hH).by (rf 432)
  have hT := ((one (e 7) (s := t.arc) (by omega)).sq (by omega)).by (rf (4570 * lenC c.rods))
  have hU := ((one (e 8) (s := b.arc) (by omega)).sq (by omega)).by (rf (4570 * lenC c.rods))
  have h := ((hX.less hY).less hT).plus hU
  simp only [sq_one, by_one, less_one, plus_one, corn_eq] at h
  exact ⟨h.1, h.2.2⟩

theorem corn_end {c : Clk} {b t : Bn} (hk : check c = 0) (hb : OkB b) (ht : OkB t) (p : Bool) : ∃ e : Nat → Bool, cornF (lenC c.rods) (sumK (chgK c b t)) c.air c.drive b t e = pick p (chgS c b t) := by
  obtain ⟨h8, hne, hrod, hlen, hbase, hair, hdr⟩ := check_len hk
  obtain ⟨b1, b2, b3, b4⟩ := hb
  obtain ⟨t1, t2, t3, t4⟩ := ht
  simp only [okS] at *
  obtain ⟨i1, i2, e1⟩ := by_end p c.air (lessS t.press b.press)
  obtain ⟨i3, i4, e2⟩ := by_end p c.drive (lessS t.force b.force)
  obtain ⟨i5, i6, e3⟩ := by_end (!p) (sumK (chgK c b t)) (lessS t.heat b.heat)
  have ha : ∀ {s : Sp}, 0 ≤ s.1 → s.1 ≤ s.2 → (sqS s).1 ≤ (sqS s).2 := fun {s} h0 h => ((Sub.refl h).sq h0).ok
  have hL : 0 ≤ 10000 * lenC c.rods := by omega
  have hL2 : 0 ≤ 4570 * lenC c.rods := by omega
  have hX : (plusS (plusS (0, 0) (byS c.air (lessS t.press b.press))) (byS c.drive (lessS t.force b.force))).1 ≤ (plusS (plusS (0, 0) (byS c.air (lessS t.press b.press))) (byS c.drive (lessS t.force b.force))).2 := by
    have := by_le c.air (lessS t.press b.press); have := by_le c.drive (lessS t.force b.force)
    unfold plusS; simp only; omega
  refine ⟨fun j => match j with | 0 => i5 | 1 => i1 | 2 => i3 | 3 => i6 | 4 => !i6 | 5 => i2 | 6 => !i2 | 7 => !p | 8 => p | 9 => i4 | _ => !i4, ?_⟩
  have hc : chgS c b t = plusS (lessS (lessS (byS (plusS (plusS (0, 0) (byS c.air (lessS t.press b.press))) (byS c.drive (lessS t.force b.force))) (10000 * lenC c.rods, 10000 * lenC c.rods)) (byS (byS (sumK (chgK c b t)) (lessS t.heat b.heat)) (432, 432))) (byS (sqS t.arc) (4570 * lenC c.rods, 4570 * lenC c.rods))) (byS (sqS b.arc) (4570 * lenC c.rods, 4570 * lenC c.rods)) := rfl
  rw [hc, pick_plus, pick_less p (by_le _ _), pick_less p (by_le _ _), pick_scale p hX hL, pick_scale (!p) (by_le _ _) (by decide), pick_scale (!p) (ha (by omega) (by omega)) hL2, pick_scale p (ha (by omega) (by omega)) hL2, pick_plus, pick_plus, e1, e2, e3, pick_sq, pick_sq, pick_less i2 (by omega), pick_less i4 (by omega), pick_less i6 (by omega)]
  have hz : pick p ((0 : Int), (0 : Int)) = 0 := by cases p <;> rfl
  rw [hz, corn_eq]
  rfl
end Go.Proofs.R03
end
section
/- The reference's Change. -/
namespace Go.Proofs.R03
open Go.Vc Go.RowKit Go.Proofs

theorem rpair_any (s : Sp) (w : World) : Calls Try.prog 69 #[spv s] w (Pure w (spv s)) := by
  refine vc69 _ _ w _ fun m1 h1 m2 h2 w1 hb1 _ => ⟨rfl, hb1⟩
/-- A bit of a number of a corner. -/
def bitV (k : Int) (j : Nat) : Int := ((k.toNat / 2 ^ j % 2 : Nat) : Int)
def bitE (k : Int) (j : Nat) : Bool := decide (k.toNat / 2 ^ j % 2 = 0)
/-- The first i bits. -/
def arrV (k : Int) (i : Nat) : List Value := (List.range 11).map fun j => if j < i then I (bitV k j) else I 0
theorem arr_step (k : Int) {i : Nat} (hi : i < 11) : (arrV k i).take i ++ [I (bitV k i)] ++ (arrV k i).drop (i + 1) = arrV k (i + 1) := by
  have : i = 0 ∨ i = 1 ∨ i = 2 ∨ i = 3 ∨ i = 4 ∨ i = 5 ∨ i = 6 ∨ i = 7 ∨ i = 8 ∨ i = 9 ∨ i = 10 := by omega
  rcases this with rfl | rfl | rfl | rfl | rfl | rfl | rfl | rfl | rfl | rfl | rfl <;> rfl
theorem nth_pick (s : Sp) (k : Int) (j : Nat) : nthI [s.1, s.2] (bitV k j) = pick (bitE k j) s := by
  unfold bitV bitE
  have : k.toNat / 2 ^ j % 2 = 0 ∨ k.toNat / 2 ^ j % 2 = 1 := by omega
  rcases this with h | h <;> rw [h] <;> rfl
theorem bitV_bd (k : Int) (j : Nat) : 0 ≤ bitV k j ∧ bitV k j < 2 := by unfold bitV; omega
/-- Every choice of ends has a number. -/
theorem bit_all (e : Nat → Bool) : ∀ n : Nat, ∃ k : Nat, k < 2 ^ n ∧ ∀ j, j < n → decide (k / 2 ^ j % 2 = 0) = e j
  | 0 => ⟨0, by decide, fun j h => by omega⟩
  | n + 1 => by
    obtain ⟨k, h1, h2⟩ := bit_all e n
    cases he : e n with
    | true =>
      refine ⟨k, by rw [Nat.pow_succ]; omega, fun j hj => ?_⟩
      by_cases h : j = n
      · subst h; rw [he, Nat.div_eq_of_lt h1]; rfl
      · exact h2 j (by omega)
    | false =>
      refine ⟨k + 2 ^ n, by rw [Nat.pow_succ]; omega, fun j hj => ?_⟩
      by_cases h : j = n
      · subst h
        rw [he, Nat.add_div_right _ (Nat.two_pow_pos _), Nat.div_eq_of_lt h1]; rfl
      · rw [← h2 j (by omega)]
        have e1 : 2 ^ n = 2 ^ j * (2 * 2 ^ (n - j - 1)) := by rw [← Nat.pow_succ', ← Nat.pow_add]; congr 1; omega
        rw [e1, Nat.add_mul_div_left _ _ (Nat.two_pow_pos _), Nat.add_mul_mod_self_left]
end Go.Proofs.R03
end
section
/- The reference's Change: the walk. -/
namespace Go.Proofs.R03
open Go.Vc Go.RowKit Go.Proofs

def cornK (c : Clk) (b t : Bn) (k : Int) : Int := cornF (lenC c.rods) (sumK (chgK c b t)) c.air c.drive b t (bitE k)
/-- The least and the greatest of the corners below k. -/
def MinMax (f : Int → Int) (k lo hi : Int) : Prop := (∀ j, 0 ≤ j → j < k → lo ≤ f j ∧ f j ≤ hi) ∧ (∃ j, 0 ≤ j ∧ j < k ∧ lo = f j) ∧ ∃ j, 0 ≤ j ∧ j < k ∧ hi = f j
theorem MinMax.one (f : Int → Int) : MinMax f 1 (f 0) (f 0) := ⟨fun j h1 h2 => by rw [show j = 0 by omega]; omega, ⟨0, by decide, by decide, rfl⟩, ⟨0, by decide, by decide, rfl⟩⟩
theorem MinMax.next {f : Int → Int} {k lo hi : Int} (h : MinMax f k lo hi) (hk : 0 ≤ k) : MinMax f (k + 1) (min lo (f k)) (max hi (f k)) := by
  obtain ⟨h1, ⟨j, a1, a2, a3⟩, ⟨i, b1, b2, b3⟩⟩ := h
  refine ⟨fun m m1 m2 => ?_, ?_, ?_⟩
  · by_cases e : m = k
    · subst e; omega
    · have := h1 m m1 (by omega); omega
  · by_cases e : lo ≤ f k
    · exact ⟨j, a1, by omega, by omega⟩
    · exact ⟨k, hk, by omega, by omega⟩
  · by_cases e : f k ≤ hi
    · exact ⟨i, b1, by omega, by omega⟩
    · exact ⟨k, hk, by omega, by omega⟩
theorem minmax_all {c : Clk} {b t : Bn} (hk : check c = 0) (hb : OkB b) (ht : OkB t) {lo hi : Int} (h : MinMax (cornK c b t) 2048 lo hi) : (lo, hi) = chgS c b t := by
  obtain ⟨h1, ⟨j, a1, a2, a3⟩, ⟨i, b1, b2, b3⟩⟩ := h
  have hx : ∀ p : Bool, ∃ k : Int, 0 ≤ k ∧ k < 2048 ∧ cornK c b t k = pick p (chgS c b t) := fun p => by
    obtain ⟨e, he⟩ := corn_end hk hb ht p
    obtain ⟨k, k1, k2⟩ := bit_all e 11
    refine ⟨(k : Int), by omega, by have : (2 : Nat) ^ 11 = 2048 := rfl; omega, ?_⟩
    rw [← he]
    have g : ∀ j, j < 11 → bitE (k : Int) j = e j := fun j hj => by rw [← k2 j hj]; rfl
    unfold cornK cornF
    rw [g 0 (by decide), g 1 (by decide), g 2 (by decide), g 3 (by decide), g 4 (by decide), g 5 (by decide), g 6 (by decide), g 7 (by decide), g 8 (by decide), g 9 (by decide), g 10 (by decide)]
  obtain ⟨k1, p1, p2, p3⟩ := hx true
  obtain ⟨k2, q1, q2, q3⟩ := hx false
  have u1 := h1 k1 p1 p2
  have u2 := h1 k2 q1 q2
  have m1 := corn_mem hk hb ht (bitE j)
  have m2 := corn_mem hk hb ht (bitE i)
  rw [p3] at u1; rw [q3] at u2
  simp only [pick] at u1 u2
  have a3' : lo = cornF (lenC c.rods) (sumK (chgK c b t)) c.air c.drive b t (bitE j) := a3
  have b3' : hi = cornF (lenC c.rods) (sumK (chgK c b t)) c.air c.drive b t (bitE i) := b3
  rw [← a3'] at m1; rw [← b3'] at m2
  apply Prod.ext <;> simp only <;> omega

structure CornBd (L A P D F S H u v : Int) : Prop where
  a1 : -9223372036854775808 ≤ A * P ∧ A * P ≤ 9223372036854775807
  a2 : -9223372036854775808 ≤ D * F ∧ D * F ≤ 9223372036854775807
  a3 : -9223372036854775808 ≤ A * P + D * F ∧ A * P + D * F ≤ 9223372036854775807
  a4 : -9223372036854775808 ≤ 10000 * L * (A * P + D * F) ∧ 10000 * L * (A * P + D * F) ≤ 9223372036854775807
  a5 : -9223372036854775808 ≤ 432 * S ∧ 432 * S ≤ 9223372036854775807
  a6 : -9223372036854775808 ≤ 432 * S * H ∧ 432 * S * H ≤ 9223372036854775807
  a7 : -9223372036854775808 ≤ 10000 * L * (A * P + D * F) - 432 * S * H ∧ 10000 * L * (A * P + D * F) - 432 * S * H ≤ 9223372036854775807
  b1 : -9223372036854775808 ≤ 4570 * L ∧ 4570 * L ≤ 9223372036854775807
  b2 : -9223372036854775808 ≤ u * u ∧ u * u ≤ 9223372036854775807
  b3 : -9223372036854775808 ≤ v * v ∧ v * v ≤ 9223372036854775807
  b4 : -9223372036854775808 ≤ u * u - v * v ∧ u * u - v * v ≤ 9223372036854775807
  b5 : -9223372036854775808 ≤ 4570 * L * (u * u - v * v) ∧ 4570 * L * (u * u - v * v) ≤ 9223372036854775807
  b6 : -9223372036854775808 ≤ 10000 * L * (A * P + D * F) - 432 * S * H - 4570 * L * (u * u - v * v) ∧ 10000 * L * (A * P + D * F) - 432 * S * H - 4570 * L * (u * u - v * v) ≤ 9223372036854775807
theorem corn_bd {L A P D F S H u v : Int} (hL : 0 ≤ L ∧ L ≤ 100000) (hA : -100 ≤ A ∧ A ≤ 100) (hP : -2000 ≤ P ∧ P ≤ 2000) (hD : -1000 ≤ D ∧ D ≤ 1000) (hF : -200 ≤ F ∧ F ≤ 200) (hS : -32000000000 ≤ S ∧ S ≤ 32000000000) (hH : -2000 ≤ H ∧ H ≤ 2000) (hu : 0 ≤ u ∧ u ≤ 600) (hv : 0 ≤ v ∧ v ≤ 600) : CornBd L A P D F S H u v := by
  have a1 := mul_bd hA hP
  have a2 := mul_bd hD hF
  have a4 := mul_bd (a := 10000 * L) (A := 1000000000) (b := A * P + D * F) (B := 400000) (by omega) (by omega)
  have a6 := mul_bd (a := 432 * S) (A := 13824000000000) (by omega) hH
  have b2 := mul_bd (a := u) (A := 600) (b := u) (B := 600) (by omega) (by omega)
  have b3 := mul_bd (a := v) (A := 600) (b := v) (B := 600) (by omega) (by omega)
  have b5 := mul_bd (a := 4570 * L) (A := 457000000) (b := u * u - v * v) (B := 720000) (by omega) (by omega)
  exact ⟨by omega, by omega, by omega, by omega, by omega, by omega, by omega, by omega, by omega, by omega, by omega, by omega, by omega⟩

set_option maxHeartbeats 4000000 in
theorem rchange_any {c : Clk} {b t : Bn} (hk : check c = 0) (hb : OkB b) (ht : OkB t) {ra : Option Addr} {rc : Nat} {w : World} (hc : Cells w ra (rods c.rods)) : Calls Try.prog 30 #[c.v ra rc, b.v, t.v] w (Pure w (spv (chgS c b t))) := by
  have hmm := @minmax_all c b t hk hb ht
  obtain ⟨h8, hne, hrod, hlen, hbase, hair, hdr⟩ := check_len hk
  have hlens : ∀ r ∈ c.rods, 1 ≤ r.len ∧ r.len ≤ 100000 := fun r hr => (hrod r hr).1
  have hgr : ∀ r ∈ c.rods, (-40000 ≤ r.lo ∧ r.lo ≤ 40000) ∧ (-40000 ≤ r.hi ∧ r.hi ≤ 40000) := fun r hr => by have := (hrod r hr).2; unfold okS at this; omega
  have hS : sumK (chgK c b t) = (sumF loC c.rods, sumF hiC c.rods) := sumK_new (b := b) fun r hr => by have h1 := hrod r hr; unfold okS at h1; omega
  refine vc30 _ _ _ _ _ _ _ _ _ _ _ _ _ _ _ _ _ _ _ _ _ _ _ _ _ w _ fun m1 h1 m2 h2 m3 h3 m4 h4 w1 hb1 hk1 => ?_
  refine Pure.calls (rlength_any c (hc.keep hb1) (by omega) hlens) fun w2 hb2 => ⟨_, rfl, .all hb2, by omega, fun m6 h6 w3 hb3 hk3 => ?_⟩
  refine Pure.calls (rsums_any c (hc.keep hb3) (by omega) hlens hgr) fun w4 hb4 => ⟨_, _, rfl, .all hb4, fun m8 h8' => ?_⟩
  refine ⟨fun ls _ => match ls with | [.bool s, .int _ k, .int _ lo, .int _ hi] => 0 ≤ k ∧ k ≤ 2048 ∧ s = decide (0 < k) ∧ (0 < k → MinMax (cornK c b t) k lo hi) | _ => False, fun ls => match ls with | [_, .int _ k, _, _] => (2048 - k).toNat | _ => 0, fun w6 hb6 hk6 => ⟨by omega, by omega, rfl, fun h => absurd h (by decide)⟩, ?_⟩
  rintro s k lo hi w7 hb7 ⟨k0, k1, rfl, hM⟩
  refine ⟨fun hlt w8 hb8 hk8 m9 w9 e9 ew9 w10 hb10 hk10 => ?_, fun hge w44 hb44 hk44 => ⟨by have := hmm (by have := hM (by omega); rw [show k = 2048 by omega] at this; exact this); rw [← this], hb44⟩⟩
  subst e9
  have hh9 : w9.heap[w8.heap.size]? = some (.cells (arrV k 0).toArray 120 (0, 0)) := by rw [ew9]; exact alloc_here'
  have own8 := hk8.own
  have nM : w8.heap.size ∉ [m8, m6, m4, m3, m2, m1] := fun hm => by have := own8 _ hm; omega
  have z9 : w9.heap.size = w8.heap.size + 1 := by rw [ew9]; exact Array.size_push ..
  have hh10 : w10.heap[w8.heap.size]? = some (.cells (arrV k 0).toArray 120 (0, 0)) := by rw [hk10.block _ (by omega) nM]; exact hh9
  have o10 := hk10.own
  refine obj_store (cs := arrV k 0) (vs := arrV k 0) hh10 (by kernel_rfl) (by kernel_rfl) (Nat.le_refl _) rfl (fun u hu => by simp only [arrV, List.mem_map] at hu; obtain ⟨j, _, rfl⟩ := hu; split <;> trivial) fun w11 hh11 c11 => ?_
  have hh11' : w11.heap[w8.heap.size]? = some (.cells (arrV k 0).toArray 120 (0, 0)) := hh11
  have z8 := hb8.size
  have z11 := c11.size; have z10 := hk10.size
  refine ⟨c11.own (fun x hx => ⟨o10 x hx, fun h => by rw [List.mem_singleton.1 h] at hx; exact nM hx⟩) (by simp) (fun _ => ⟨by omega, fun x hx => by rw [List.mem_singleton.1 hx]; have := hb8.size; omega⟩), ?_⟩
  refine ⟨fun ls u => match ls with | [.int _ i, .int _ x, .int _ y] => 0 ≤ i ∧ i ≤ 11 ∧ x = lo ∧ y = hi ∧ w11.heap.size ≤ u.heap.size ∧ u.heap[w8.heap.size]? = some (.cells (arrV k i.toNat).toArray 120 (0, 0)) | _ => False, fun ls => match ls with | [.int _ i, _, _] => (11 - i).toNat | _ => 0, fun w13 hb13 hk13 => ⟨by omega, by omega, rfl, rfl, hk13.size, ?_⟩, ?_⟩
  · rw [hk13.block _ (by omega) nM]; exact hh11'
  rintro i x y w14 hb14 ⟨i0, i1, rfl, rfl, z14, hh14⟩
  refine ⟨fun hi11 => ⟨by omega, by omega, by omega, fun w15 hb15 hk15 => ?_⟩, fun hge w18 hb18 hk18 => ?_⟩
  · have o15 := hk15.own
    have hdec : (11 - (i + 1)).toNat < (11 - i).toNat := by omega
    have z15 := hk15.size
    have hh15 : w15.heap[w8.heap.size]? = some (.cells (arrV k i.toNat).toArray 120 (0, 0)) := by rw [hk15.block _ (by omega) nM]; exact hh14
    rw [bit_wrap ⟨k0, by omega⟩ (e := i) (by omega)]
    have e1 : 0 + i.toNat * 1 = i.toNat := by omega
    rw [e1]
    have hst := arr_step k (i := i.toNat) (by omega)
    refine obj_store (cs := arrV k i.toNat) (vs := [I (bitV k i.toNat)]) hh15 (by kernel_rfl) (by kernel_rfl) (by show _ ≤ (arrV k i.toNat).length; simp [arrV]; omega) rfl (by simp <;> exact trivial) fun w16 hh16 c16 => ?_
    have z16 := c16.size
    have hh16' : w16.heap[w8.heap.size]? = some (.cells (arrV k (i + 1).toNat).toArray 120 (0, 0)) := by
      rw [hh16, show (i + 1).toNat = i.toNat + 1 by omega, ← hst]; rfl
    refine ⟨c16.own (fun x hx => ⟨o15 x hx, fun h => by rw [List.mem_singleton.1 h] at hx; exact nM hx⟩) (by simp) (fun _ => ⟨by omega, fun x hx => by rw [List.mem_singleton.1 hx]; have := hb8.size; omega⟩), by omega, fun w17 hb17 hk17 => ⟨⟨by omega, by omega, rfl, rfl, ?_, ?_⟩, hdec⟩⟩
    · have := hk17.size; omega
    · rw [hk17.block _ (by omega) nM]; exact hh16'
  · have hi : i = 11 := by omega
    subst hi
    have L14 : Lies [] w8.heap.size (w8.heap.size + 1) w14 (some ⟨w8.heap.size, 0, none⟩) (arrV k 11) := fun j v hv => ⟨_, 0, rfl, ⟨by simp, Nat.le_refl _, by omega⟩, by
      rw [Nat.zero_add]; unfold World.cell?; simp only [hh14]; simpa using hv⟩
    have sM : ∀ x ∈ [m8, m6, m4, m3, m2, m1], x < w8.heap.size ∨ w8.heap.size + 1 ≤ x := fun x hx => .inl (own8 x hx)
    have nM2 : w8.heap.size < w.heap.size ∨ w8.heap.size ≠ m8 ∧ w8.heap.size ≠ m6 ∧ w8.heap.size ≠ m4 ∧ w8.heap.size ≠ m3 ∧ w8.heap.size ≠ m2 ∧ w8.heap.size ≠ m1 := .inr (by simpa using nM)
    have rd : ∀ {u : World}, Lies [] w8.heap.size (w8.heap.size + 1) u (some ⟨w8.heap.size, 0, none⟩) (arrV k 11) → ∀ j, j < 11 → u.cell? ⟨w8.heap.size, 0 + j, none⟩ = some (I (bitV k j)) := fun {u} h j hj => by
      have hv : (arrV k 11)[j]? = some (I (bitV k j)) := by unfold arrV; rw [List.getElem?_map, List.getElem?_range hj]; simp [hj]
      obtain ⟨b', o, e, _, hcell⟩ := h.get (bs := []) all0 hv
      cases e; exact hcell
    refine Pure.calls (rpair_any (sumF loC c.rods, sumF hiC c.rods) w18) fun w19 hb19 => ⟨_, _, rfl, hb19, fun w20 hb20 hk20 => ?_⟩
    refine Pure.calls (rpair_any c.air w20) fun w21 hb21 => ⟨_, _, rfl, hb21, fun w22 hb22 hk22 => ?_⟩
    refine Pure.calls (rpair_any c.drive w22) fun w23 hb23 => ⟨_, _, rfl, hb23, by decide, bitV k 0, rd L14 0 (by decide), nM2, bitV_bd k 0, by decide, bitV k 1, rd L14 1 (by decide), nM2, bitV_bd k 1, by decide, bitV k 2, rd L14 2 (by decide), nM2, bitV_bd k 2, fun w24 hb24 hk24 => ?_⟩
    have z18 := hk18.size; have z19 := hb19.size; have z20 := hk20.size; have z21 := hb21.size; have z22 := hk22.size; have z23 := hb23.size
    have hlt14 : w8.heap.size + 1 ≤ w14.heap.size := by omega
    have L23 : Lies [] w8.heap.size (w8.heap.size + 1) w23 (some ⟨w8.heap.size, 0, none⟩) (arrV k 11) := (((((L14.kio hk18 sM ⟨_, List.mem_cons_self .., Nat.zero_le _, hlt14⟩).below hb19).kio hk20 sM ⟨_, List.mem_cons_self .., Nat.zero_le _, hlt14⟩).below hb21).kio hk22 sM ⟨_, List.mem_cons_self .., Nat.zero_le _, hlt14⟩).below hb23
    refine Pure.calls (rpair_any t.heat w24) fun w25 hb25 => ⟨_, _, rfl, hb25, fun w26 hb26 hk26 => ?_⟩
    refine Pure.calls (rpair_any b.heat w26) fun w27 hb27 => ⟨_, _, rfl, hb27, by decide, bitV k 3, rd L23 3 (by decide), nM2, bitV_bd k 3, by decide, bitV k 4, rd L23 4 (by decide), nM2, bitV_bd k 4, ?_⟩
    rw [nth_pick t.heat, nth_pick b.heat]
    obtain ⟨b1, b2, b3, b4⟩ := hb
    obtain ⟨t1, t2, t3, t4⟩ := ht
    have P := fun (s : Sp) (j : Nat) (h : s.1 ≤ s.2) => pick_in h (bitE k j)
    have p3 := P t.heat 3 t1.2.1; have p4 := P b.heat 4 b1.2.1
    refine ⟨?_, fun w28 hb28 hk28 => ?_⟩
    · clear hgr hrod hlens; unfold okS at *; omega
    have z24 := hk24.size; have z25 := hb25.size; have z26 := hk26.size; have z27 := hb27.size
    have hlt23 : w8.heap.size + 1 ≤ w23.heap.size := by omega
    have L27 : Lies [] w8.heap.size (w8.heap.size + 1) w27 (some ⟨w8.heap.size, 0, none⟩) (arrV k 11) := (((L23.kio hk24 sM ⟨_, List.mem_cons_self .., Nat.zero_le _, hlt23⟩).below hb25).kio hk26 sM ⟨_, List.mem_cons_self .., Nat.zero_le _, hlt23⟩).below hb27
    refine Pure.calls (rpair_any t.press w28) fun w29 hb29 => ⟨_, _, rfl, hb29, fun w30 hb30 hk30 => ?_⟩
    refine Pure.calls (rpair_any b.press w30) fun w31 hb31 => ⟨_, _, rfl, hb31, by decide, bitV k 5, rd L27 5 (by decide), nM2, bitV_bd k 5, by decide, bitV k 6, rd L27 6 (by decide), nM2, bitV_bd k 6, ?_⟩
    rw [nth_pick t.press, nth_pick b.press]
    have p5 := P t.press 5 t2.2.1; have p6 := P b.press 6 b2.2.1
    refine ⟨?_, fun w32 hb32 hk32 => ?_⟩
    · clear hgr hrod hlens; unfold okS at *; omega
    have z28 := hk28.size; have z29 := hb29.size; have z30 := hk30.size; have z31 := hb31.size
    have hlt27 : w8.heap.size + 1 ≤ w27.heap.size := by omega
    have L31 : Lies [] w8.heap.size (w8.heap.size + 1) w31 (some ⟨w8.heap.size, 0, none⟩) (arrV k 11) := (((L27.kio hk28 sM ⟨_, List.mem_cons_self .., Nat.zero_le _, hlt27⟩).below hb29).kio hk30 sM ⟨_, List.mem_cons_self .., Nat.zero_le _, hlt27⟩).below hb31
    refine Pure.calls (rpair_any t.arc w32) fun w33 hb33 => ⟨_, _, rfl, hb33, fun w34 hb34 hk34 => ?_⟩
    refine Pure.calls (rpair_any b.arc w34) fun w35 hb35 => ⟨_, _, rfl, hb35, by decide, bitV k 7, rd L31 7 (by decide), nM2, bitV_bd k 7, by decide, bitV k 8, rd L31 8 (by decide), nM2, bitV_bd k 8, fun w36 hb36 hk36 => ?_⟩
    have z32 := hk32.size; have z33 := hb33.size; have z34 := hk34.size; have z35 := hb35.size
    have hlt31 : w8.heap.size + 1 ≤ w31.heap.size := by omega
    have L35 : Lies [] w8.heap.size (w8.heap.size + 1) w35 (some ⟨w8.heap.size, 0, none⟩) (arrV k 11) := (((L31.kio hk32 sM ⟨_, List.mem_cons_self .., Nat.zero_le _, hlt31⟩).below hb33).kio hk34 sM ⟨_, List.mem_cons_self .., Nat.zero_le _, hlt31⟩).below hb35
    refine Pure.calls (rpair_any t.force w36) fun w37 hb37 => ⟨_, _, rfl, hb37, fun w38 hb38 hk38 => ?_⟩
    refine Pure.calls (rpair_any b.force w38) fun w39 hb39 => ⟨_, _, rfl, hb39, by decide, bitV k 9, rd L35 9 (by decide), nM2, bitV_bd k 9, by decide, bitV k 10, rd L35 10 (by decide), nM2, bitV_bd k 10, ?_⟩
    rw [nth_pick t.force, nth_pick b.force]
    have p9 := P t.force 9 t4.2.1; have p10 := P b.force 10 b4.2.1
    have p7 := P t.arc 7 t3.2.1; have p8 := P b.arc 8 b3.2.1
    have pA := P c.air 1 hair.2.1
    have pD := P c.drive 2 (by unfold driveOk okS at hdr; omega)
    have hS32 := sumK_bd (chgK_ok (open_ok hk ⟨b1, b2, b3, b4⟩) (open_ok hk ⟨t1, t2, t3, t4⟩))
    rw [hS] at hS32
    have hSle : (sumK (chgK c b t)).1 ≤ (sumK (chgK c b t)).2 := sumN_le _
    rw [hS] at hSle
    have pS := P (sumF loC c.rods, sumF hiC c.rods) 0 hSle
    rw [nth_pick c.air, nth_pick c.drive, nth_pick (sumF loC c.rods, sumF hiC c.rods)]
    have hbd := corn_bd (L := lenC c.rods) (A := pick (bitE k 1) c.air) (P := pick (bitE k 5) t.press - pick (bitE k 6) b.press) (D := pick (bitE k 2) c.drive) (F := pick (bitE k 9) t.force - pick (bitE k 10) b.force) (S := pick (bitE k 0) (sumF loC c.rods, sumF hiC c.rods)) (H := pick (bitE k 3) t.heat - pick (bitE k 4) b.heat) (u := pick (bitE k 7) t.arc) (v := pick (bitE k 8) b.arc) (by omega) (by clear hgr hrod hlens; unfold okS at *; omega) (by clear hgr hrod hlens; unfold okS at *; omega) (by clear hgr hrod hlens; unfold driveOk okS at *; omega) (by clear hgr hrod hlens; unfold okS at *; omega) (by clear hgr hrod hlens; simp only [Bd] at hS32; omega) (by clear hgr hrod hlens; unfold okS at *; omega) (by clear hgr hrod hlens; unfold okS at *; omega) (by clear hgr hrod hlens; unfold okS at *; omega)
    refine ⟨by clear hgr hrod hlens; unfold okS at *; omega, hbd.a1, hbd.a2, hbd.a3, hbd.a4, hbd.a5, hbd.a6, hbd.a7, fun w40 hb40 hk40 => ?_⟩
    refine Pure.calls (rlength_any c (hc.keep hb40) (by omega) hlens) fun w41 hb41 => ⟨_, rfl, .all hb41, ?_⟩
    rw [nth_pick t.arc, nth_pick b.arc]
    have hK : cornK c b t k = 10000 * lenC c.rods * (pick (bitE k 1) c.air * (pick (bitE k 5) t.press - pick (bitE k 6) b.press) + pick (bitE k 2) c.drive * (pick (bitE k 9) t.force - pick (bitE k 10) b.force)) - 432 * pick (bitE k 0) (sumF loC c.rods, sumF hiC c.rods) * (pick (bitE k 3) t.heat - pick (bitE k 4) b.heat) - 4570 * lenC c.rods * (pick (bitE k 7) t.arc * pick (bitE k 7) t.arc - pick (bitE k 8) b.arc * pick (bitE k 8) b.arc) := by unfold cornK cornF; rw [hS]
    refine ⟨hbd.b1, hbd.b2, hbd.b3, hbd.b4, hbd.b5, hbd.b6, ?_⟩
    rw [← hK]
    clear hbd hK
    generalize cornK c b t = f at *
    clear hgr hrod hlens hdr hair hbase
    refine ⟨fun hs => ⟨by omega, fun w42 hb42 hk42 => ⟨⟨by omega, by omega, (decide_eq_true (by omega : (0 : Int) < k + 1)).symm, fun _ => ?_⟩, ?_⟩⟩, fun hs => ⟨by omega, fun w43 hb43 hk43 => ⟨⟨by omega, by omega, by have h9 : 0 < k := (by simpa using hs); rw [decide_eq_true h9, decide_eq_true (by omega : (0 : Int) < k + 1)], fun _ => ?_⟩, ?_⟩⟩⟩
    · have k00 : k = 0 := by have : ¬ 0 < k := by simpa using hs
                             omega
      subst k00
      rw [Int.min_self, Int.max_self]
      exact MinMax.one f
    · show (2048 - (k + 1)).toNat < (2048 - k).toNat; omega
    · have : 0 < k := by simpa using hs
      exact (hM this).next k0
    · show (2048 - (k + 1)).toNat < (2048 - k).toNat; omega
end Go.Proofs.R03
end
section
/- BeatChanges. -/
namespace Go.Proofs.R03
open Go.Vc Go.RowKit Go.Proofs

theorem change_cases (c : Clk) (b t : Bn) : ∃ S, changeR c b t = (S, chgErr c b t) ∧ (chgErr c b t ≠ 0 → S = (0, 0)) ∧ (chgErr c b t = 0 → S = roundS (10000 * lenC c.rods) (chgS c b t)) := by
  by_cases h : chgErr c b t = 0
  · exact ⟨_, by unfold changeR; rw [if_pos h, h], fun g => absurd h g, fun _ => rfl⟩
  · exact ⟨_, by unfold changeR; rw [if_neg h], fun _ => rfl, fun g => absurd g h⟩
theorem chgErr_eq (c : Clk) (b t : Bn) : chgErr c b t = if check c = 0 ∧ ¬ (OkB b ∧ OkB t) then 2 else check c := by
  unfold chgErr openErr
  by_cases h : check c = 0
  · by_cases hb : OkB b <;> by_cases ht : OkB t <;> simp [h, hb, ht]
  · simp [h]

set_option maxRecDepth 100000 in
set_option maxHeartbeats 4000000 in
theorem changes_any (c : Clk) (b t : Bn) {ra : Option Addr} {rc : Nat} {w : World} (hc : Cells w ra (rods c.rods)) : Calls Try.prog 5 #[c.v ra rc, b.v, t.v] w (Pure w (.bool true)) := by
  obtain ⟨S, eC, hbad, hgood⟩ := change_cases c b t
  have hE := chgErr_eq c b t
  refine vc5 _ _ _ _ _ _ _ _ _ _ _ _ _ _ _ _ _ _ _ _ _ _ _ _ _ w _ fun m1 h1 m2 h2 m3 h3 => ⟨fun g1 w1 hb1 _ => Pure.calls (known_any w1) fun w2 hb2 => ⟨true, rfl, .all hb2, fun w3 hb3 _ => ⟨rfl, hb3⟩⟩, fun g1 w4 hb4 hk4 => ?_⟩
  have hn : c.rods.length ≤ 12 := by omega
  refine (copied_l c (hc.keep hb4) (by omega)).mono fun e w5 he => ?_
  obtain ⟨aC, nC, rfl, hb5, C5⟩ := he
  have z5 := hb5.size; have o4 := hk4.own
  refine ⟨_, _, _, _, _, _, _, _, _, rfl, hb5, fun w6 hb6 hk6 => ?_⟩
  have z6 := hk6.size
  have C6 := C5.kio hk6 (fun y hy => .inl (o4 y hy)) ⟨_, List.mem_cons_of_mem _ (List.mem_cons_self ..), Nat.le_refl _, Nat.le_refl _⟩
  have hcr := change_any c b t (rc := nC) C6.cells
  rw [eC] at hcr
  refine Pure.calls hcr fun w7 hb7 => ⟨_, _, _, rfl, hb7, fun m7 h7 _ _ w8 hb8 hk8 => ?_⟩
  refine Pure.calls (rcheck_any c (hc.keep hb8)) fun w9 hb9 => ⟨_, rfl, .all hb9, ?_⟩
  refine ⟨fun ls _ => match ls with | [.bool t'] => t' = (decide (check c = 0) && !decide (OkB b ∧ OkB t)) | _ => False, ⟨fun h0 w11 hb11 _ => ?_, fun h0 w17 _ _ => by rw [decide_eq_false h0]; rfl⟩, ?_⟩
  · refine Pure.calls (rbounds_any b w11) fun w12 hb12 => ⟨_, rfl, .all hb12, fun hB w13 _ _ => ?_, fun hB w14 hb14 _ => ?_⟩
    · have : ¬ OkB b := fun h => by rw [decide_eq_true h] at hB; cases hB
      show true = _
      rw [decide_eq_true h0, decide_eq_false (fun h => this h.1)]; rfl
    · have hB : OkB b := Classical.byContradiction fun h => by rw [decide_eq_false h] at hB; cases hB
      refine Pure.calls (rbounds_any t w14) fun w15 hb15 => ⟨_, rfl, .all hb15, fun w16 _ _ => ?_⟩
      show (!decide (OkB t)) = _
      rw [decide_eq_true h0, Bool.true_and]
      congr 1
      rw [Bool.eq_iff_iff]; simp [hB]
  rintro t4 w18 hb18 rfl
  refine ⟨fun ls _ => match ls with | [.int _ x] => x = chgErr c b t | _ => False, ⟨fun h w20 _ _ => ?_, fun h w21 _ _ => ?_⟩, ?_⟩
  · simp only [Bool.and_eq_true, decide_eq_true_eq, Bool.not_eq_true', decide_eq_false_iff_not] at h
    show 2 = _
    rw [hE, if_pos h]
  · show check c = _
    rw [hE, if_neg]
    intro hh
    rw [decide_eq_true hh.1, decide_eq_false hh.2] at h
    exact absurd h (by decide)
  rintro x11 w22 hb22 rfl
  refine ⟨fun hne => ?_, fun h0 w33 hb33 _ => ?_⟩
  · obtain rfl := hbad hne
    refine ⟨fun ls _ => match ls with | [.bool t] => t = true | _ => False, ⟨fun _ w24 hb24 _ => ?_, fun h => absurd rfl h⟩, ?_⟩
    · refine eql_span ⟨_, rfl, .all (.refl _ _), fun _ w26 _ _ => ?_, fun h => absurd h (by simp)⟩
      exact Pure.calls (known_any w26) fun w27 hb27 => ⟨true, rfl, .all hb27, fun w28 _ _ => rfl⟩
    · rintro t w31 _ rfl w32 hb32 _
      exact ⟨rfl, hb32⟩
  · obtain rfl := hgood h0
    have hck : check c = 0 := Classical.byContradiction fun h => by rw [hE, if_neg (fun g => h g.1)] at h0; exact h h0
    have hBT : OkB b ∧ OkB t := Classical.byContradiction fun h => by rw [hE, if_pos ⟨hck, h⟩] at h0; omega
    have hopb := open_ok hck hBT.1
    have hopt := open_ok hck hBT.2
    have hok := newK_ok hopb
    have hlen : 100 ≤ lenC c.rods ∧ lenC c.rods ≤ 100000 := hok.len
    have hbd := bd_plus (rateK_bd (chgK_ok hopb hopt)) (bd_by (bd_sq hok.arc) (len_bd hok 4570 (by decide)))
    have hbd : Bd (chgS c b t) (30000000000000000 + 600 * 600 * (4570 * 100000)) := hbd
    simp only [Bd] at hbd
    refine Pure.calls (rchange_any hck hBT.1 hBT.2 (hc.keep hb33)) fun w34 hb34 => ⟨_, _, rfl, hb34, fun w35 hb35 _ => ?_⟩
    refine Pure.calls (rlength_any c (hc.keep hb35) (by omega) hok.lens) fun w36 hb36 => ⟨_, rfl, hb36, fun m13 _ _ _ => ⟨by omega, fun _ w37 hb37 _ => ?_, fun h => absurd h0 h⟩⟩
    refine Pure.calls (rdown_any (a := (chgS c b t).1) (b := 10000 * lenC c.rods) (by omega) (by omega) w37) fun w38 hb38 => ⟨_, rfl, .all hb38, fun w39 hb39 _ => ?_⟩
    refine Pure.calls (rup_any (a := (chgS c b t).2) (b := 10000 * lenC c.rods) (by omega) (by omega) w39) fun w40 hb40 => ⟨_, rfl, .all hb40, fun w41 hb41 _ => ?_⟩
    refine eql_span ⟨_, rfl, .all (.refl _ _), fun _ w43 _ _ => ?_, fun h => absurd h (by rw [Bool.not_eq_false, decide_eq_true_iff]; rfl)⟩
    exact Pure.calls (known_any w43) fun w44 hb44 => ⟨true, rfl, .all hb44, fun w45 hb45 _ => ⟨rfl, hb45⟩⟩
end Go.Proofs.R03
end
