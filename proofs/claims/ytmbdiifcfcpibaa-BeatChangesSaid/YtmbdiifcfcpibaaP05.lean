/- Part 5: own lemmas, and the conditions of the functions. -/
import Derived.Test.YtmbdiifcfcpibaaProg
import Derived.Test.YtmbdiifcfcpibaaRows
import Derived.Test.YtmbdiifcfcpibaaP04
section
/- Contracts: all, truth. -/
namespace Go.Proofs.R03
open Go.Vc Go.RowKit Go.Proofs

/-- What all yields: the places of the spans. -/
def ptrs (kb gb n : Nat) : List (List Value) := (List.range n).map (fun i => [Value.pointer (some ⟨gb, i * 2, none⟩)]) ++ (List.range 6).map fun i => [Value.pointer (some ⟨kb, 8 + i * 2, none⟩)]
theorem ptrs_len (kb gb n : Nat) : (ptrs kb gb n).length = n + 6 := by simp [ptrs]
theorem ptrs_lo {kb gb n i : Nat} (h : i < n) : (ptrs kb gb n)[i]? = some [Value.pointer (some ⟨gb, i * 2, none⟩)] := by
  unfold ptrs
  rw [List.getElem?_append_left (by simpa using h)]; simp [h]
theorem ptrs_hi {kb gb n i : Nat} (h : i < 6) : (ptrs kb gb n)[n + i]? = some [Value.pointer (some ⟨kb, 8 + i * 2, none⟩)] := by
  unfold ptrs
  rw [List.getElem?_append_right (by simp)]
  simp [h]

theorem kept_nil {w w' : World} (h : Kept [] w w') : Below w.heap.size w w' := ⟨h.os, h.tape, h.output, h.size, fun k hk => h.block k hk (by simp)⟩
theorem yield_mono {P : Program} {l : Nat} {args : Array Value} {w : World} {R S : Ending → World → Prop} (h : YieldAt Fence.wide 0 P l args w R) (hs : ∀ e w', R e w' → S e w') : YieldAt Fence.wide 0 P l args w S := by
  obtain ⟨fn, tmps, assign, body, hy, hR⟩ := h
  exact ⟨fn, tmps, assign, body, hy, hR.mono hs⟩

theorem all_iter {kb gb n gc : Nat} (hn : n ≤ 1000) : Iter Try.prog 82 [.pointer (some ⟨kb, 0, none⟩)] [] (ptrs kb gb n) (fun w => w.cell? ⟨kb, 7, none⟩ = some (.slice (some ⟨gb, 0, none⟩) n gc)) := by
  intro l J Jx W hJ hJx hInv hY h0
  have mvJ : ∀ {G k w w'}, J G k w → Kept [] w w' → J G k w' := fun h hk => hJ _ _ _ _ _ h (calm_below (kept_nil hk)) (fun _ h => h) fun _ h => .inl h
  have mvX : ∀ {G k w w'}, Jx G k w → Kept [] w w' → Jx G k w' := fun h hk => hJx _ _ _ _ _ h (calm_below (kept_nil hk)) (fun _ h => h) fun _ h => .inl h
  have kx : ∀ {G : Nat → Prop} {w w' : World}, RoundKeeps G w w' → KeepX false W.heap.size [] (fun _ => False) w w' := fun h => .own h.os h.tape h.output h.size (by simp) (by simp) (by simp)
  refine vc82 _ _ _ W _ ⟨_, _, _, hInv _ _ _ h0, fun ls w => match ls with | [.int _ x] => 0 ≤ x ∧ x ≤ n ∧ J (fun _ => False) x.toNat w | _ => False, fun ls => match ls with | [.int _ x] => ((n : Int) - x).toNat | _ => 0,
    fun w1 hk => ⟨by omega, by omega, mvJ h0 hk⟩, ?_⟩
  rintro x w2 ⟨h1, h2, hj⟩
  refine ⟨fun h3 => ⟨_, _, _, hInv _ _ _ hj, gb, 0, rfl, ⟨h1, h3⟩, fun w3 hk3 => ⟨l, rfl, ?_⟩⟩, fun h3 => ?_⟩
  · rw [show 0 + x.toNat * 2 = x.toNat * 2 by omega]
    refine yield_mono (hY _ _ [Value.pointer (some ⟨gb, x.toNat * 2, none⟩)] _ (mvJ hj hk3) (fun _ h => h.elim) (ptrs_lo (by omega))) fun e w4 he => ?_
    obtain ⟨t, rfl, hrk, hT, hF⟩ := he
    refine ⟨t, rfl, kx hrk, fun h w5 hk5 => ⟨⟨_, rfl⟩, _, .inr ⟨_, mvX (hF (by simpa using h)) hk5⟩⟩, fun h => ⟨by omega, fun w6 hk6 => ⟨⟨by omega, by omega, ?_⟩, ?_⟩⟩⟩
    · rw [show (x + 1).toNat = x.toNat + 1 by omega]
      exact mvJ (hT (by simpa using h)) hk6
    · show ((n : Int) - (x + 1)).toNat < ((n : Int) - x).toNat
      omega
  · obtain rfl : x = n := by omega
    refine ⟨fun ls w => match ls with | [.int _ y] => 0 ≤ y ∧ y ≤ 6 ∧ J (fun _ => False) (n + y.toNat) w | _ => False, fun ls => match ls with | [.int _ y] => (6 - y).toNat | _ => 0,
      fun w7 hk7 => ⟨by omega, by omega, mvJ hj hk7⟩, ?_⟩
    rintro y w8 ⟨g1, g2, hj8⟩
    refine ⟨fun g3 => ⟨⟨g1, g3⟩, fun w9 hk9 => ⟨l, rfl, ?_⟩⟩, fun g3 w13 hk13 => ⟨⟨_, rfl⟩, fun _ => False, .inl ?_⟩⟩
    · rw [show 0 + 8 + y.toNat * 2 = 8 + y.toNat * 2 by omega]
      refine yield_mono (hY _ _ [Value.pointer (some ⟨kb, 8 + y.toNat * 2, none⟩)] _ (mvJ hj8 hk9) (fun _ h => h.elim) (ptrs_hi (by omega))) fun e w10 he => ?_
      obtain ⟨t, rfl, hrk, hT, hF⟩ := he
      refine ⟨t, rfl, kx hrk, fun h w11 hk11 => ⟨⟨_, rfl⟩, _, .inr ⟨_, mvX (hF (by simpa using h)) hk11⟩⟩, fun h => ⟨by omega, fun w12 hk12 => ⟨⟨by omega, by omega, ?_⟩, ?_⟩⟩⟩
      · rw [show n + (y + 1).toNat = n + y.toNat + 1 by omega]
        exact mvJ (hT (by simpa using h)) hk12
      · show (6 - (y + 1)).toNat < (6 - y).toNat
        omega
    · have := mvJ hj8 hk13
      rw [ptrs_len]
      rw [show y.toNat = 6 by omega] at this
      exact this

structure Tr where
  grow : List Int
  air : Int
  drive : Int
  heat : Int
  press : Int
  arc : Int
  force : Int
deriving DecidableEq
def Tr.v (t : Tr) (a : Option Addr) (c : Nat) : Value := .agg #[.slice a t.grow.length c, I t.air, I t.drive, I t.heat, I t.press, I t.arc, I t.force]
/-- The least values. -/
def truthK (k : Kn) : Tr := ⟨k.grow.map (·.1), k.air.1, k.drive.1, k.heat.1, k.press.1, k.arc.1, k.force.1⟩
def TrPost (t : Tr) (w : World) (e : Ending) (w' : World) : Prop := ∃ a c, e = .returned (t.v a c) ∧ Below w.heap.size w w' ∧ RowZ 3 1 w.heap.size [] a t.grow.length c (ints t.grow) w'

/-- The cells of a truth, of which the first are filled. -/
def fillC (k : Kn) (a : Option Addr) (n c : Nat) (i : Nat) : List Value := [.slice a n c, I (if 0 < i then k.air.1 else 0), I (if 1 < i then k.drive.1 else 0), I (if 2 < i then k.heat.1 else 0), I (if 3 < i then k.press.1 else 0), I (if 4 < i then k.arc.1 else 0), I (if 5 < i then k.force.1 else 0)]
theorem idx6_0 (m : Nat) (w : World) : (Instr.index 153 (.agg #[.pointer (some ⟨m, 0 + 1, none⟩), .pointer (some ⟨m, 0 + 2, none⟩), .pointer (some ⟨m, 0 + 3, none⟩), .pointer (some ⟨m, 0 + 4, none⟩), .pointer (some ⟨m, 0 + 5, none⟩), .pointer (some ⟨m, 0 + 6, none⟩)]) (I 0)).run Try.prog w = .ok (.pointer (some ⟨m, 1, none⟩)) w := by kernel_rfl
theorem idx6_1 (m : Nat) (w : World) : (Instr.index 153 (.agg #[.pointer (some ⟨m, 0 + 1, none⟩), .pointer (some ⟨m, 0 + 2, none⟩), .pointer (some ⟨m, 0 + 3, none⟩), .pointer (some ⟨m, 0 + 4, none⟩), .pointer (some ⟨m, 0 + 5, none⟩), .pointer (some ⟨m, 0 + 6, none⟩)]) (I 1)).run Try.prog w = .ok (.pointer (some ⟨m, 2, none⟩)) w := by kernel_rfl
theorem idx6_2 (m : Nat) (w : World) : (Instr.index 153 (.agg #[.pointer (some ⟨m, 0 + 1, none⟩), .pointer (some ⟨m, 0 + 2, none⟩), .pointer (some ⟨m, 0 + 3, none⟩), .pointer (some ⟨m, 0 + 4, none⟩), .pointer (some ⟨m, 0 + 5, none⟩), .pointer (some ⟨m, 0 + 6, none⟩)]) (I 2)).run Try.prog w = .ok (.pointer (some ⟨m, 3, none⟩)) w := by kernel_rfl
theorem idx6_3 (m : Nat) (w : World) : (Instr.index 153 (.agg #[.pointer (some ⟨m, 0 + 1, none⟩), .pointer (some ⟨m, 0 + 2, none⟩), .pointer (some ⟨m, 0 + 3, none⟩), .pointer (some ⟨m, 0 + 4, none⟩), .pointer (some ⟨m, 0 + 5, none⟩), .pointer (some ⟨m, 0 + 6, none⟩)]) (I 3)).run Try.prog w = .ok (.pointer (some ⟨m, 4, none⟩)) w := by kernel_rfl
theorem idx6_4 (m : Nat) (w : World) : (Instr.index 153 (.agg #[.pointer (some ⟨m, 0 + 1, none⟩), .pointer (some ⟨m, 0 + 2, none⟩), .pointer (some ⟨m, 0 + 3, none⟩), .pointer (some ⟨m, 0 + 4, none⟩), .pointer (some ⟨m, 0 + 5, none⟩), .pointer (some ⟨m, 0 + 6, none⟩)]) (I 4)).run Try.prog w = .ok (.pointer (some ⟨m, 5, none⟩)) w := by kernel_rfl
theorem idx6_5 (m : Nat) (w : World) : (Instr.index 153 (.agg #[.pointer (some ⟨m, 0 + 1, none⟩), .pointer (some ⟨m, 0 + 2, none⟩), .pointer (some ⟨m, 0 + 3, none⟩), .pointer (some ⟨m, 0 + 4, none⟩), .pointer (some ⟨m, 0 + 5, none⟩), .pointer (some ⟨m, 0 + 6, none⟩)]) (I 5)).run Try.prog w = .ok (.pointer (some ⟨m, 6, none⟩)) w := by kernel_rfl
theorem idx6 (m i : Nat) (hi : i < 6) (w : World) : (Instr.index 153 (.agg #[.pointer (some ⟨m, 0 + 1, none⟩), .pointer (some ⟨m, 0 + 2, none⟩), .pointer (some ⟨m, 0 + 3, none⟩), .pointer (some ⟨m, 0 + 4, none⟩), .pointer (some ⟨m, 0 + 5, none⟩), .pointer (some ⟨m, 0 + 6, none⟩)]) (I (i : Int))).run Try.prog w = .ok (.pointer (some ⟨m, 1 + i, none⟩)) w := by
  have h : i = 0 ∨ i = 1 ∨ i = 2 ∨ i = 3 ∨ i = 4 ∨ i = 5 := by omega
  rcases h with rfl | rfl | rfl | rfl | rfl | rfl
  · exact idx6_0 m w
  · exact idx6_1 m w
  · exact idx6_2 m w
  · exact idx6_3 m w
  · exact idx6_4 m w
  · exact idx6_5 m w
theorem alloc_here' {w : World} {o : Obj} : (w.alloc o).heap[w.heap.size]? = some o := by show (w.heap.push o)[w.heap.size]? = _; simp
theorem fill_step (k : Kn) (a : Option Addr) (n c : Nat) {i : Nat} (hi : i < 6) : (fillC k a n c i).take (1 + i) ++ [I (k.get i).1] ++ (fillC k a n c i).drop (1 + i + 1) = fillC k a n c (i + 1) := by
  match i, hi with
  | 0, _ => rfl
  | 1, _ => rfl
  | 2, _ => rfl
  | 3, _ => rfl
  | 4, _ => rfl
  | 5, _ => rfl
theorem row_other {e : TypeId} {size B : Nat} {ns : List Nat} {a : Option Addr} {n c : Nat} {xs : List Value} {w w' : World} (h : Row e size B ns a n c xs w) {m : Nat} {cs : Array Value} {T : TypeId} (hm : w.heap[m]? = some (.cells cs T (0, 0))) (hT : T ≠ e) (hc : Chg [m] w w') : Row e size B ns a n c xs w' :=
  h.of fun b o ha => hc.keep b (h.lt b o ha).2 fun hx => by
    obtain ⟨ds, hd⟩ := h.type ha
    rw [List.mem_singleton.1 hx, hm] at hd
    simp only [Option.some.injEq, Obj.cells.injEq] at hd
    exact hT hd.2.1

set_option maxHeartbeats 2000000 in
theorem truth_any {B : Nat} {k : Kn} {kb : Nat} {ra : Option Addr} {rc : Nat} {ga : Option Addr} {gc : Nat} {w : World} (h : KAt B k kb ra rc ga gc w) (hn : k.grow.length ≤ 1000) : Calls Try.prog 90 #[.pointer (some ⟨kb, 0, none⟩)] w (TrPost (truthK k) w) := by
  refine vc90 _ _ w _ fun w1 hb1 hk1 m1 w2 hm hw2 => ?_
  have z1 := hb1.size
  have hm1 : w.heap.size ≤ m1 := by omega
  have b2 : Below w.heap.size w w2 := by rw [hw2]; exact hb1.alloc z1 _
  have hh2 : w2.heap[m1]? = some (.cells (fillC k none 0 0 0).toArray 30 (0, 0)) := by rw [hw2, hm]; exact alloc_here'
  refine ⟨_, _, _, (h.keep b2).cell (i := 7) rfl, ?_⟩
  refine ⟨fun ls w' => match ls with | [.int _ i] => 0 ≤ i ∧ i ≤ k.grow.length ∧ ∃ a c, w'.heap[m1]? = some (.cells (fillC k a i.toNat c 0).toArray 30 (0, 0)) ∧ Row 3 1 w.heap.size [] a i.toNat c (ints ((k.grow.take i.toNat).map (·.1))) w' | _ => False, fun ls => match ls with | [.int _ i] => (k.grow.length - i).toNat | _ => 0,
    fun w4 hb4 hk4 => ⟨by omega, by omega, none, 0, (hk4.block m1 (lt_of_some hh2) (by simp)).trans hh2, Row.nil⟩, ?_⟩
  rintro i w5 hb5 ⟨i0, il, a, c, hh5, R5⟩
  have l5 := lt_of_some hh5
  refine ⟨fun hi => ?_, fun hi m15 h15 => ?_⟩
  · have hix : i.toNat < k.grow.length := by omega
    obtain ⟨g1, g2⟩ := spans_get (getElem_of_lt hix)
    obtain ⟨gb, go, rfl, d1⟩ := h.grow.cells _ _ g1
    have d2 := h.grow.cells.at g2
    refine ⟨gb, go, rfl, ⟨i0, hi⟩, _, _, cell_keep hb5 d1, cell_keep hb5 d2, fun m6 h6 => ⟨_, _, _, cell_obj hh5 (i := 0) rfl, .inr (by omega), fun m9 h9 w6 hb6 hk6 hc6 => ?_⟩⟩
    have R6 : Row 3 1 w.heap.size [m9, m6] a i.toNat c (ints ((k.grow.take i.toNat).map (·.1))) w6 := ((R5.grow (ms := [m9, m6]) (by simp <;> omega)).less (ns' := [m9, m6]) (by simp)).chg (Chg.kept hk6) fun _ h => h
    have hh6 := (hk6.block m1 l5 (by simp <;> omega)).trans hh5
    have own6 := hk6.own
    have R6' : Row 3 1 w.heap.size [m1, m9, m6] a i.toNat c (ints ((k.grow.take i.toNat).map (·.1))) w6 := ⟨R6.own, fun b o ha hx => by
      rcases List.mem_cons.1 hx with rfl | hx
      · obtain ⟨ds, hd⟩ := R6.type ha
        rw [hh6] at hd
        simp only [Option.some.injEq, Obj.cells.injEq] at hd
        exact absurd hd.2.1 (by decide)
      · exact R6.ns b o ha hx⟩
    refine append_row (P := Try.prog) (bytes := 8) (by kernel_rfl) (by omega) R6' (m := 1) (news := ints [(k.grow[i.toNat]).1]) (Cells.obj (vs := [I _]) hc6) rfl (by simp [ints] <;> rfl) (by omega) (by omega) hb6.size (fun x hx => by
      rcases List.mem_cons.1 hx with rfl | hx
      · exact lt_of_some hh6
      · exact own6 x hx) fun a2 c2 w7 R7 S cS hS => ?_
    have hh7 := (cS.keep m1 (lt_of_some hh6) fun hx => (hS m1 hx).2 (by simp)).trans hh6
    refine ⟨_, _, _, rfl, cS.own (fun b hb => ⟨own6 b hb, fun hx => (hS b hx).2 (List.mem_cons_of_mem _ hb)⟩) (by simp) (fun _ => ⟨hb6.size, fun b hb => (hS b hb).1⟩), fun w8 hb8 hk8 => ?_⟩
    have hh8 := (hk8.block m1 (lt_of_some hh7) (by simp <;> omega)).trans hh7
    have R8 := (R7.less (ns' := [m9, m6]) (by simp)).chg (Chg.kept hk8) fun _ h => h
    refine obj_store (cs := fillC k a i.toNat c 0) (vs := [.slice a2 (i.toNat + 1) c2]) hh8 (by kernel_rfl) (by kernel_rfl) (by show 0 + 1 ≤ 7; omega) rfl (by simp <;> exact trivial) fun w9 hh9 c9 => ?_
    have R9 := row_other R8 hh8 (by decide) c9
    refine ⟨c9.own (fun b hb => ⟨hk8.own b hb, fun hx => by simp at hx hb; omega⟩) (by simp) (fun _ => ⟨hb8.size, by simp; omega⟩), by omega, fun w10 hb10 hk10 => ⟨⟨by omega, by omega, a2, c2, ?_, ?_⟩, ?_⟩⟩
    · rw [(hk10.block m1 (lt_of_some hh9) (by simp <;> omega)), hh9, show (i + 1).toNat = i.toNat + 1 by omega]; rfl
    · have := (R9.chg (Chg.kept hk10) fun _ h => h).less (ns' := []) (by simp)
      rw [show (i + 1).toNat = i.toNat + 1 by omega, List.take_add_one, getElem_of_lt hix, List.map_append]
      rw [← show ints ((k.grow.take i.toNat).map (·.1)) ++ ints [(k.grow[i.toNat]).1] = ints ((k.grow.take i.toNat).map (·.1) ++ ((some k.grow[i.toNat]).toList.map (·.1))) by simp [ints]]
      exact this
    · show ((k.grow.length : Int) - (i + 1)).toNat < ((k.grow.length : Int) - i).toNat
      omega
  · have hi' : i.toNat = k.grow.length := by omega
    rw [hi', List.take_length] at R5
    rw [hi'] at hh5
    refine ⟨fun ls w' => match ls with | [.int _ j] => 0 ≤ j ∧ j ≤ 6 ∧ w'.heap[m1]? = some (.cells (fillC k a k.grow.length c j.toNat).toArray 30 (0, 0)) ∧ Row 3 1 w.heap.size [m15] a k.grow.length c (ints (k.grow.map (·.1))) w' | _ => False, fun ls => match ls with | [.int _ j] => (6 - j).toNat | _ => 0,
      fun w12 hb12 hk12 => ⟨by omega, by omega, (hk12.block m1 l5 (by simp <;> omega)).trans hh5, ((R5.grow (ms := [m15]) (by simpa using h15)).less (ns' := [m15]) (by simp)).chg (Chg.kept hk12) fun _ h => h⟩, ?_⟩
    rintro j w13 hb13 ⟨j0, j6, hh13, R13⟩
    have nm : m1 ∉ [m15] := by simp; omega
    refine ⟨fun hj w14 hb14 hk14 => ?_, fun hj => ?_⟩
    · have hj6 : j.toNat < 6 := by omega
      have hidx := idx6 m1 j.toNat hj6 w14
      rw [show ((j.toNat : Nat) : Int) = j by omega] at hidx
      obtain ⟨g1, _⟩ := knC_get k ra rc ga gc hj6
      have hh14 := (hk14.block m1 (lt_of_some hh13) nm).trans hh13
      refine ⟨_, _, hidx, _, rfl, .all (.refl _ _), ⟨j0, hj⟩, _, cell_at' ((h.keep hb14).cell g1) (by omega), .inl h.lt, m1, 1 + j.toNat, rfl, trivial, fun w16 hb16 hk16 => ?_⟩
      have hh16 := (hk16.block m1 (lt_of_some hh14) nm).trans hh14
      have R16 := (R13.chg (Chg.kept hk14) fun _ h => h).chg (Chg.kept hk16) fun _ h => h
      refine obj_store (cs := fillC k a k.grow.length c j.toNat) (vs := [I (k.get j.toNat).1]) hh16 (by kernel_rfl) (by kernel_rfl) (by show 1 + j.toNat + 1 ≤ 7; omega) rfl (by simp <;> exact trivial) fun w17 hh17 c17 => ?_
      have R17 := row_other R16 hh16 (by decide) c17
      rw [show 1 + j.toNat + [I (k.get j.toNat).1].length = 1 + j.toNat + 1 from rfl, fill_step k a k.grow.length c hj6] at hh17
      refine ⟨c17.own (fun b hb => ⟨hk16.own b hb, fun hx => by simp at hx hb; omega⟩) (by simp) (fun _ => ⟨hb16.size, by simp; omega⟩), by omega, fun w18 hb18 hk18 => ⟨⟨by omega, by omega, ?_, R17.chg (Chg.kept hk18) fun _ h => h⟩, ?_⟩⟩
      · rw [(hk18.block m1 (lt_of_some hh17) nm), hh17, show (j + 1).toNat = j.toNat + 1 by omega]
      · show (6 - (j + 1)).toNat < (6 - j).toNat
        omega
    · rw [show j.toNat = 6 by omega] at hh13
      refine ⟨_, _, _, _, _, _, _, _, _, cell_obj hh13 (i := 0) rfl, cell_obj hh13 (i := 1) rfl, cell_obj hh13 (i := 2) rfl, cell_obj hh13 (i := 3) rfl, cell_obj hh13 (i := 4) rfl, cell_obj hh13 (i := 5) rfl, cell_obj hh13 (i := 6) rfl, .inr (by omega), fun w19 hb19 hk19 => ?_⟩
      have hh19 := (hk19.block m1 (lt_of_some hh13) nm).trans hh13
      have R19 := R13.chg (Chg.kept hk19) fun _ h => h
      refine obj_store (cs := fillC k a k.grow.length c 6) (vs := fillC k a k.grow.length c 6) hh19 (by kernel_rfl) (by kernel_rfl) (by show 0 + 7 ≤ 7; omega) rfl (by simp [fillC] <;> exact ⟨trivial, trivial, trivial, trivial, trivial, trivial, trivial⟩) fun w20 hh20 c20 => ?_
      have R20 := row_other R19 hh19 (by decide) c20
      have hh20' : w20.heap[m1]? = some (.cells (fillC k a k.grow.length c 6).toArray 30 (0, 0)) := hh20
      refine ⟨c20.own (fun b hb => ⟨hk19.own b hb, fun hx => by simp at hx hb; omega⟩) (by simp) (fun _ => ⟨hb19.size, by simp; omega⟩), fun w21 hb21 hk21 => ⟨_, ResIs.obj ((hk21.block m1 (lt_of_some hh20') nm).trans hh20') (by kernel_rfl) (by kernel_rfl) (by kernel_rfl), a, c, ?_, hb21, .inr ?_⟩⟩
      · simp [Tr.v, truthK, fillC]
      · have := (R20.chg (Chg.kept hk21) fun _ h => h).less (ns' := []) (by simp)
        simpa [truthK] using this
end Go.Proofs.R03
end
section
/- Contracts: what is known, with one span exact after another. -/
namespace Go.Proofs.R03
open Go.Vc Go.RowKit Go.Proofs

def Kn.all (k : Kn) : List Sp := k.grow ++ [k.air, k.drive, k.heat, k.press, k.arc, k.force]
def Kn.put (k : Kn) (i : Nat) (s : Sp) : Kn := if i < k.grow.length then { k with grow := k.grow.set i s } else k.set (i - k.grow.length) s
theorem all_len (k : Kn) : k.all.length = k.grow.length + 6 := by simp [Kn.all]
theorem put_c (k : Kn) (i : Nat) (s : Sp) : (k.put i s).c = k.c ∧ (k.put i s).grow.length = k.grow.length := by
  unfold Kn.put
  split
  · exact ⟨rfl, by simp⟩
  · have := set_c k (i - k.grow.length) s
    exact ⟨this.1, by rw [this.2]⟩
theorem all_put (k : Kn) {i : Nat} (h : i < k.grow.length + 6) (s : Sp) : (k.put i s).all = k.all.set i s := by
  unfold Kn.put
  split
  · rename_i hi
    unfold Kn.all
    rw [List.set_append_left _ _ hi]
  · rename_i hi
    unfold Kn.all
    rw [(set_c k _ s).2, List.set_append_right _ _ (by omega)]
    congr 1
    have hj : i - k.grow.length < 6 := by omega
    generalize i - k.grow.length = j at hj
    match j, hj with
    | 0, _ => rfl
    | 1, _ => rfl
    | 2, _ => rfl
    | 3, _ => rfl
    | 4, _ => rfl
    | 5, _ => rfl
theorem Kn.ext {k q : Kn} (hc : k.c = q.c) (hl : k.grow.length = q.grow.length) (ha : k.all = q.all) : k = q := by
  unfold Kn.all at ha
  obtain ⟨h1, h2⟩ := List.append_inj ha hl
  obtain ⟨c, g, a1, a2, a3, a4, a5, a6⟩ := k
  obtain ⟨c', g', b1, b2, b3, b4, b5, b6⟩ := q
  simp only [List.cons.injEq] at h1 h2 hc
  obtain ⟨rfl, rfl, rfl, rfl, rfl, rfl, _⟩ := h2
  subst h1; subst hc; rfl
theorem all_get_lo (k : Kn) {i : Nat} (h : i < k.grow.length) : k.all[i]? = some k.grow[i] := by
  unfold Kn.all; rw [List.getElem?_append_left h, getElem_of_lt h]
theorem all_get_hi (k : Kn) {i : Nat} (h : i < 6) : k.all[k.grow.length + i]? = some (k.get i) := by
  unfold Kn.all
  rw [List.getElem?_append_right (by omega), show k.grow.length + i - k.grow.length = i by omega]
  match i, h with
  | 0, _ => rfl
  | 1, _ => rfl
  | 2, _ => rfl
  | 3, _ => rfl
  | 4, _ => rfl
  | 5, _ => rfl

theorem spans_put {l : List Sp} {k : Nat} {p : Sp} (h : k < l.length) : (spans l).take (k * 2) ++ [I p.1, I p.2] ++ (spans l).drop (k * 2 + 2) = spans (l.set k p) := by
  have hl : l = l.take k ++ (l[k] :: l.drop (k + 1)) := by rw [← List.drop_eq_getElem_cons h, List.take_append_drop]
  have e1 : (spans l).take (k * 2) = spans (l.take k) := by
    conv => lhs; rw [hl]
    rw [spans_app, List.take_append_of_le_length (by rw [spans_len]; simp; omega), List.take_of_length_le (by rw [spans_len]; simp; omega)]
  have e2 : (spans l).drop (k * 2 + 2) = spans (l.drop (k + 1)) := by
    conv => lhs; rw [hl]
    rw [spans_app, List.drop_append, List.drop_of_length_le (by rw [spans_len]; simp; omega), List.nil_append, spans_len]
    have : k * 2 + 2 - (l.take k).length * 2 = 2 := by simp; omega
    rw [this]; rfl
  rw [e1, e2, List.set_eq_take_append_cons_drop, if_pos h, spans_app]
  show spans (l.take k) ++ [I p.1, I p.2] ++ spans (l.drop (k + 1)) = spans (l.take k) ++ spans (p :: l.drop (k + 1))
  rw [show p :: l.drop (k + 1) = [p] ++ l.drop (k + 1) from rfl, spans_app, ← List.append_assoc]; rfl

/-- The place of a span. -/
def plc (kb gb n i : Nat) : Nat × Nat := if i < n then (gb, i * 2) else (kb, 8 + (i - n) * 2)
theorem ptrs_at {kb gb n i : Nat} (h : i < n + 6) : (ptrs kb gb n)[i]? = some [Value.pointer (some ⟨(plc kb gb n i).1, (plc kb gb n i).2, none⟩)] := by
  unfold plc
  split
  · rename_i hi; exact ptrs_lo hi
  · rename_i hi
    have := ptrs_hi (kb := kb) (gb := gb) (n := n) (i := i - n) (by omega)
    rw [show n + (i - n) = i by omega] at this
    exact this

section
variable {lo hi : Nat} {k : Kn} {kb gb : Nat} {ra : Option Addr} {rc : Nat} {gc : Nat} {w w' : World}
theorem KIn.calm {B : Nat} (h : KIn lo hi k kb ra rc (some ⟨gb, 0, none⟩) gc w) (hc : CalmFrom B w w') : KIn lo hi k kb ra rc (some ⟨gb, 0, none⟩) gc w' :=
  ⟨⟨hc.keep kb _ h.at_.here (.inl rfl), h.at_.rods.calm hc, h.at_.grow.imp id fun g => g.calm hc⟩, h.kbl, h.kbh, h.gah⟩
theorem KIn.growB (h : KIn lo hi k kb ra rc (some ⟨gb, 0, none⟩) gc w) (hn : k.grow.length ≠ 0) : lo ≤ gb ∧ gb < hi ∧ gb < w.heap.size ∧ gb ≠ kb := by
  have h1 := h.at_.grow.in hn gb 0 rfl
  refine ⟨h1.1, h.gah hn gb 0 rfl, h1.2, fun e => ?_⟩
  obtain ⟨g, e1, R⟩ := h.at_.grow.at hn
  cases e1
  obtain ⟨cs, hcs⟩ := R.type rfl
  rw [e, h.at_.here] at hcs
  simp only [Option.some.injEq, Obj.cells.injEq] at hcs
  exact absurd hcs.2.1 (by decide)
theorem KIn.read (h : KIn lo hi k kb ra rc (some ⟨gb, 0, none⟩) gc w) {i : Nat} {s : Sp} (hx : k.all[i]? = some s) : w.cell? ⟨(plc kb gb k.grow.length i).1, (plc kb gb k.grow.length i).2, none⟩ = some (I s.1) ∧ w.cell? ⟨(plc kb gb k.grow.length i).1, (plc kb gb k.grow.length i).2 + 1, none⟩ = some (I s.2) := by
  have hlt := (List.getElem?_eq_some_iff.1 hx).1
  rw [all_len] at hlt
  unfold plc
  split
  · rename_i h0
    rw [all_get_lo k h0] at hx
    cases hx
    obtain ⟨g1, g2⟩ := spans_get (getElem_of_lt h0)
    have e1 := h.at_.grow.cells.at g1
    have e2 := h.at_.grow.cells.at g2
    rw [Nat.zero_add] at e1 e2
    exact ⟨e1, e2⟩
  · rename_i h0
    have hg := all_get_hi k (i := i - k.grow.length) (by omega)
    rw [show k.grow.length + (i - k.grow.length) = i by omega, hx] at hg
    cases hg
    obtain ⟨g1, g2⟩ := knC_get k ra rc (some ⟨gb, 0, none⟩) gc (i := i - k.grow.length) (by omega)
    exact ⟨h.at_.cell g1, h.at_.cell g2⟩
theorem KIn.write (h : KIn lo hi k kb ra rc (some ⟨gb, 0, none⟩) gc w) {i : Nat} (hx : i < k.grow.length + 6) (hn : k.grow.length ≠ 0) (s : Sp) {R : Value → World → Prop}
    (hR : ∀ w', KIn lo hi (k.put i s) kb ra rc (some ⟨gb, 0, none⟩) gc w' → Chg [(plc kb gb k.grow.length i).1] w w' → R (.tuple #[]) w') (hr : ∀ w' x, x = kb ∨ x = gb → Chg [x] w w' → Cells w' ra (rods k.c.rods)) :
    RunsTo Try.prog ((Instr.storeAt 95 (.pointer (some ⟨(plc kb gb k.grow.length i).1, (plc kb gb k.grow.length i).2, none⟩)) (spv s)) >>= fun _ => pure (Value.tuple #[])) w R := by
  have hgb := h.growB hn
  unfold plc at hR ⊢
  by_cases h0 : i < k.grow.length
  · rw [if_pos h0] at hR ⊢
    obtain ⟨g, e1, R0⟩ := h.at_.grow.at hn
    cases e1
    refine row_put (P := Try.prog) (t := 95) (size := 2) (by kernel_rfl) (by kernel_rfl) R0 (i := i) h0 (vs := [I s.1, I s.2]) rfl rfl (by simp <;> exact ⟨trivial, trivial⟩) fun w' R1 c1 => hR w' ⟨⟨?_, ?_, ?_⟩, h.kbl, h.kbh, ?_⟩ c1
    · rw [(c1.keep kb (lt_of_some h.at_.here) (by simp; omega)), h.at_.here]
      unfold Kn.put; rw [if_pos h0]; simp [knC]
    · rw [(put_c k i s).1]; exact hr w' gb (.inr rfl) c1
    · rw [(put_c k i s).2]
      rw [spans_put h0] at R1
      unfold Kn.put; rw [if_pos h0]
      exact .inr R1
    · rw [(put_c k i s).2]; exact h.gah
  · rw [if_neg h0] at hR ⊢
    have e : k.put i s = k.set (i - k.grow.length) s := by unfold Kn.put; rw [if_neg h0]
    rw [e] at hR
    exact h.store (i := i - k.grow.length) (by omega) s hR fun w' hc => hr w' kb (.inl rfl) hc
end

theorem lies_sub {bs : List Nat} {lo hi : Nat} {w : World} {a : Option Addr} {vs : List Value} {c : Nat} (h : Lies bs lo hi w a vs) (hc : vs.length ≤ c) (l : Nat) : Lies bs lo hi w (subA a c l 1) (vs.drop l) := fun i v hv => by
  rw [List.getElem?_drop] at hv
  have hlt := (List.getElem?_eq_some_iff.1 hv).1
  obtain ⟨b, o, rfl, hb, hcell⟩ := h _ _ hv
  refine ⟨b, o + l, ?_, hb, by rw [Nat.add_assoc]; exact hcell⟩
  unfold subA
  rw [if_neg (by omega)]
  simp [Addr.add]
theorem lies_calm {bs : List Nat} {lo hi B : Nat} {w w' : World} {a : Option Addr} {vs : List Value} (h : Lies bs lo hi w a vs) (hc : CalmFrom B w w') : Lies bs lo hi w' a vs := fun i v hv => by
  obtain ⟨b, o, e, hb, hcell⟩ := h i v hv
  exact ⟨b, o, e, hb, cell_calm hc hcell⟩
end Go.Proofs.R03
end
section
/- Contracts: exactly. -/
namespace Go.Proofs.R03
open Go.Vc Go.RowKit Go.Proofs

def limitsB : Bn := ⟨(-1000, 1000), (-1000, 1000), (0, 600), (-100, 100)⟩
def vals (t : Tr) : List Int := t.grow ++ [t.air, t.drive, t.heat, t.press, t.arc, t.force]
theorem vals_len (t : Tr) : (vals t).length = t.grow.length + 6 := by simp [vals]
/-- What is known when the first values are exact. -/
def exN (c : Clk) (vs : List Int) : Nat → Kn
  | 0 => newK c limitsB
  | j + 1 => (exN c vs j).put j ((vs[j]?).getD 0, (vs[j]?).getD 0)
theorem exN_c (c : Clk) (vs : List Int) : ∀ j, (exN c vs j).c = c ∧ (exN c vs j).grow.length = c.rods.length
  | 0 => ⟨rfl, by simp [exN, newK]⟩
  | j + 1 => by
    have h := exN_c c vs j
    have := put_c (exN c vs j) j ((vs[j]?).getD 0, (vs[j]?).getD 0)
    exact ⟨this.1.trans h.1, this.2.trans h.2⟩
theorem exN_all (c : Clk) (vs : List Int) : ∀ j, j ≤ c.rods.length + 6 → ∀ i, (exN c vs j).all[i]? = if i < j then some ((vs[i]?).getD 0, (vs[i]?).getD 0) else (newK c limitsB).all[i]?
  | 0, _, i => by rw [if_neg (by omega)]; rfl
  | j + 1, hj, i => by
    have ih := exN_all c vs j (by omega)
    have hl := (exN_c c vs j).2
    rw [exN, all_put _ (by omega), List.getElem?_set]
    by_cases h : j = i
    · subst h
      rw [if_pos rfl, if_pos (by rw [all_len]; omega), if_pos (by omega)]
    · rw [if_neg h, ih i]
      by_cases h2 : i < j
      · rw [if_pos h2, if_pos (by omega)]
      · rw [if_neg h2, if_neg (by omega)]
def exactK (c : Clk) (t : Tr) : Kn := ⟨c, t.grow.map fun x => (x, x), (t.air, t.air), (t.drive, t.drive), (t.heat, t.heat), (t.press, t.press), (t.arc, t.arc), (t.force, t.force)⟩
theorem exN_end {c : Clk} {t : Tr} (h : t.grow.length = c.rods.length) : exN c (vals t) (c.rods.length + 6) = exactK c t := by
  have hc := exN_c c (vals t) (c.rods.length + 6)
  refine Kn.ext hc.1 (by rw [hc.2]; simp [exactK, h]) ?_
  have e2 : (exactK c t).all = (vals t).map fun x => (x, x) := by simp [exactK, Kn.all, vals]
  rw [e2]
  apply List.ext_getElem?
  intro i
  rw [exN_all c (vals t) _ (Nat.le_refl _) i, List.getElem?_map]
  by_cases hi : i < c.rods.length + 6
  · rw [if_pos hi, getElem_of_lt (show i < (vals t).length by rw [vals_len]; omega)]; rfl
  · rw [if_neg hi, List.getElem?_eq_none (by rw [all_len]; simp [newK]; omega), List.getElem?_eq_none (by rw [vals_len]; omega)]; rfl

/-- Is a truth one of a clock? -/
def inAt (c : Clk) (t : Tr) (i : Nat) : Bool := match (vals t)[i]?, (newK c limitsB).all[i]? with
  | some x, some s => decide (s.1 ≤ x ∧ x ≤ s.2)
  | _, _ => false
def ofB (c : Clk) (t : Tr) : Bool := decide (t.grow.length = c.rods.length) && (List.range (c.rods.length + 6)).all (inAt c t)

theorem calm_old {B : Nat} {u w w' : World} (h : Below B u w) (hB : B ≤ u.heap.size) (hc : CalmFrom B w w') : Below B u w' :=
  ⟨hc.os.trans h.os, hc.tape.trans h.tape, hc.output.trans h.output, Nat.le_trans h.size hc.size, fun k hk => by
    have h1 := h.block k hk
    have hlt : k < w.heap.size := Nat.lt_of_lt_of_le (Nat.lt_of_lt_of_le hk hB) h.size
    rw [← h1]
    have := hc.keep k _ (Array.getElem?_eq_getElem hlt) (.inr hk)
    rw [this, Array.getElem?_eq_getElem hlt]⟩
theorem KIn.wide {lo hi lo' hi' : Nat} {k : Kn} {kb : Nat} {ra : Option Addr} {rc : Nat} {ga : Option Addr} {gc : Nat} {w : World} (h : KIn lo hi k kb ra rc ga gc w) (h1 : lo' ≤ lo) (h2 : hi ≤ hi') : KIn lo' hi' k kb ra rc ga gc w :=
  ⟨⟨h.at_.here, h.at_.rods, h.at_.grow.imp id fun g => g.base h1⟩, Nat.le_trans h1 h.kbl, Nat.lt_of_lt_of_le h.kbh h2, fun h0 b o e => Nat.lt_of_lt_of_le (h.gah h0 b o e) h2⟩

/-- Between two rounds. -/
structure ExInv (c : Clk) (t : Tr) (bs : List Nat) (lo hi lo2 hi2 kb gb : Nat) (ra : Option Addr) (rc gc n0 : Nat) (G : Nat → Prop) (a : Option Addr) (n cap j : Nat) (w : World) : Prop where
  kin : KIn lo hi (exN c (vals t) j) kb ra rc (some ⟨gb, 0, none⟩) gc w
  rest : Lies bs lo2 hi2 w a (ints ((vals t).drop j))
  len : n = ((vals t).drop j).length
  cap : n ≤ cap
  own : ∀ x ∈ bs, x < w.heap.size
  gh : ∀ b, G b → n0 ≤ b
  size : n0 ≤ w.heap.size
  ok : ∀ i, i < j → inAt c t i = true

def ExactPost (c : Clk) (t : Tr) (ra : Option Addr) (rc : Nat) (w : World) (e : Ending) (w' : World) : Prop :=
  ∃ p, e = .returned (.tuple #[.pointer p, .bool (ofB c t)]) ∧ Below w.heap.size w w' ∧ (ofB c t = true → ∃ kb ga gc, p = some ⟨kb, 0, none⟩ ∧ KIn w.heap.size w'.heap.size (exactK c t) kb ra rc ga gc w')

set_option maxRecDepth 100000 in
set_option maxHeartbeats 4000000 in
theorem exactly_any {c : Clk} (hck : check c = 0) (t : Tr) {ra ta : Option Addr} {rc tc : Nat} {w : World} (hc : Cells w ra (rods c.rods)) (ht : Cells w ta (ints t.grow)) : Calls Try.prog 42 #[c.v ra rc, t.v ta tc] w (ExactPost c t ra rc w) := by
  obtain ⟨h8, hne, hrod, hlenC, hbase, hair, hdr⟩ := check_len hck
  have hn1 : 0 < c.rods.length := List.length_pos_iff.2 hne
  refine vc42 _ _ _ _ _ _ _ _ _ _ _ _ _ _ _ _ _ _ w _ fun m1 h1 m2 h2 m3 h3 m4 h4 w1 hb1 hk1 => ?_
  refine Pure.calls (limits_any w1) fun w2 hb2 => ⟨_, _, _, _, _, _, _, _, rfl, .all hb2, fun w3 hb3 hk3 => ?_⟩
  refine (newK_in (b := limitsB) (hc.keep hb3) (by omega)).mono fun e w4 he => ?_
  obtain ⟨kb, ga, gc, rfl, hb4, K4⟩ := he
  have z2 := hb2.size
  have z3 := hk3.size
  have z4 := hb4.size
  have own1 := hk1.own
  refine ⟨_, rfl, .all hb4, fun hne w5 hb5 _ => ⟨some ⟨kb, 0, none⟩, ?_, hb5, fun h => ?_⟩, fun heq m7 h7 m8 h8' w6 hb6 hk6 hc6 hc7 => ?_⟩
  · have : ofB c t = false := by unfold ofB; rw [decide_eq_false (by omega)]; rfl
    rw [this]
  · exfalso; unfold ofB at h; rw [decide_eq_false (by omega)] at h; simp at h
  have htl : t.grow.length = c.rods.length := by omega
  have hng : (newK c limitsB).grow.length ≠ 0 := by simp [newK]; omega
  obtain ⟨gb, rfl, _⟩ := K4.at_.grow.at hng
  refine (concat_any (l1 := t.grow) (l2 := [t.air, t.drive, t.heat, t.press, t.arc, t.force]) (sc := 2) (a1 := ta) (a2 := some ⟨m7, 0, none⟩) (c1 := tc) (c2 := 6) (by intro h; rw [h] at htl; simp at htl; omega) (by simp) (by simp; omega) (Cells.obj hc6) (ht.keep hb6) (Cells.obj hc7)).mono fun e w7 he => ?_
  obtain ⟨a2, c2, rfl, hb7, R7⟩ := he
  have z6 := hk6.size
  have z7 := hb7.size
  have own6 := hk6.own
  refine ⟨_, _, _, rfl, .all hb7, fun m13 h13 => ?_⟩
  obtain ⟨bs, hbs⟩ : ∃ bs, bs = [m8, m7, m13, m4, m3, m2, m1] := ⟨_, rfl⟩
  have hout : ∀ x ∈ bs, x < w3.heap.size ∨ w4.heap.size ≤ x := by
    rw [hbs]; intro x hx
    have a1 := own1 m1 (by simp); have a2 := own1 m2 (by simp); have a3 := own1 m3 (by simp); have a4 := own1 m4 (by simp)
    simp at hx; omega
  have hcap : (vals t).length ≤ c2 := by
    rcases R7.own.2 with ⟨_, h0⟩ | ⟨g, cap, cur, he, _, _, hle, _⟩
    · simp at h0
    · simp only [Value.slice.injEq] at he
      rw [he.2.2, vals_len]; simpa using hle
  have L7 : Lies bs w6.heap.size w7.heap.size w7 a2 (ints (vals t)) := by
    have := ((Lies.new (bs := [m8, m7, m4, m3, m2, m1]) (n := w6.heap.size) R7.cells (.inr fun b o e => (R7.lt b o e).1) own6).push (m := m13) (.inr h13)).sub (cs := bs) (by rw [hbs]; intro x hx; simp at hx ⊢; omega)
    exact this
  have hK4 : w.heap.size ≤ w3.heap.size := hb3.size
  have noEq : ∀ P : Nat, w3.heap.size ≤ P → P < w4.heap.size → P ∉ bs := fun P p1 p2 hm => by have := hout P hm; omega
  rw [← hbs]
  refine ⟨ptrs kb gb c.rods.length, fun G ls j w' => match ls with | [.op p, .bool _, .sl a n cap] => p = some ⟨kb, 0, none⟩ ∧ j ≤ c.rods.length + 6 ∧ ExInv c t bs w3.heap.size w4.heap.size w6.heap.size w7.heap.size kb gb ra rc gc w7.heap.size G a n cap j w' | _ => False, _, all_iter (gc := gc) (by omega), ?_, ?_⟩
  · intro w10 hb10 hk10 _ _ _
    refine ⟨rfl, Nat.zero_le _, (K4.out (Chg.kept hk6) (fun x hx => ?_) (hc.keep hb6)).keep hb7 |>.out (Chg.kept hk10) hout (hc.keep hb10), L7.kept hk10, by rw [List.drop_zero, vals_len]; simp, by rw [vals_len] at hcap; simpa using hcap, hk10.own, fun b h => h.elim, hk10.size, fun i hi => by omega⟩
    have a1 := own1 m1 (by simp); have a2 := own1 m2 (by simp); have a3 := own1 m3 (by simp); have a4 := own1 m4 (by simp)
    simp at hx; omega
  rintro p tb a n cap j G F w11 w12 ⟨rfl, hj, E⟩ hc12 hF1 hF2 hF3 hb12
  have hEc := exN_c c (vals t) j
  have K12 := E.kin.calm hc12
  have L12 := lies_calm E.rest hc12
  have z11 := E.size
  have z12 := hc12.size
  have hFn : ∀ b, F b → w7.heap.size ≤ b := fun b hb => by
    rcases hF2 b hb with h | h
    · exact E.gh b h
    · omega
  refine ⟨?_, fun y hy => ?_, fun hend w28 hb28 hk28 w29 hc29 => ?_⟩
  · have := K12.at_.cell (i := 7) rfl
    rw [hEc.2] at this; exact this
  · have hjlt : j < c.rods.length + 6 := by
      have := (List.getElem?_eq_some_iff.1 hy).1
      rw [ptrs_len] at this; exact this
    rw [ptrs_at hjlt] at hy
    cases hy
    obtain ⟨P, hP⟩ : ∃ P, P = plc kb gb c.rods.length j := ⟨_, rfl⟩
    have hgb := K12.growB (by rw [hEc.2]; omega)
    have hPr : w3.heap.size ≤ P.1 ∧ P.1 < w4.heap.size ∧ (P.1 = kb ∨ P.1 = gb) := by
      rw [hP]; unfold plc; split
      · exact ⟨hgb.1, hgb.2.1, .inr rfl⟩
      · exact ⟨K12.kbl, K12.kbh, .inl rfl⟩
    rw [← hP]
    have hnP := noEq P.1 hPr.1 hPr.2.1
    have nP : P.1 ≠ m8 ∧ P.1 ≠ m7 ∧ P.1 ≠ m13 ∧ P.1 ≠ m4 ∧ P.1 ≠ m3 ∧ P.1 ≠ m2 ∧ P.1 ≠ m1 := by rw [hbs] at hnP; simpa using hnP
    have hjv : j < (vals t).length := by rw [vals_len]; omega
    have hja : j < (newK c limitsB).all.length := by rw [all_len]; simp [newK]; omega
    have hall : (exN c (vals t) j).all[j]? = some ((newK c limitsB).all[j]) := by rw [exN_all c (vals t) j hj j, if_neg (by omega), getElem_of_lt hja]
    have hin : inAt c t j = decide (((newK c limitsB).all[j]).1 ≤ (vals t)[j] ∧ (vals t)[j] ≤ ((newK c limitsB).all[j]).2) := by
      unfold inAt; rw [getElem_of_lt hjv, getElem_of_lt hja]
    generalize (newK c limitsB).all[j] = s at *
    have hv0 : (ints ((vals t).drop j))[0]? = some (I (vals t)[j]) := ints_get (by rw [List.getElem?_drop, Nat.add_zero]; exact getElem_of_lt hjv)
    have hpos : 0 < n := by rw [E.len, List.length_drop]; omega
    refine ⟨_, rfl, fun m29 w13 w14 hb14 hk14 w15 hc15 w16 => ?_⟩
    have K14 := K12.out (Chg.kept hk14) hout (by rw [hEc.1]; exact hc.keep hb14)
    have K15 := K14.calm hc15
    have L15 := lies_calm (L12.kept hk14) hc15
    have z14 := hk14.size
    have z15 := hc15.size
    have rd15 := K15.read hall
    rw [hEc.2, ← hP] at rd15
    obtain ⟨b0, o0, rfl, ⟨nb0, _, _⟩, e15⟩ := L15 0 _ hv0
    have nb0' : b0 ≠ m8 ∧ b0 ≠ m7 ∧ b0 ≠ m13 ∧ b0 ≠ m4 ∧ b0 ≠ m3 ∧ b0 ≠ m2 ∧ b0 ≠ m1 := by rw [hbs] at nb0; simpa using nb0
    refine ⟨P.1, P.2, rfl, trivial, _, _, rd15.1, rd15.2, .inr nP, b0, o0, rfl, ⟨by omega, by omega⟩, _, cell_at' e15 (by simp), .inr nb0', fun w17 hb17 hk17 => ?_⟩
    have hc17 : Cells w17 ra (rods c.rods) := hc.keep hb17
    have K17 := K15.out hk17.chg hout (by rw [hEc.1]; exact hc17)
    have L17 := L15.chg hk17.chg
    refine Pure.calls (has_any s (vals t)[j] w17) fun w18 hb18 => ⟨_, rfl, .all hb18, fun hf w19 hb19 hk19 F6 w20 hc20 hF6 w21 hb21 hk21 w22 hc22 => ?_, fun hf => ?_⟩
    · have hno : ofB c t = false := by
        rw [Bool.eq_false_iff]
        intro hof
        unfold ofB at hof
        rw [Bool.and_eq_true, List.all_eq_true] at hof
        have := hof.2 j (List.mem_range.2 hjlt)
        rw [hin] at this
        simp at hf this
        omega
      exact ⟨some ⟨kb, 0, none⟩, by rw [hno], calm_old hb21 (Nat.le_refl _) hc22, fun h => by rw [hno] at h; cases h⟩
    · have hin' : inAt c t j = true := by rw [hin]; simpa using hf
      have K18 := K17.keep hb18
      have L18 := L17.below hb18
      obtain ⟨_, _, e0, _, e18⟩ := L18 0 _ hv0
      cases e0
      refine ⟨b0, o0, rfl, ⟨by omega, by omega⟩, _, cell_at' e18 (by simp), .inr nb0', fun w23 hb23 hk23 => ?_⟩
      have K23 := K18.out hk23.chg hout (by rw [hEc.1]; exact hc.keep hb23)
      have L23 := L18.chg hk23.chg
      refine Pure.calls (one_any _ w23) fun w24 hb24 => ⟨_, _, rfl, .all hb24, P.1, P.2, rfl, trivial, fun w25 hb25 hk25 => ?_⟩
      have K25 := (K23.keep hb24).out hk25.chg hout (by rw [hEc.1]; exact hc.keep hb25)
      have L25 := (L23.below hb24).chg hk25.chg
      have z17 := hk17.size
      have z18 := hb18.size
      have z23 := hk23.size
      have z24 := hb24.size
      have z25 := hk25.size
      have hwr := fun R => K25.write (R := R) (i := j) (by rw [hEc.2]; exact hjlt) (by rw [hEc.2]; omega) ((vals t)[j], (vals t)[j])
      rw [hEc.2, ← hP] at hwr
      have hkbw : w.heap.size ≤ kb := Nat.le_trans hK4 K12.kbl
      refine hwr _ (fun w26 K26 c26 => ?_) (fun w' x hx hc' => ?_)
      · refine ⟨c26.own (fun b hb => ⟨hk25.own b hb, fun hm => hnP (List.mem_singleton.1 hm ▸ hb)⟩) (fun b hb => ⟨by have := hF3 b hb; omega, fun hm => by rw [List.mem_singleton.1 hm] at hb; have := hFn _ hb; omega⟩) (fun _ => ⟨hb25.size, by simp; omega⟩), ⟨⟨by decide, by omega⟩, fun w27 hb27 hk27 => ?_⟩⟩
        refine ⟨rfl, by omega, ?_, ?_, ?_, ?_, hk27.own, hFn, ?_, fun i hi => ?_⟩
        · have := K26.out (Chg.kept hk27) hout (by rw [(put_c _ _ _).1, hEc.1]; exact hc.keep hb27)
          rw [exN, getElem_of_lt hjv]; exact this
        · have := ((L25.out c26 (by simp; omega)).kept hk27)
          have := lies_sub this (c := cap) (by rw [show (ints ((vals t).drop j)).length = ((vals t).drop j).length by simp [ints], ← E.len]; exact E.cap) 1
          rw [show (ints ((vals t).drop j)).drop 1 = ints ((vals t).drop (j + 1)) by simp [ints, List.map_drop]] at this
          exact this
        · rw [E.len, List.length_drop, List.length_drop]; show _ - 1 = _; omega
        · have := E.cap; show n - 1 ≤ cap - 1; omega
        · have := hk27.size; have := c26.size; omega
        · by_cases e : i = j
          · rw [e]; exact hin'
          · exact E.ok i (by omega)
      · rw [hEc.1]
        refine Chg.cells_old hc' (fun y hy => ?_) (hc.keep hb25) hc hb25
        rw [List.mem_singleton.1 hy]
        rcases hx with rfl | rfl
        · exact hkbw
        · omega
  · rw [ptrs_len] at hend
    subst hend
    have hof : ofB c t = true := by
      unfold ofB
      rw [decide_eq_true htl, Bool.true_and, List.all_eq_true]
      exact fun i hi => E.ok i (List.mem_range.1 hi)
    have b29 := calm_old hb28 (Nat.le_refl _) hc29
    have K28 := K12.out (Chg.kept hk28) hout (by rw [hEc.1]; exact hc.keep hb28)
    have K29 := K28.calm hc29
    rw [exN_end htl] at K29
    have z28 := hk28.size
    have z29 := hc29.size
    exact ⟨some ⟨kb, 0, none⟩, by rw [hof], b29, fun _ => ⟨kb, _, gc, rfl, K29.wide hK4 (by omega)⟩⟩
end Go.Proofs.R03
end
section
/- Contracts: Exact. Truths that are within what is known. -/
namespace Go.Proofs.R03
open Go.Vc Go.RowKit Go.Proofs

/-- A truth that is possible. -/
structure InK (t : Tr) (k : Kn) : Prop where
  len : t.grow.length = k.grow.length
  grow : ∀ (i : Nat) (x : Int) (s : Sp), t.grow[i]? = some x → k.grow[i]? = some s → s.1 ≤ x ∧ x ≤ s.2
  air : k.air.1 ≤ t.air ∧ t.air ≤ k.air.2
  drive : k.drive.1 ≤ t.drive ∧ t.drive ≤ k.drive.2
  heat : k.heat.1 ≤ t.heat ∧ t.heat ≤ k.heat.2
  press : k.press.1 ≤ t.press ∧ t.press ≤ k.press.2
  arc : k.arc.1 ≤ t.arc ∧ t.arc ≤ k.arc.2
  force : k.force.1 ≤ t.force ∧ t.force ≤ k.force.2

theorem vals_lo {t : Tr} {i : Nat} (h : i < t.grow.length) : (vals t)[i]? = t.grow[i]? := List.getElem?_append_left h
theorem vals_hi (t : Tr) (j : Nat) : (vals t)[t.grow.length + j]? = [t.air, t.drive, t.heat, t.press, t.arc, t.force][j]? := by
  unfold vals; rw [List.getElem?_append_right (by omega), show t.grow.length + j - t.grow.length = j by omega]
theorem all_lo' {k : Kn} {i : Nat} (h : i < k.grow.length) : k.all[i]? = k.grow[i]? := List.getElem?_append_left h
theorem all_hi' (k : Kn) (j : Nat) : k.all[k.grow.length + j]? = [k.air, k.drive, k.heat, k.press, k.arc, k.force][j]? := by
  unfold Kn.all; rw [List.getElem?_append_right (by omega), show k.grow.length + j - k.grow.length = j by omega]

theorem inK_all {t : Tr} {k : Kn} : InK t k ↔ t.grow.length = k.grow.length ∧ ∀ (i : Nat) (x : Int) (s : Sp), (vals t)[i]? = some x → k.all[i]? = some s → s.1 ≤ x ∧ x ≤ s.2 := by
  constructor
  · intro h
    refine ⟨h.len, fun i x s hx hs => ?_⟩
    by_cases hi : i < t.grow.length
    · rw [vals_lo hi] at hx; rw [all_lo' (by rw [← h.len]; exact hi)] at hs; exact h.grow i x s hx hs
    · obtain ⟨j, rfl⟩ : ∃ j, i = t.grow.length + j := ⟨i - t.grow.length, by omega⟩
      rw [vals_hi] at hx; rw [h.len, all_hi'] at hs
      match j, hx, hs with
      | 0, hx, hs => cases hx; cases hs; exact h.air
      | 1, hx, hs => cases hx; cases hs; exact h.drive
      | 2, hx, hs => cases hx; cases hs; exact h.heat
      | 3, hx, hs => cases hx; cases hs; exact h.press
      | 4, hx, hs => cases hx; cases hs; exact h.arc
      | 5, hx, hs => cases hx; cases hs; exact h.force
      | n + 6, hx, hs => simp at hx
  · rintro ⟨hl, h⟩
    have hh : ∀ j (x : Int) (s : Sp), [t.air, t.drive, t.heat, t.press, t.arc, t.force][j]? = some x → [k.air, k.drive, k.heat, k.press, k.arc, k.force][j]? = some s → s.1 ≤ x ∧ x ≤ s.2 := fun j x s hx hs =>
      h (t.grow.length + j) x s (by rw [vals_hi]; exact hx) (by rw [hl, all_hi']; exact hs)
    refine ⟨hl, fun i x s hx hs => ?_, hh 0 _ _ rfl rfl, hh 1 _ _ rfl rfl, hh 2 _ _ rfl rfl, hh 3 _ _ rfl rfl, hh 4 _ _ rfl rfl, hh 5 _ _ rfl rfl⟩
    have hi : i < t.grow.length := (List.getElem?_eq_some_iff.1 hx).1
    exact h i x s (by rw [vals_lo hi]; exact hx) (by rw [all_lo' (by rw [← hl]; exact hi)]; exact hs)

theorem newK_len (c : Clk) (b : Bn) : (newK c b).grow.length = c.rods.length := by simp [newK]
theorem ofB_in {c : Clk} {t : Tr} : ofB c t = true ↔ InK t (newK c limitsB) := by
  rw [inK_all, newK_len, ofB, Bool.and_eq_true, decide_eq_true_eq, List.all_eq_true]
  refine and_congr_right fun hl => ?_
  have hv := vals_len t
  have ha := all_len (newK c limitsB)
  rw [newK_len] at ha
  constructor
  · intro h i x s hx hs
    have := h i (List.mem_range.2 (by have := (List.getElem?_eq_some_iff.1 hx).1; omega))
    unfold inAt at this
    rw [hx, hs] at this
    simpa using this
  · intro h i hi
    have hi := List.mem_range.1 hi
    unfold inAt
    rw [getElem_of_lt (l := vals t) (by omega), getElem_of_lt (l := (newK c limitsB).all) (by omega)]
    have := h i _ _ (getElem_of_lt (by omega)) (getElem_of_lt (by omega))
    simpa using this

theorem open_limits {c : Clk} (h : check c = 0) : openErr c limitsB = 0 := by
  unfold openErr
  rw [if_pos h, if_pos]
  unfold OkB limitsB okS
  decide

theorem bd_in {x A : Int} {s : Sp} (h : Bd s A) (hx : s.1 ≤ x ∧ x ≤ s.2) : Bd (x, x) A := by
  simp only [Bd] at *; omega
theorem exactK_ok {k : Kn} {t : Tr} (hk : OkK k) (h : InK t k) : OkK (exactK k.c t) := by
  refine ⟨by simp only [exactK, List.length_map, h.len, hk.grown], hk.few, hk.lens, hk.len, hk.base, fun s hs => ?_, bd_in hk.air h.air, bd_in hk.drive h.drive, bd_in hk.heat h.heat, bd_in hk.press h.press, bd_in hk.arc h.arc, bd_in hk.force h.force⟩
  obtain ⟨x, hx, rfl⟩ := List.mem_map.1 hs
  obtain ⟨i, hi, rfl⟩ := List.mem_iff_getElem.1 hx
  have hik : i < k.grow.length := by rw [← h.len]; exact hi
  exact bd_in (hk.grow _ (List.getElem_mem hik)) (h.grow i _ _ (getElem_of_lt hi) (getElem_of_lt hik))

/-- What Exact returns. -/
def lowest (n d : Int) : Int × Int := (n.tdiv (Int.gcd (max n (0 - n)) d : Nat), d.tdiv (Int.gcd (max n (0 - n)) d : Nat))
def exactR (c : Clk) (t : Tr) : (Int × Int) × Int :=
  if check c = 0 then (if ofB c t then (lowest (rateK (exactK c t)).1 (10000 * lenC c.rods), 0) else ((0, 0), 2)) else ((0, 0), check c)

theorem tdiv_bd {n A : Int} {g : Nat} (h : -A ≤ n ∧ n ≤ A) : -A ≤ n.tdiv g ∧ n.tdiv g ≤ A := by
  have h1 : (n.tdiv g).natAbs ≤ n.natAbs := by
    rw [Int.natAbs_tdiv]; exact Nat.div_le_self _ _
  omega

theorem exact_any (c : Clk) (t : Tr) {ra ta : Option Addr} {rc tc : Nat} {w : World} (hc : Cells w ra (rods c.rods)) (ht : Cells w ta (ints t.grow)) : Calls Try.prog 14 #[c.v ra rc, t.v ta tc] w (Pure w (.tuple #[spv (exactR c t).1, I (exactR c t).2])) := by
  refine vc14 _ _ _ _ _ _ _ _ _ _ _ _ _ _ _ _ _ _ w _ fun m1 h1 m2 h2 m3 h3 w1 hb1 hk1 => ?_
  refine Pure.calls (check_any c (hc.keep hb1)) fun w2 hb2 => ⟨_, rfl, .all hb2, fun he w3 hb3 _ => ⟨by unfold exactR; rw [if_neg he], hb3⟩, fun he w4 hb4 hk4 => ?_⟩
  refine (exactly_any he t (hc.keep hb4) (ht.keep hb4)).mono fun e w5 h => ?_
  obtain ⟨p, rfl, hb5, hp⟩ := h
  refine ⟨_, _, rfl, .all hb5, fun hf w6 hb6 _ => ⟨by unfold exactR; rw [if_pos he, if_neg (by simpa using hf)], hb6⟩, fun hf w7 hb7 hk7 => ?_⟩
  have hof : ofB c t = true := by simpa using hf
  obtain ⟨kb, ga, gc, rfl, K5⟩ := hp hof
  have hok : OkK (exactK c t) := exactK_ok (newK_ok (open_limits he)) (ofB_in.1 hof)
  have z4 : w1.heap.size ≤ w4.heap.size := by have := hb2.size; have := hk4.size; omega
  have K7 := K5.out (Chg.kept hk7) (fun x hx => .inl (by have := hk1.own x hx; omega)) (hc.keep hb7)
  refine Pure.calls (rate_any K7.at_ hok) fun w8 hb8 => ⟨_, _, rfl, .all hb8, fun w9 hb9 hk9 => ?_⟩
  have K9 := (K7.keep hb8).out (Chg.kept hk9) (fun x hx => .inl (by have := hk1.own x hx; omega)) (hc.keep hb9)
  have hbd := rateK_bd hok
  have hlen := hok.len
  simp only [Bd] at hbd
  refine Pure.calls (parts_any K9.at_ hok) fun w10 hb10 => ⟨_, _, rfl, .all hb10, by omega, fun w11 hb11 _ => ?_⟩
  refine Pure.calls (gcd_any (a := max (rateK (exactK c t)).1 (0 - (rateK (exactK c t)).1)) (by omega) (by show 0 ≤ 10000 * lenC c.rods; have : (exactK c t).c = c := rfl; rw [this] at hlen; omega) w11) fun w12 hb12 => ⟨_, rfl, .all hb12, ?_⟩
  have hlc : 100 ≤ lenC c.rods ∧ lenC c.rods ≤ 100000 := hlen
  have hg : ((Int.gcd (max (rateK (exactK c t)).1 (0 - (rateK (exactK c t)).1)) (10000 * lenC c.rods) : Nat) : Int) ≠ 0 := by
    rw [ne_eq, Int.natCast_eq_zero, Int.gcd_eq_zero_iff]; omega
  have b1 := tdiv_bd (g := Int.gcd (max (rateK (exactK c t)).1 (0 - (rateK (exactK c t)).1)) (10000 * lenC c.rods)) (n := (rateK (exactK c t)).1) (A := 30000000000000000) hbd.1
  have b2 := tdiv_bd (g := Int.gcd (max (rateK (exactK c t)).1 (0 - (rateK (exactK c t)).1)) (10000 * lenC c.rods)) (n := 10000 * lenC c.rods) (A := 30000000000000000) (by omega)
  refine ⟨⟨hg, Int.le_trans (by decide) b1.1, Int.le_trans b1.2 (by decide)⟩, ⟨hg, Int.le_trans (by decide) b2.1, Int.le_trans b2.2 (by decide)⟩, fun w13 hb13 _ => ⟨?_, hb13⟩⟩
  unfold exactR lowest
  rw [if_pos he, if_pos hof]
  rfl
end Go.Proofs.R03
end
section
/- Contracts: end, Ends. -/
namespace Go.Proofs.R03
open Go.Vc Go.RowKit Go.Proofs

/-- The rounds of end. -/
def endN (of : Sp → Int) (goal : Int) (k : Kn) : Nat → Kn
  | 0 => k
  | j + 1 =>
    let p := endN of goal k j
    let s := (p.all[j]?).getD (0, 0)
    if of (rateK (p.put j (s.1, s.1))) = goal then p.put j (s.1, s.1) else (p.put j (s.1, s.1)).put j (s.2, s.2)
def endK (of : Sp → Int) (k : Kn) : Kn := endN of (of (rateK k)) k (k.grow.length + 6)

theorem okK_put {k : Kn} (h : OkK k) {j : Nat} {s : Sp} (hs : k.all[j]? = some s) {x : Int} (hx : x = s.1 ∨ x = s.2) : OkK (k.put j (x, x)) := by
  have hb : ∀ A, Bd s A → Bd (x, x) A := fun A hA => by simp only [Bd] at *; omega
  unfold Kn.put
  split
  · rename_i hj
    rw [all_lo' hj] at hs
    refine ⟨by simp [h.grown], h.few, h.lens, h.len, h.base, fun y hy => ?_, h.air, h.drive, h.heat, h.press, h.arc, h.force⟩
    rcases List.mem_or_eq_of_mem_set hy with hy | rfl
    · exact h.grow y hy
    · exact hb _ (h.grow s (List.mem_of_getElem? hs))
  · rename_i hj
    obtain ⟨i, rfl⟩ : ∃ i, j = k.grow.length + i := ⟨j - k.grow.length, by omega⟩
    rw [all_hi'] at hs
    rw [show k.grow.length + i - k.grow.length = i by omega]
    match i, hs with
    | 0, hs => cases hs; exact ⟨h.grown, h.few, h.lens, h.len, h.base, h.grow, hb _ h.air, h.drive, h.heat, h.press, h.arc, h.force⟩
    | 1, hs => cases hs; exact ⟨h.grown, h.few, h.lens, h.len, h.base, h.grow, h.air, hb _ h.drive, h.heat, h.press, h.arc, h.force⟩
    | 2, hs => cases hs; exact ⟨h.grown, h.few, h.lens, h.len, h.base, h.grow, h.air, h.drive, hb _ h.heat, h.press, h.arc, h.force⟩
    | 3, hs => cases hs; exact ⟨h.grown, h.few, h.lens, h.len, h.base, h.grow, h.air, h.drive, h.heat, hb _ h.press, h.arc, h.force⟩
    | 4, hs => cases hs; exact ⟨h.grown, h.few, h.lens, h.len, h.base, h.grow, h.air, h.drive, h.heat, h.press, hb _ h.arc, h.force⟩
    | 5, hs => cases hs; exact ⟨h.grown, h.few, h.lens, h.len, h.base, h.grow, h.air, h.drive, h.heat, h.press, h.arc, hb _ h.force⟩
    | n + 6, hs => simp at hs
theorem endN_c (of : Sp → Int) (goal : Int) (k : Kn) : ∀ j, (endN of goal k j).c = k.c ∧ (endN of goal k j).grow.length = k.grow.length
  | 0 => ⟨rfl, rfl⟩
  | j + 1 => by
    have h := endN_c of goal k j
    unfold endN
    dsimp only
    split
    · have := put_c (endN of goal k j) j ((((endN of goal k j).all[j]?).getD (0, 0)).1, (((endN of goal k j).all[j]?).getD (0, 0)).1)
      exact ⟨this.1.trans h.1, this.2.trans h.2⟩
    · have h1 := put_c (endN of goal k j) j ((((endN of goal k j).all[j]?).getD (0, 0)).1, (((endN of goal k j).all[j]?).getD (0, 0)).1)
      have h2 := put_c ((endN of goal k j).put j ((((endN of goal k j).all[j]?).getD (0, 0)).1, (((endN of goal k j).all[j]?).getD (0, 0)).1)) j ((((endN of goal k j).all[j]?).getD (0, 0)).2, (((endN of goal k j).all[j]?).getD (0, 0)).2)
      exact ⟨h2.1.trans (h1.1.trans h.1), h2.2.trans (h1.2.trans h.2)⟩
theorem put_put_ok {k : Kn} (h : OkK k) {j : Nat} {s : Sp} (hs : k.all[j]? = some s) : OkK ((k.put j (s.1, s.1)).put j (s.2, s.2)) := by
  have e : (k.put j (s.1, s.1)).put j (s.2, s.2) = k.put j (s.2, s.2) := by
    have hj : j < k.grow.length + 6 := by have := (List.getElem?_eq_some_iff.1 hs).1; rwa [all_len] at this
    have h1 := put_c k j (s.1, s.1)
    have h2 := put_c (k.put j (s.1, s.1)) j (s.2, s.2)
    have h3 := put_c k j (s.2, s.2)
    refine Kn.ext (by rw [h2.1, h1.1, h3.1]) (by rw [h2.2, h1.2, h3.2]) ?_
    rw [all_put _ (by rw [h1.2]; exact hj), all_put _ hj, all_put _ hj, List.set_set]
  rw [e]
  exact okK_put h hs (.inr rfl)
theorem endN_ok {of : Sp → Int} {goal : Int} {k : Kn} (hk : OkK k) : ∀ j, j ≤ k.grow.length + 6 → OkK (endN of goal k j)
  | 0, _ => hk
  | j + 1, hj => by
    have h := endN_ok (of := of) (goal := goal) hk j (by omega)
    have hl := (endN_c of goal k j).2
    have hs := getElem_of_lt (l := (endN of goal k j).all) (i := j) (by rw [all_len]; omega)
    unfold endN
    dsimp only
    rw [hs]
    dsimp only [Option.getD_some]
    split
    · exact okK_put h hs (.inl rfl)
    · exact put_put_ok h hs

theorem below_kept {u w w' : World} {bs : List Nat} (h : Below u.heap.size u w) (hk : Kept bs w w') (hb : ∀ x ∈ bs, u.heap.size ≤ x) : Below u.heap.size u w' :=
  ⟨hk.os.trans h.os, hk.tape.trans h.tape, hk.output.trans h.output, Nat.le_trans h.size hk.size, fun k h1 => by
    have h0 := h.size
    exact (hk.block k (by omega) fun hm => by have := hb k hm; omega).trans (h.block k h1)⟩
theorem below_kin {u w w' : World} {bs : List Nat} {rs : List (Nat × Nat)} (h : Below u.heap.size u w) (hk : KeptIn ((0, u.heap.size) :: rs) bs w w') (hb : ∀ x ∈ bs, u.heap.size ≤ x) : Below u.heap.size u w' :=
  ⟨hk.os.trans h.os, hk.tape.trans h.tape, hk.output.trans h.output, Nat.le_trans h.size hk.size, fun k h1 => by
    have h0 := h.size
    exact (hk.block k (by omega) (fun hm => by have := hb k hm; omega) ⟨_, List.mem_cons_self, Nat.zero_le _, h1⟩).trans (h.block k h1)⟩
theorem below_then {u w w' : World} (h : Below u.heap.size u w) (hk : Below w.heap.size w w') : Below u.heap.size u w' := h.trans (hk.mono h.size)
/-- What was changed of what was there. -/
theorem chg_in {u w w' : World} {S T : List Nat} (h : Chg S u w) (hk : Chg T w w') (hb : ∀ x ∈ T, x ∈ S ∨ u.heap.size ≤ x) : Chg S u w' :=
  ⟨hk.os.trans h.os, hk.tape.trans h.tape, hk.output.trans h.output, Nat.le_trans h.size hk.size, fun k h1 h2 => by
    have h0 := h.size
    exact (hk.keep k (by omega) fun hm => by rcases hb k hm with h | h; exact h2 h; omega).trans (h.keep k h1 h2)⟩
theorem chg_calm {B : Nat} {u w w' : World} {S : List Nat} (h : Chg S u w) (hu : u.heap.size ≤ B) (hc : CalmFrom B w w') : Chg S u w' :=
  ⟨hc.os.trans h.os, hc.tape.trans h.tape, hc.output.trans h.output, Nat.le_trans h.size hc.size, fun k h1 h2 => by
    have h0 := h.size
    have hlt : k < w.heap.size := by omega
    rw [← h.keep k h1 h2, Array.getElem?_eq_getElem hlt]
    exact hc.keep k _ (Array.getElem?_eq_getElem hlt) (.inr (by omega))⟩
/-- A function of spans. -/
def FnS (f : Nat) (fi fc : List Value) (of : Sp → Int) : Prop := Callable Try.prog f ∧ ∀ s w, Calls Try.prog f (fi ++ [spv s] ++ fc).toArray w (Pure w (I (of s)))
def EndPost (t : Tr) (S : List Nat) (w : World) (e : Ending) (w' : World) : Prop := ∃ a c, e = .returned (t.v a c) ∧ Chg S w w' ∧ RowZ 3 1 w.heap.size [] a t.grow.length c (ints t.grow) w'

structure EndInv (of : Sp → Int) (goal : Int) (k : Kn) (lo hi kb gb : Nat) (ra : Option Addr) (rc gc : Nat) (w0 : World) (j : Nat) (w : World) : Prop where
  le : j ≤ k.grow.length + 6
  kin : KIn lo hi (endN of goal k j) kb ra rc (some ⟨gb, 0, none⟩) gc w
  lies : Lies [] 0 lo w ra (rods k.c.rods)
  chg : Chg [kb, gb] w0 w

set_option maxRecDepth 100000 in
set_option maxHeartbeats 4000000 in
theorem end_any {lo hi : Nat} {k : Kn} {kb gb : Nat} {ra : Option Addr} {rc gc : Nat} {w : World} (K : KIn lo hi k kb ra rc (some ⟨gb, 0, none⟩) gc w) (hk : OkK k) (hn : k.grow.length ≠ 0) (hhi : hi ≤ w.heap.size) (hr : Lies [] 0 lo w ra (rods k.c.rods)) {f : Nat} {fi fc : List Value} {of : Sp → Int} (hf : FnS f fi fc of) :
    Calls Try.prog 58 #[.pointer (some ⟨kb, 0, none⟩), .func (.func f) fi.toArray fc.toArray] w (EndPost (truthK (endK of k)) [kb, gb] w) := by
  obtain ⟨g1, g2, g3, g4⟩ := K.growB hn
  have kbh := K.kbh
  have kbl := K.kbl
  have hfew := hk.few
  have hgrown := hk.grown
  refine vc58 _ _ _ _ _ w _ fun m1 h1 m2 h2 m3 h3 w1 hk1 => ?_
  have hm3 : ∀ x ∈ [m3, m2, m1], w.heap.size ≤ x := by simp; omega
  have b1 := below_kin (.refl _ _) hk1 hm3
  refine Pure.calls (rate_any (K.keep b1).at_ hk) fun w2 hb2 => ⟨_, _, rfl, hb2, hf.1, fun w3 hk3 => ?_⟩
  have b3 := below_kin (below_then b1 hb2) hk3 hm3
  refine Pure.calls (hf.2 _ w3) fun w4 hb4 => ⟨_, rfl, hb4, fun m4 h4 _ _ => ?_⟩
  have b4 := below_then b3 hb4
  have hm4 : ∀ x ∈ [m4, m3, m2, m1], w.heap.size ≤ x := by simp; omega
  refine ⟨ptrs kb gb k.grow.length, fun _ ls j w' => match ls with | [] => EndInv of (of (rateK k)) k lo hi kb gb ra rc gc w j w' | _ => False, _, all_iter (gc := gc) (by omega), fun w7 hk7 => ?_, ?_⟩
  · have b7 := below_kept b4 hk7 hm4
    exact ⟨Nat.zero_le _, K.keep b7, hr.below b7, Chg.of_below b7⟩
  intro j F4 F5 w8 w9 E hc9 _ _ hF5
  have hEc := endN_c of (of (rateK k)) k j
  have K9 := E.kin.calm hc9
  have L9 : Lies [] 0 lo w9 ra (rods k.c.rods) := lies_calm E.lies hc9
  have c9 := chg_calm E.chg (Nat.le_refl _) hc9
  refine ⟨?_, fun y hy => ?_, fun hend w28 hk28 => ?_⟩
  · have := K9.at_.cell (i := 7) rfl
    rw [hEc.2] at this; exact this
  · have hjlt : j < k.grow.length + 6 := by
      have := (List.getElem?_eq_some_iff.1 hy).1
      rwa [ptrs_len] at this
    have hjE : j < (endN of (of (rateK k)) k j).all.length := by rw [all_len, hEc.2]; exact hjlt
    have hall := getElem_of_lt hjE
    have hstep : endN of (of (rateK k)) k (j + 1) = if of (rateK ((endN of (of (rateK k)) k j).put j ((endN of (of (rateK k)) k j).all[j].1, (endN of (of (rateK k)) k j).all[j].1))) = of (rateK k) then (endN of (of (rateK k)) k j).put j ((endN of (of (rateK k)) k j).all[j].1, (endN of (of (rateK k)) k j).all[j].1) else ((endN of (of (rateK k)) k j).put j ((endN of (of (rateK k)) k j).all[j].1, (endN of (of (rateK k)) k j).all[j].1)).put j ((endN of (of (rateK k)) k j).all[j].2, (endN of (of (rateK k)) k j).all[j].2) := by
      conv => lhs; unfold endN
      dsimp only
      rw [hall]; rfl
    have hokj := endN_ok (of := of) (goal := of (rateK k)) hk j E.le
    generalize hp : endN of (of (rateK k)) k j = p at *
    generalize hs : p.all[j] = s at *
    obtain ⟨P, hP⟩ : ∃ P, P = plc kb gb k.grow.length j := ⟨_, rfl⟩
    have hPv : P.1 = kb ∨ P.1 = gb := by rw [hP]; unfold plc; split <;> simp
    have hy' : y = [Value.pointer (some ⟨P.1, P.2, none⟩)] := by
      rw [hP]; unfold plc
      by_cases h0 : j < k.grow.length
      · rw [ptrs_lo h0] at hy; rw [if_pos h0]; exact (Option.some.inj hy).symm
      · rw [show j = k.grow.length + (j - k.grow.length) by omega, ptrs_hi (by omega)] at hy; rw [if_neg h0]; exact (Option.some.inj hy).symm
    have hout : ∀ (bs : List Nat), (∀ x ∈ bs, w.heap.size ≤ x) → ∀ x ∈ bs, x < lo ∨ hi ≤ x := fun bs h x hx => .inr (Nat.le_trans hhi (h x hx))
    have hrods : ∀ {q : Kn} {u u' : World}, q.c = k.c → Lies [] 0 lo u ra (rods k.c.rods) → ∀ x, x = kb ∨ x = gb → Chg [x] u u' → Cells u' ra (rods q.c.rods) := fun hq hL x hx hc => by
      rw [hq]
      exact (hL.out hc fun y hy => .inr (by simp at hy; omega)).cells
    refine ⟨_, hy', fun _ w10 w11 hk11 w12 hc12 _ => ?_⟩
    have c11 := chg_in c9 (Chg.kept hk11) fun x hx => .inr (hm4 x hx)
    have L11 := L9.out (Chg.kept hk11) (fun x hx => .inr (Nat.le_trans (by omega) (hm4 x hx)))
    have K11 := K9.out (Chg.kept hk11) (hout _ hm4) (by rw [hEc.1]; exact L11.cells)
    have K12 := K11.calm hc12
    have L12 : Lies [] 0 lo w12 ra (rods k.c.rods) := lies_calm L11 hc12
    have c12 := chg_calm c11 (Nat.le_refl _) hc12
    have own12 : ∀ x ∈ [m4, m3, m2, m1], x < w12.heap.size := fun x hx => Nat.lt_of_lt_of_le (hk11.own x hx) hc12.size
    have z12 := hc12.size
    have z11 := hk11.size
    have F12 : ∀ b, F5 b → w.heap.size ≤ b ∧ b < w12.heap.size := fun b hb => by have := hF5 b hb; omega
    have rd := K12.read hall
    rw [hEc.2, ← hP] at rd
    refine ⟨_, _, rfl, trivial, _, _, rd.1, rd.2, .inl (by omega), fun m18 h18 w14 hk14 => ?_⟩
    have hm5 : ∀ x ∈ [m18, m4, m3, m2, m1], w.heap.size ≤ x := by
      intro x hx
      rcases List.mem_cons.1 hx with rfl | hx
      · have := c12.size; omega
      · exact hm4 x hx
    have c14 := chg_in c12 (Chg.kept hk14) fun x hx => .inr (hm5 x hx)
    have L14 := L12.out (Chg.kept hk14) (fun x hx => .inr (Nat.le_trans (by omega) (hm5 x hx)))
    have K14 := K12.out (Chg.kept hk14) (hout _ hm5) (by rw [hEc.1]; exact L14.cells)
    refine Pure.calls (one_any _ w14) fun w15 hb15 => ⟨_, _, rfl, .all hb15, P.1, P.2, rfl, trivial, fun w16 hk16 => ?_⟩
    have c16 := chg_in (chg_in c14 (Chg.of_below (S := []) hb15) (by simp)) (Chg.kept hk16) fun x hx => .inr (hm5 x hx)
    have L16 := (L14.below hb15).out (Chg.kept hk16) (fun x hx => .inr (Nat.le_trans (by omega) (hm5 x hx)))
    have K16 := (K14.keep hb15).out (Chg.kept hk16) (hout _ hm5) (by rw [hEc.1]; exact L16.cells)
    have F16 : ∀ b, F5 b → b < w16.heap.size ∧ b ∉ [P.1] := fun b hb => by
      have := F12 b hb
      have := hk14.size; have := hb15.size; have := hk16.size
      simp; omega
    have hwr := fun R => K16.write (R := R) (i := j) (by rw [hEc.2]; exact hjlt) (by rw [hEc.2]; exact hn) (s.1, s.1)
    rw [hEc.2, ← hP] at hwr
    refine hwr _ (fun w17 K17 d17 => ?_) (fun w' x hx hc' => hrods hEc.1 L16 x hx hc')
    have hc17 := put_c p j (s.1, s.1)
    have L17 := L16.out d17 (fun x hx => .inr (by simp at hx; omega))
    have c17 := chg_in c16 d17 (by simp; omega)
    have z17 := d17.size
    refine ⟨d17.own (fun b hb => ⟨hk16.own b hb, fun hx => by have := hm5 b hb; simp at hx; omega⟩) F16 (fun h => by cases h), fun w18 hk18 => ?_⟩
    have d18 := hk18.chg
    have c18 := chg_in c17 d18 fun x hx => .inr (hm5 x hx)
    have L18 := L17.out d18 (fun x hx => .inr (Nat.le_trans (by omega) (hm5 x hx)))
    have K18 := K17.out d18 (hout _ hm5) (by rw [hc17.1, hEc.1]; exact L18.cells)
    have hok1 : OkK (p.put j (s.1, s.1)) := okK_put hokj hall (.inl rfl)
    refine Pure.calls (rate_any K18.at_ hok1) fun w19 hb19 => ⟨_, _, rfl, .all hb19, hf.1, fun w20 hk20 => ?_⟩
    have d20 := hk20.chg
    have c20 := chg_in (chg_in c18 (Chg.of_below (S := []) hb19) (by simp)) d20 fun x hx => .inr (hm5 x hx)
    have L20 := (L18.below hb19).out d20 (fun x hx => .inr (Nat.le_trans (by omega) (hm5 x hx)))
    have K20 := (K18.keep hb19).out d20 (hout _ hm5) (by rw [hc17.1, hEc.1]; exact L20.cells)
    refine Pure.calls (hf.2 _ w20) fun w21 hb21 => ⟨_, rfl, .all hb21, fun hx w22 hk22 => ?_, fun hx w27 hk27 => ?_⟩
    · have c22 := chg_in (chg_in c20 (Chg.of_below (S := []) hb21) (by simp)) (Chg.kept hk22) fun x hx => .inr (hm5 x hx)
      have L22 := (L20.below hb21).out (Chg.kept hk22) (fun x hx => .inr (Nat.le_trans (by omega) (hm5 x hx)))
      have K22 := (K20.keep hb21).out (Chg.kept hk22) (hout _ hm5) (by rw [hc17.1, hEc.1]; exact L22.cells)
      refine Pure.calls (one_any _ w22) fun w23 hb23 => ⟨_, _, rfl, .all hb23, P.1, P.2, rfl, trivial, fun w24 hk24 => ?_⟩
      have c24 := chg_in (chg_in c22 (Chg.of_below (S := []) hb23) (by simp)) (Chg.kept hk24) fun x hx => .inr (hm5 x hx)
      have L24 := (L22.below hb23).out (Chg.kept hk24) (fun x hx => .inr (Nat.le_trans (by omega) (hm5 x hx)))
      have K24 := (K22.keep hb23).out (Chg.kept hk24) (hout _ hm5) (by rw [hc17.1, hEc.1]; exact L24.cells)
      have F24 : ∀ b, F5 b → b < w24.heap.size ∧ b ∉ [P.1] := fun b hb => by
        have q := F16 b hb
        have := hk18.size; have := hb19.size; have := hk20.size; have := hb21.size; have := hk22.size; have := hb23.size; have := hk24.size
        refine ⟨by omega, q.2⟩
      have hwr := fun R => K24.write (R := R) (i := j) (by rw [hc17.2, hEc.2]; exact hjlt) (by rw [hc17.2, hEc.2]; exact hn) (s.2, s.2)
      rw [hc17.2, hEc.2, ← hP] at hwr
      refine hwr _ (fun w25 K25 d25 => ?_) (fun w' x hx hc' => hrods (hc17.1.trans hEc.1) L24 x hx hc')
      have L25 := L24.out d25 (fun x hx => .inr (by simp at hx; omega))
      have c25 := chg_in c24 d25 (by simp; omega)
      refine ⟨d25.own (fun b hb => ⟨hk24.own b hb, fun hx => by have := hm5 b hb; simp at hx; omega⟩) F24 (fun h => by cases h), fun w26 hk26 => ?_⟩
      have c26 := chg_in c25 (Chg.kept hk26) fun x hx => .inr (hm5 x hx)
      have L26 := L25.out (Chg.kept hk26) (fun x hx => .inr (Nat.le_trans (by omega) (hm5 x hx)))
      have hc25 := put_c (p.put j (s.1, s.1)) j (s.2, s.2)
      have K26 := K25.out (Chg.kept hk26) (hout _ hm5) (by rw [hc25.1, hc17.1, hEc.1]; exact L26.cells)
      refine ⟨by omega, ?_, L26, c26⟩
      rw [hstep, if_neg hx]; exact K26
    · have c27 := chg_in (chg_in c20 (Chg.of_below (S := []) hb21) (by simp)) (Chg.kept hk27) fun x hx => .inr (hm5 x hx)
      have L27 := (L20.below hb21).out (Chg.kept hk27) (fun x hx => .inr (Nat.le_trans (by omega) (hm5 x hx)))
      have K27 := (K20.keep hb21).out (Chg.kept hk27) (hout _ hm5) (by rw [hc17.1, hEc.1]; exact L27.cells)
      refine ⟨by omega, ?_, L27, c27⟩
      rw [hstep, if_pos hx]; exact K27
  · rw [ptrs_len] at hend
    subst hend
    have c28 := chg_in c9 (Chg.kept hk28) fun x hx => .inr (hm4 x hx)
    have L28 := L9.out (Chg.kept hk28) (fun x hx => .inr (Nat.le_trans (by omega) (hm4 x hx)))
    have K28 := K9.out (Chg.kept hk28) (fun x hx => .inr (Nat.le_trans hhi (hm4 x hx))) (by rw [hEc.1]; exact L28.cells)
    refine (truth_any K28.at_ (by rw [hEc.2]; omega)).mono fun e w29 h => ?_
    obtain ⟨a, c, rfl, hb29, R29⟩ := h
    refine ⟨_, _, _, _, _, _, _, _, _, rfl, .all hb29, fun w30 hk30 w31 hc31 => ⟨a, c, rfl, ?_, ?_⟩⟩
    · have := chg_in (chg_in c28 (Chg.of_below (S := []) hb29) (by simp)) (Chg.kept hk30) fun x hx => .inr (hm4 x hx)
      exact chg_calm this (Nat.le_refl _) hc31
    · have z := c28.size
      have R30 : RowZ 3 1 w.heap.size [] a (truthK (endK of k)).grow.length c (ints (truthK (endK of k)).grow) w30 := by
        refine (R29.imp id fun g => g.of (w' := w30) fun b o e => hk30.block b (g.lt b o e).2 fun hm => ?_).imp id fun g => g.base z
        have := (g.lt b o e).1; have := hk28.own b hm; omega
      exact R30.imp id fun g => g.calm hc31

theorem endLo_any (s : Sp) (w : World) : Calls Try.prog 59 #[spv s] w (Pure w (I s.1)) := vc59 _ _ w _ fun _ _ _ hb _ => ⟨rfl, hb⟩
theorem endHi_any (s : Sp) (w : World) : Calls Try.prog 60 #[spv s] w (Pure w (I s.2)) := vc60 _ _ w _ fun _ _ _ hb _ => ⟨rfl, hb⟩
end Go.Proofs.R03
end
section
/- Contracts: Ends. -/
namespace Go.Proofs.R03
open Go.Vc Go.RowKit Go.Proofs

def nilT : Tr := ⟨[], 0, 0, 0, 0, 0, 0⟩
def endsR (c : Clk) (b : Bn) : Tr × Tr × Int := if openErr c b = 0 then (truthK (endK (·.1) (newK c b)), truthK (endK (·.2) (newK c b)), 0) else (nilT, nilT, openErr c b)
def EndsPost (r : Tr × Tr × Int) (w : World) (e : Ending) (w' : World) : Prop :=
  ∃ a1 c1 a2 c2, e = .returned (.tuple #[r.1.v a1 c1, r.2.1.v a2 c2, I r.2.2]) ∧ Below w.heap.size w w' ∧ RowZ 3 1 w.heap.size [] a1 r.1.grow.length c1 (ints r.1.grow) w' ∧ RowZ 3 1 w.heap.size [] a2 r.2.1.grow.length c2 (ints r.2.1.grow) w'

set_option maxHeartbeats 1000000 in
theorem ends_any (c : Clk) (b : Bn) {ra : Option Addr} {rc : Nat} {w : World} (hc : Cells w ra (rods c.rods)) : Calls Try.prog 23 #[c.v ra rc, b.v] w (EndsPost (endsR c b) w) := by
  refine vc23 _ _ _ _ _ _ _ _ _ _ _ _ _ _ _ _ _ w _ fun m1 h1 m2 h2 m3 h3 m4 h4 w1 hb1 hk1 => ?_
  refine (open_any c b (hc.keep hb1)).mono fun e w2 he => ?_
  obtain ⟨p, rfl, hb2, hp⟩ := he
  refine ⟨_, _, rfl, .all hb2, fun he w3 hb3 _ => ⟨none, 0, none, 0, by unfold endsR; rw [if_neg he]; rfl, hb3, .inl (by unfold endsR; rw [if_neg he]; exact ⟨rfl, rfl⟩), .inl (by unfold endsR; rw [if_neg he]; exact ⟨rfl, rfl⟩)⟩, fun he w4 hb4 hk4 => ?_⟩
  have hok := newK_ok he
  have hl8 : c.rods.length ≤ 8 := hok.few
  have hn0 : (newK c b).grow.length ≠ 0 := by
    rw [newK_len]
    unfold openErr at he
    split at he
    · rename_i hck
      have := (check_len hck).2.1
      intro h0; exact this (List.length_eq_zero_iff.1 h0)
    · rename_i hck; exact absurd he hck
  have own4 : ∀ x ∈ [m4, m3, m2, m1], x < w4.heap.size := hk4.own
  have hr : endsR c b = (truthK (endK (·.1) (newK c b)), truthK (endK (·.2) (newK c b)), 0) := by unfold endsR; rw [if_pos he]
  refine (newK_in (b := b) (hc.keep hb4) (by omega)).mono fun e w5 h => ?_
  obtain ⟨kb, ga, gc, rfl, hb5, K5⟩ := h
  obtain ⟨gb, rfl, _⟩ := K5.at_.grow.at hn0
  refine ⟨_, rfl, .all hb5, fun w6 hb6 hk6 => ?_⟩
  have K6 := K5.out (Chg.kept hk6) (fun x hx => .inl (own4 x hx)) (hc.keep hb6)
  have q6 := K6.growB hn0
  have q6' := K6.kbl
  have z4 := hb4.size
  have z6 := hk6.size
  refine (end_any K6 hok hn0 z6 ((Lies.arg (bs := []) hc hb6 (by simp)).to (Nat.le_refl _) z4) (f := 59) (fi := []) (fc := []) (of := (·.1)) ⟨callOk_run (by decide), fun s w => endLo_any s w⟩).mono fun e w7 h => ?_
  obtain ⟨a1, c1, rfl, c7, R7⟩ := h
  have F7 : ∀ x, x ∈ [m4, m3, m2, m1] → x < w6.heap.size ∧ x ∉ [kb, gb] := fun x hx => by have := own4 x hx; have := hb5.size; simp; omega
  refine ⟨_, _, _, _, _, _, _, _, _, rfl, c7.own F7 (by simp) (fun _ => ⟨by omega, by simp; omega⟩), fun w8 hb8 hk8 => ?_⟩
  refine (newK_in (b := b) (hc.keep hb8) (by omega)).mono fun e w9 h => ?_
  obtain ⟨kb2, ga2, gc2, rfl, hb9, K9⟩ := h
  obtain ⟨gb2, rfl, _⟩ := K9.at_.grow.at hn0
  refine ⟨_, rfl, .all hb9, fun w10 hb10 hk10 => ?_⟩
  have z7 := c7.size
  have z8 := hk8.size
  have z10 := hk10.size
  have zz := hb8.size
  have own8 : ∀ x ∈ [m4, m3, m2, m1], x < w6.heap.size := fun x hx => (F7 x hx).1
  have K10 := K9.out (Chg.kept hk10) (fun x hx => .inl (by have := own8 x hx; omega)) (hc.keep hb10)
  have q10 := K10.growB hn0
  have q10' := K10.kbl
  have hnt : ∀ of, (truthK (endK of (newK c b))).grow.length ≠ 0 := fun of => by
    have := (endN_c of (of (rateK (newK c b))) (newK c b) ((newK c b).grow.length + 6)).2
    unfold truthK endK; rw [List.length_map, this]; exact hn0
  have g7 := R7.resolve_left (fun h => hnt _ h.1)
  have R8 := g7.of (w' := w8) fun b o e => hk8.block b (g7.lt b o e).2 fun hm => by have := own8 b hm; have := (g7.lt b o e).1; omega
  have R9 := R8.below hb9
  have R10 := R9.of (w' := w10) fun b o e => hk10.block b (R9.lt b o e).2 fun hm => by have := own8 b hm; have := (R9.lt b o e).1; omega
  refine (end_any K10 hok hn0 z10 ((Lies.arg (bs := []) hc hb10 (by simp)).to (Nat.le_refl _) zz) (f := 60) (fi := []) (fc := []) (of := (·.2)) ⟨callOk_run (by decide), fun s w => endHi_any s w⟩).mono fun e w11 h => ?_
  obtain ⟨a2, c2, rfl, c11, R11⟩ := h
  have z9 := hb9.size
  refine ⟨_, _, _, _, _, _, _, _, _, rfl, c11.own (fun x hx => by have := own8 x hx; simp; omega) (by simp) (fun _ => ⟨by omega, by simp; omega⟩), fun w12 hb12 hk12 => ?_⟩
  rw [hr]
  refine ⟨a1, c1, a2, c2, rfl, hb12, ?_, ?_⟩
  · have R11' := R10.of (w' := w11) fun bb o e => c11.keep bb (R10.lt bb o e).2 fun hm => by have := (R8.lt bb o e).2; simp at hm; omega
    exact .inr ((R11'.of (w' := w12) fun bb o e => hk12.block bb (R11'.lt bb o e).2 fun hm => by have := own8 bb hm; have := (R11'.lt bb o e).1; omega).base (by omega))
  · exact (R11.imp id fun g => g.of fun bb o e => hk12.block bb (g.lt bb o e).2 fun hm => by have := own8 bb hm; have := (g.lt bb o e).1; omega).imp id fun g => g.base (by omega)
end Go.Proofs.R03
end
section
/- The conditions of the functions, printed by program; each is what the generator reckons (kernel_rfl). -/
namespace Go.Proofs
open Go.Vc
set_option maxRecDepth 100000 in
set_option maxHeartbeats 2000000 in
theorem vc70 (n : Int) (ff : Nat) (fi : List Value) (fc : List Value) (w : World) (R : Ending → World → Prop) (h : ∃ (F1 : List Lf → World → Prop), ∃ (F2 : List Lf → Nat), (∀ (w2 :
    World), RowKit.Below w.heap.size w w2 → Kept [] w w2 → F1 [Lf.int IntKind.i64 0, Lf.int IntKind.i64 n] w2) ∧ ∀ (x1 x2 : Int) (w3 : World), RowKit.Below w.heap.size w w3 → F1
    [Lf.int IntKind.i64 x1, Lf.int IntKind.i64 x2] w3 → (x1 < x2 → (-9223372036854775808 ≤ x1 + x2 ∧ x1 + x2 ≤ 9223372036854775807) ∧ (0 ≤ x1 + x2 ∧ x1 + x2 ≤ 18446744073709551615)
    ∧ (0 : Int) ≤ 1 ∧ (-9223372036854775808 ≤ (x1 + x2).fdiv (2 ^ min (Int.toNat 1) IntKind.u64.bits) ∧ (x1 + x2).fdiv (2 ^ min (Int.toNat 1) IntKind.u64.bits) ≤
    9223372036854775807) ∧ Callable Try.prog ff ∧ ∀ (w4 : World), RowKit.Below w.heap.size w w4 → Kept [] w3 w4 → Calls Try.prog ff (fi ++ [Value.int IntKind.i64 ((x1 + x2).fdiv (2
    ^ min (Int.toNat 1) IntKind.u64.bits))] ++ fc).toArray w4 fun (e1 : Ending) (w5 : World) => ∃ (t1 : Bool), e1 = Ending.returned (Value.bool t1) ∧ KeepX true w.heap.size [] (fun _ => False) w4 w5 ∧ ((!t1) = true → (-9223372036854775808 ≤ (x1 + x2).fdiv (2 ^ min (Int.toNat 1) IntKind.u64.bits) + 1 ∧ (x1 + x2).fdiv (2 ^ min (Int.toNat 1)
    IntKind.u64.bits) + (1 : Int) ≤ 9223372036854775807) ∧ ∀ (w6 : World), RowKit.Below w.heap.size w w6 → Kept [] w5 w6 → F1 [Lf.int IntKind.i64 ((x1 + x2).fdiv (2 ^ min
    (Int.toNat 1) IntKind.u64.bits) + 1), Lf.int IntKind.i64 x2] w6 ∧ F2 [Lf.int IntKind.i64 ((x1 + x2).fdiv (2 ^ min (Int.toNat 1) IntKind.u64.bits) + 1), Lf.int IntKind.i64 x2] <
    F2 [Lf.int IntKind.i64 x1, Lf.int IntKind.i64 x2]) ∧ ((!t1) = false → ∀ (w7 : World), RowKit.Below w.heap.size w w7 → Kept [] w5 w7 → F1 [Lf.int IntKind.i64 x1, Lf.int
    IntKind.i64 ((x1 + x2).fdiv (2 ^ min (Int.toNat 1) IntKind.u64.bits))] w7 ∧ F2 [Lf.int IntKind.i64 x1, Lf.int IntKind.i64 ((x1 + x2).fdiv (2 ^ min (Int.toNat 1)
    IntKind.u64.bits))] < F2 [Lf.int IntKind.i64 x1, Lf.int IntKind.i64 x2])) ∧ (x2 ≤ x1 → ∀ (w8 : World), RowKit.Below w.heap.size w w8 → Kept [] w3 w8 → R (Ending.returned
    (Value.int IntKind.i64 x1)) w8)) : Calls Try.prog 70 #[Value.int IntKind.i64 n, Value.func (Fn.func ff) fi.toArray fc.toArray] w R := calls_of_vc (pure := true) (wrapAt := [])
    (muts := []) (esc := []) (args := [SV.pv (PV.one (Lf.int IntKind.i64 n)), SV.pv (PV.one (Lf.fv ff fi fc))]) (vs := [Value.int IntKind.i64 n, Value.func (Fn.func ff) fi.toArray
    fc.toArray]) Try.func70 rfl rfl rfl (Eq.mp (by kernel_rfl) h) 
set_option maxRecDepth 100000 in
set_option maxHeartbeats 2000000 in
theorem vc31 (c0 : Int) (c1 : Int) (c2a : Option Addr) (c2n : Nat) (c2c : Nat) (c3 : Int) (c4 : Int) (c5 : Int) (c6 : Int) (rod : Int) (w : World) (R : Ending → World → Prop) (h :
    ∀ (m1 : Nat), w.heap.size ≤ m1 → ∀ (m2 : Nat), w.heap.size ≤ m2 → ∀ (w1 : World), RowKit.Below w.heap.size w w1 → Kept [m2, m1] w w1 → Calls Try.prog 55 #[Value.agg #[Value.int
    IntKind.i64 c0, Value.int IntKind.i64 c1, Value.slice c2a c2n c2c, Value.int IntKind.i64 c3, Value.int IntKind.i64 c4, Value.int IntKind.i64 c5, Value.int IntKind.i64 c6],
    Value.agg #[Value.int IntKind.i64 0, Value.int IntKind.i64 0, Value.int IntKind.i64 0, Value.int IntKind.i64 0, Value.int IntKind.i64 0, Value.int IntKind.i64 0, Value.int
    IntKind.i64 0, Value.int IntKind.i64 0]] w1 fun (e1 : Ending) (w2 : World) => ∃ (a1 : Option Addr), ∃ (x1 : Int), e1 = Ending.returned (Value.tuple #[Value.pointer a1,
    Value.int IntKind.i64 x1]) ∧ KeepX true w.heap.size [m2, m1] (fun _ => False) w1 w2 ∧ ∀ (m4 : Nat), w2.heap.size ≤ m4 → (x1 ≠ 0 → ∀ (w3 : World), RowKit.Below
    w.heap.size w w3 → Kept [m4, m2, m1] w2 w3 → R (Ending.returned (Value.tuple #[Value.int IntKind.i64 0, Value.int IntKind.i64 0, Value.int IntKind.i64 x1])) w3) ∧ (x1 = 0 →
    (-9223372036854775808 ≤ (↑c2n : Int) - 1 ∧ (↑c2n : Int) - (1 : Int) ≤ 9223372036854775807) ∧ ∀ (m5 : Nat), w2.heap.size ≤ m5 → ∀ (w4 : World), RowKit.Below w.heap.size w w4 →
    Kept [m5, m4, m2, m1] w2 w4 → w4.heap[m5]? = some (Obj.cells #[Value.int IntKind.i64 rod] 3) → Calls Try.prog 51 #[Value.int IntKind.i64 0, Value.int IntKind.i64 ((↑c2n : Int)
    - 1), Value.slice (some { block := m5, off := 0 }) 1 1] w4 fun (e2 : Ending) (w5 : World) => ∃ (t1 : Bool), e2 = Ending.returned (Value.bool t1) ∧ KeepX true w.heap.size [m5,
    m4, m2, m1] (fun _ => False) w4 w5 ∧ ((!t1) = true → ∀ (w6 : World), RowKit.Below w.heap.size w w6 → Kept [m5, m4, m2, m1] w5 w6 → R (Ending.returned (Value.tuple
    #[Value.int IntKind.i64 0, Value.int IntKind.i64 0, Value.int IntKind.i64 7])) w6) ∧ ((!t1) = false → ∃ (m8 : Nat), ∃ (m9 : Nat), c2a = some { block := m8, off := m9 } ∧ (0 ≤
    rod ∧ rod < (↑c2n : Int)) ∧ ∃ (x2 : Int), w5.cell? { block := m8, off := m9 + rod.toNat * 4 + 0 } = some (Value.int IntKind.i64 x2) ∧ (m8 < w.heap.size ∨ m8 ≠ m5 ∧ m8 ≠ m4 ∧ m8
    ≠ m2 ∧ m8 ≠ m1) ∧ ∀ (m10 : Nat), w5.heap.size ≤ m10 → (-9223372036854775808 ≤ x2 - 1 ∧ x2 - (1 : Int) ≤ 9223372036854775807) ∧ ∀ (w7 : World), RowKit.Below w.heap.size w w7 →
    KeptIn [(0, w5.heap.size)] [m5, m10, m4, m2, m1] w5 w7 → w7.heap[m4]? = some (Obj.cells #[Value.pointer a1] 91) → w7.heap[m2]? = some (Obj.cells #[Value.int IntKind.i64 rod] 3)
    → w7.heap[m10]? = some (Obj.cells #[Value.int IntKind.i64 x2] 3) → Calls Try.prog 70 #[Value.int IntKind.i64 (x2 - 1), Value.func (Fn.func 71) #[] #[Value.pointer (some
    { block := m4, off := 0 }), Value.pointer (some { block := m2, off := 0 }), Value.pointer (some { block := m10, off := 0 })]] w7 fun (e3 : Ending) (w8 : World) => ∃ (x3 : Int),
    e3 = Ending.returned (Value.int IntKind.i64 x3) ∧ RowKit.Below w7.heap.size w7 w8 ∧ (-9223372036854775808 ≤ x2 - x3 ∧ x2 - x3 ≤ 9223372036854775807) ∧ ∀ (m14 : Nat),
    w5.heap.size ≤ m14 → m14 < w7.heap.size ∨ w8.heap.size ≤ m14 → ((-9223372036854775808 : Int) ≤ 100000 - (x2 - x3) ∧ 100000 - (x2 - x3) ≤ 9223372036854775807) ∧ ∀ (w9 : World),
    RowKit.Below w.heap.size w w9 → Kept [m5, m14, m10, m4, m2, m1] w8 w9 → w9.heap[m4]? = some (Obj.cells #[Value.pointer a1] 91) → w9.heap[m2]? = some (Obj.cells #[Value.int
    IntKind.i64 rod] 3) → w9.heap[m14]? = some (Obj.cells #[Value.int IntKind.i64 (x2 - x3)] 3) → Calls Try.prog 70 #[Value.int IntKind.i64 (100000 - (x2 - x3)), Value.func
    (Fn.func 73) #[] #[Value.pointer (some { block := m4, off := 0 }), Value.pointer (some { block := m2, off := 0 }), Value.pointer (some { block := m14, off := 0 })]] w9 fun (e4
    : Ending) (w10 : World) => ∃ (x4 : Int), e4 = Ending.returned (Value.int IntKind.i64 x4) ∧ KeepX true w.heap.size [m5, m14, m10, m4, m2, m1] (fun _ => False) w9 w10 ∧
    ∀ (w11 : World), RowKit.Below w.heap.size w w11 → Kept [m5, m14, m10, m4, m2, m1] w10 w11 → w11.heap[m4]? = some (Obj.cells #[Value.pointer a1] 91) → w11.heap[m2]? = some
    (Obj.cells #[Value.int IntKind.i64 rod] 3) → w11.heap[m14]? = some (Obj.cells #[Value.int IntKind.i64 (x2 - x3)] 3) → Calls Try.prog 70 #[Value.int IntKind.i64 x4, Value.func
    (Fn.func 74) #[] #[Value.pointer (some { block := m4, off := 0 }), Value.pointer (some { block := m2, off := 0 }), Value.pointer (some { block := m14, off := 0 })]] w11 fun (e5
    : Ending) (w12 : World) => ∃ (x5 : Int), e5 = Ending.returned (Value.int IntKind.i64 x5) ∧ KeepX true w.heap.size [m5, m14, m10, m4, m2, m1] (fun _ => False) w11 w12
    ∧ (-9223372036854775808 ≤ x2 - x3 + x5 ∧ x2 - x3 + x5 ≤ 9223372036854775807) ∧ ∀ (w13 : World), RowKit.Below w.heap.size w w13 → KeptIn [(0, w12.heap.size)] [m5, m14, m10, m4,
    m2, m1] w12 w13 → Calls Try.prog 72 #[Value.pointer a1, Value.int IntKind.i64 rod, Value.int IntKind.i64 (x2 - x3 + x5)] w13 fun (e6 : Ending) (w14 : World) => ∃ (a2 : Option
    Addr), e6 = Ending.returned (Value.pointer a2) ∧ KeepX true w.heap.size [m5, m14, m10, m4, m2, m1] (fun _ => False) w13 w14 ∧ ∀ (w15 : World), RowKit.Below
    w.heap.size w w15 → KeptIn [(0, w14.heap.size)] [m5, m14, m10, m4, m2, m1] w14 w15 → Calls Try.prog 75 #[Value.pointer a2] w15 fun (e7 : Ending) (w16 : World) => ∃ (x6 : Int),
    e7 = Ending.returned (Value.int IntKind.i64 x6) ∧ KeepX true w.heap.size [m5, m14, m10, m4, m2, m1] (fun _ => False) w15 w16 ∧ (-9223372036854775808 ≤ x2 - x3 + x5 ∧
    x2 - x3 + x5 ≤ 9223372036854775807) ∧ ∀ (w17 : World), RowKit.Below w.heap.size w w17 → Kept [m5, m14, m10, m4, m2, m1] w16 w17 → R (Ending.returned (Value.tuple #[Value.int
    IntKind.i64 (x2 - x3 + x5), Value.int IntKind.i64 x6, Value.int IntKind.i64 0])) w17))) : Calls Try.prog 31 #[Value.agg #[Value.int IntKind.i64 c0, Value.int IntKind.i64 c1,
    Value.slice c2a c2n c2c, Value.int IntKind.i64 c3, Value.int IntKind.i64 c4, Value.int IntKind.i64 c5, Value.int IntKind.i64 c6], Value.int IntKind.i64 rod] w R := calls_of_vc
    (pure := true) (wrapAt := []) (muts := [3, 7, 8, 9]) (esc := []) (args := [SV.pv (PV.agg [Lf.int IntKind.i64 c0, Lf.int IntKind.i64 c1, Lf.sl c2a c2n c2c, Lf.int IntKind.i64
    c3, Lf.int IntKind.i64 c4, Lf.int IntKind.i64 c5, Lf.int IntKind.i64 c6]), SV.pv (PV.one (Lf.int IntKind.i64 rod))]) (vs := [Value.agg #[Value.int IntKind.i64 c0, Value.int
    IntKind.i64 c1, Value.slice c2a c2n c2c, Value.int IntKind.i64 c3, Value.int IntKind.i64 c4, Value.int IntKind.i64 c5, Value.int IntKind.i64 c6], Value.int IntKind.i64 rod])
    Try.func31 rfl rfl rfl (Eq.mp (by kernel_rfl) h) 
set_option maxRecDepth 100000 in
set_option maxHeartbeats 2000000 in
theorem vc71 (i : Int) (cap0b : Nat) (cap1b : Nat) (cap2b : Nat) (w : World) (R : Ending → World → Prop) (h : ∃ (a1 : Option Addr), w.cell? { block := cap0b, off := 0 } = some
    (Value.pointer a1) ∧ ∃ (x1 : Int), w.cell? { block := cap1b, off := 0 } = some (Value.int IntKind.i64 x1) ∧ ∃ (x2 : Int), w.cell? { block := cap2b, off := 0 } = some (Value.int
    IntKind.i64 x2) ∧ (-9223372036854775808 ≤ x2 - i ∧ x2 - i ≤ 9223372036854775807) ∧ (-9223372036854775808 ≤ x2 - i - 1 ∧ x2 - i - (1 : Int) ≤ 9223372036854775807) ∧ ∀ (w1 :
    World), RowKit.Below w.heap.size w w1 → Kept [] w w1 → Calls Try.prog 72 #[Value.pointer a1, Value.int IntKind.i64 x1, Value.int IntKind.i64 (x2 - i - 1)] w1 fun (e1 : Ending)
    (w2 : World) => ∃ (a2 : Option Addr), e1 = Ending.returned (Value.pointer a2) ∧ KeepX true w.heap.size [] (fun _ => False) w1 w2 ∧ ∃ (m2 : Nat), ∃ (m3 : Nat), a2 =
    some { block := m2, off := m3 } ∧ True ∧ ∃ (x3 : Int), ∃ (x4 : Int), ∃ (a3 : Option Addr), ∃ (m4 : Nat), ∃ (m5 : Nat), ∃ (x5 : Int), ∃ (x6 : Int), ∃ (x7 : Int), ∃ (x8 : Int),
    w2.cell? { block := m2, off := m3 + 0 } = some (Value.int IntKind.i64 x3) ∧ w2.cell? { block := m2, off := m3 + 0 + 1 } = some (Value.int IntKind.i64 x4) ∧ w2.cell?
    { block := m2, off := m3 + 0 + 1 + 1 } = some (Value.slice a3 m4 m5) ∧ w2.cell? { block := m2, off := m3 + 0 + 1 + 1 + 1 } = some (Value.int IntKind.i64 x5) ∧ w2.cell?
    { block := m2, off := m3 + 0 + 1 + 1 + 1 + 1 } = some (Value.int IntKind.i64 x6) ∧ w2.cell? { block := m2, off := m3 + 0 + 1 + 1 + 1 + 1 + 1 } = some (Value.int IntKind.i64 x7)
    ∧ w2.cell? { block := m2, off := m3 + 0 + 1 + 1 + 1 + 1 + 1 + 1 } = some (Value.int IntKind.i64 x8) ∧ ∀ (w3 : World), RowKit.Below w.heap.size w w3 → Kept [] w2 w3 → Calls
    Try.prog 50 #[Value.agg #[Value.int IntKind.i64 x3, Value.int IntKind.i64 x4, Value.slice a3 m4 m5, Value.int IntKind.i64 x5, Value.int IntKind.i64 x6, Value.int IntKind.i64
    x7, Value.int IntKind.i64 x8]] w3 fun (e2 : Ending) (w4 : World) => ∃ (t1 : Bool), e2 = Ending.returned (Value.bool t1) ∧ KeepX true w.heap.size [] (fun _ => False) w3
    w4 ∧ ∀ (w5 : World), RowKit.Below w.heap.size w w5 → Kept [] w4 w5 → R (Ending.returned (Value.bool !t1)) w5) : Calls Try.prog 71 #[Value.int IntKind.i64 i, Value.pointer (some
    { block := cap0b, off := 0 }), Value.pointer (some { block := cap1b, off := 0 }), Value.pointer (some { block := cap2b, off := 0 })] w R := calls_of_vc (pure := true) (wrapAt
    := []) (muts := []) (esc := []) (args := [SV.pv (PV.one (Lf.int IntKind.i64 i)), SV.pv (PV.one (Lf.ptr cap0b 0)), SV.pv (PV.one (Lf.ptr cap1b 0)), SV.pv (PV.one (Lf.ptr cap2b
    0))]) (vs := [Value.int IntKind.i64 i, Value.pointer (some { block := cap0b, off := 0 }), Value.pointer (some { block := cap1b, off := 0 }), Value.pointer (some
    { block := cap2b, off := 0 })]) Try.func71 rfl rfl rfl (Eq.mp (by kernel_rfl) h) 
set_option maxRecDepth 100000 in
set_option maxHeartbeats 2000000 in
theorem vc72 (kb : Nat) (ko : Nat) (rod : Int) (n : Int) (w : World) (R : Ending → World → Prop) (h : ∃ (x1 : Int), ∃ (x2 : Int), ∃ (a1 : Option Addr), ∃ (m1 : Nat), ∃ (m2 : Nat),
    ∃ (x3 : Int), ∃ (x4 : Int), ∃ (x5 : Int), ∃ (x6 : Int), w.cell? { block := kb, off := ko + 0 } = some (Value.int IntKind.i64 x1) ∧ w.cell? { block := kb, off := ko + 0 + 1 } =
    some (Value.int IntKind.i64 x2) ∧ w.cell? { block := kb, off := ko + 0 + 1 + 1 } = some (Value.slice a1 m1 m2) ∧ w.cell? { block := kb, off := ko + 0 + 1 + 1 + 1 } = some
    (Value.int IntKind.i64 x3) ∧ w.cell? { block := kb, off := ko + 0 + 1 + 1 + 1 + 1 } = some (Value.int IntKind.i64 x4) ∧ w.cell?
    { block := kb, off := ko + 0 + 1 + 1 + 1 + 1 + 1 } = some (Value.int IntKind.i64 x5) ∧ w.cell? { block := kb, off := ko + 0 + 1 + 1 + 1 + 1 + 1 + 1 } = some (Value.int
    IntKind.i64 x6) ∧ ∀ (m3 : Nat), w.heap.size ≤ m3 → ∀ (w1 : World), RowKit.Below w.heap.size w w1 → Kept [m3] w w1 → Calls Try.prog 94 #[Value.slice a1 m1 m2] w1 fun (e1 :
    Ending) (w2 : World) => ∃ (a2 : Option Addr), ∃ (m4 : Nat), ∃ (m5 : Nat), e1 = Ending.returned (Value.slice a2 m4 m5) ∧ KeepX true w.heap.size [m3] (fun _ => False) w1
    w2 ∧ ∃ (m7 : Nat), ∃ (m8 : Nat), a2 = some { block := m7, off := m8 } ∧ (0 ≤ rod ∧ rod < (↑m4 : Int)) ∧ ∀ (w3 : World), RowKit.Below w.heap.size w w3 → Kept [m3] w2 w3 → RunsTo
    Try.prog ((Instr.storeAt 3 (Value.pointer (some { block := m7, off := m8 + rod.toNat * 4 + 0 })) (Value.int IntKind.i64 n)) >>= fun _ => pure (Value.tuple #[])) w3 fun (v1 :
    Value) (w4 : World) => KeepX true w.heap.size [m3] (fun _ => False) w3 w4 ∧ ∀ (w5 : World), RowKit.Below w.heap.size w w5 → Kept [m3] w4 w5 → Calls Try.prog 57
    #[Value.agg #[Value.int IntKind.i64 x1, Value.int IntKind.i64 x2, Value.slice a2 m4 m5, Value.int IntKind.i64 x3, Value.int IntKind.i64 x4, Value.int IntKind.i64 x5, Value.int
    IntKind.i64 x6], Value.agg #[Value.int IntKind.i64 0, Value.int IntKind.i64 0, Value.int IntKind.i64 0, Value.int IntKind.i64 0, Value.int IntKind.i64 0, Value.int IntKind.i64
    0, Value.int IntKind.i64 0, Value.int IntKind.i64 0]] w5 fun (e2 : Ending) (w6 : World) => ∃ (a3 : Option Addr), e2 = Ending.returned (Value.pointer a3) ∧ KeepX true
    w.heap.size [m3] (fun _ => False) w5 w6 ∧ ∀ (w7 : World), RowKit.Below w.heap.size w w7 → Kept [m3] w6 w7 → R (Ending.returned (Value.pointer a3)) w7) : Calls
    Try.prog 72 #[Value.pointer (some { block := kb, off := ko }), Value.int IntKind.i64 rod, Value.int IntKind.i64 n] w R := calls_of_vc (pure := true) (wrapAt := []) (muts := [])
    (esc := []) (args := [SV.pv (PV.one (Lf.ptr kb ko)), SV.pv (PV.one (Lf.int IntKind.i64 rod)), SV.pv (PV.one (Lf.int IntKind.i64 n))]) (vs := [Value.pointer (some
    { block := kb, off := ko }), Value.int IntKind.i64 rod, Value.int IntKind.i64 n]) Try.func72 rfl rfl rfl (Eq.mp (by kernel_rfl) h) 
set_option maxRecDepth 100000 in
set_option maxHeartbeats 2000000 in
theorem vc73 (i : Int) (cap0b : Nat) (cap1b : Nat) (cap2b : Nat) (w : World) (R : Ending → World → Prop) (h : ∃ (a1 : Option Addr), w.cell? { block := cap0b, off := 0 } = some
    (Value.pointer a1) ∧ ∃ (x1 : Int), w.cell? { block := cap1b, off := 0 } = some (Value.int IntKind.i64 x1) ∧ ∃ (x2 : Int), w.cell? { block := cap2b, off := 0 } = some (Value.int
    IntKind.i64 x2) ∧ (-9223372036854775808 ≤ x2 + i ∧ x2 + i ≤ 9223372036854775807) ∧ (-9223372036854775808 ≤ x2 + i + 1 ∧ x2 + i + (1 : Int) ≤ 9223372036854775807) ∧ ∀ (w1 :
    World), RowKit.Below w.heap.size w w1 → Kept [] w w1 → Calls Try.prog 72 #[Value.pointer a1, Value.int IntKind.i64 x1, Value.int IntKind.i64 (x2 + i + 1)] w1 fun (e1 : Ending)
    (w2 : World) => ∃ (a2 : Option Addr), e1 = Ending.returned (Value.pointer a2) ∧ KeepX true w.heap.size [] (fun _ => False) w1 w2 ∧ ∃ (m2 : Nat), ∃ (m3 : Nat), a2 =
    some { block := m2, off := m3 } ∧ True ∧ ∃ (x3 : Int), ∃ (x4 : Int), ∃ (a3 : Option Addr), ∃ (m4 : Nat), ∃ (m5 : Nat), ∃ (x5 : Int), ∃ (x6 : Int), ∃ (x7 : Int), ∃ (x8 : Int),
    w2.cell? { block := m2, off := m3 + 0 } = some (Value.int IntKind.i64 x3) ∧ w2.cell? { block := m2, off := m3 + 0 + 1 } = some (Value.int IntKind.i64 x4) ∧ w2.cell?
    { block := m2, off := m3 + 0 + 1 + 1 } = some (Value.slice a3 m4 m5) ∧ w2.cell? { block := m2, off := m3 + 0 + 1 + 1 + 1 } = some (Value.int IntKind.i64 x5) ∧ w2.cell?
    { block := m2, off := m3 + 0 + 1 + 1 + 1 + 1 } = some (Value.int IntKind.i64 x6) ∧ w2.cell? { block := m2, off := m3 + 0 + 1 + 1 + 1 + 1 + 1 } = some (Value.int IntKind.i64 x7)
    ∧ w2.cell? { block := m2, off := m3 + 0 + 1 + 1 + 1 + 1 + 1 + 1 } = some (Value.int IntKind.i64 x8) ∧ ∀ (w3 : World), RowKit.Below w.heap.size w w3 → Kept [] w2 w3 → Calls
    Try.prog 50 #[Value.agg #[Value.int IntKind.i64 x3, Value.int IntKind.i64 x4, Value.slice a3 m4 m5, Value.int IntKind.i64 x5, Value.int IntKind.i64 x6, Value.int IntKind.i64
    x7, Value.int IntKind.i64 x8]] w3 fun (e2 : Ending) (w4 : World) => ∃ (t1 : Bool), e2 = Ending.returned (Value.bool t1) ∧ KeepX true w.heap.size [] (fun _ => False) w3
    w4 ∧ ∀ (w5 : World), RowKit.Below w.heap.size w w5 → Kept [] w4 w5 → R (Ending.returned (Value.bool !t1)) w5) : Calls Try.prog 73 #[Value.int IntKind.i64 i, Value.pointer (some
    { block := cap0b, off := 0 }), Value.pointer (some { block := cap1b, off := 0 }), Value.pointer (some { block := cap2b, off := 0 })] w R := calls_of_vc (pure := true) (wrapAt
    := []) (muts := []) (esc := []) (args := [SV.pv (PV.one (Lf.int IntKind.i64 i)), SV.pv (PV.one (Lf.ptr cap0b 0)), SV.pv (PV.one (Lf.ptr cap1b 0)), SV.pv (PV.one (Lf.ptr cap2b
    0))]) (vs := [Value.int IntKind.i64 i, Value.pointer (some { block := cap0b, off := 0 }), Value.pointer (some { block := cap1b, off := 0 }), Value.pointer (some
    { block := cap2b, off := 0 })]) Try.func73 rfl rfl rfl (Eq.mp (by kernel_rfl) h) 
set_option maxRecDepth 100000 in
set_option maxHeartbeats 2000000 in
theorem vc74 (i : Int) (cap0b : Nat) (cap1b : Nat) (cap2b : Nat) (w : World) (R : Ending → World → Prop) (h : ∃ (a1 : Option Addr), w.cell? { block := cap0b, off := 0 } = some
    (Value.pointer a1) ∧ ∃ (x1 : Int), w.cell? { block := cap1b, off := 0 } = some (Value.int IntKind.i64 x1) ∧ ∃ (x2 : Int), w.cell? { block := cap2b, off := 0 } = some (Value.int
    IntKind.i64 x2) ∧ (-9223372036854775808 ≤ x2 + i ∧ x2 + i ≤ 9223372036854775807) ∧ (-9223372036854775808 ≤ x2 + i + 1 ∧ x2 + i + (1 : Int) ≤ 9223372036854775807) ∧ ∀ (w1 :
    World), RowKit.Below w.heap.size w w1 → KeptIn [(0, w.heap.size)] [] w w1 → Calls Try.prog 72 #[Value.pointer a1, Value.int IntKind.i64 x1, Value.int IntKind.i64 (x2 + i + 1)]
    w1 fun (e1 : Ending) (w2 : World) => ∃ (a2 : Option Addr), e1 = Ending.returned (Value.pointer a2) ∧ RowKit.Below w1.heap.size w1 w2 ∧ ∀ (w3 : World), RowKit.Below w.heap.size
    w w3 → KeptIn [(0, w.heap.size), (w1.heap.size, w2.heap.size)] [] w2 w3 → Calls Try.prog 75 #[Value.pointer a2] w3 fun (e2 : Ending) (w4 : World) => ∃ (x3 : Int), e2 =
    Ending.returned (Value.int IntKind.i64 x3) ∧ RowKit.Below w3.heap.size w3 w4 ∧ ∃ (a3 : Option Addr), w.cell? { block := cap0b, off := 0 } = some (Value.pointer a3) ∧ ∃ (x4 :
    Int), w.cell? { block := cap1b, off := 0 } = some (Value.int IntKind.i64 x4) ∧ ∃ (x5 : Int), w.cell? { block := cap2b, off := 0 } = some (Value.int IntKind.i64 x5) ∧
    (-9223372036854775808 ≤ x5 + i ∧ x5 + i ≤ 9223372036854775807) ∧ ∀ (w5 : World), RowKit.Below w.heap.size w w5 → KeptIn [(0, w.heap.size), (w3.heap.size, w4.heap.size),
    (w1.heap.size, w2.heap.size)] [] w4 w5 → Calls Try.prog 72 #[Value.pointer a3, Value.int IntKind.i64 x4, Value.int IntKind.i64 (x5 + i)] w5 fun (e3 : Ending) (w6 : World) => ∃
    (a4 : Option Addr), e3 = Ending.returned (Value.pointer a4) ∧ KeepX true w.heap.size [] (fun _ => False) w5 w6 ∧ ∀ (w7 : World), RowKit.Below w.heap.size w w7 → KeptIn
    [(0, w6.heap.size)] [] w6 w7 → Calls Try.prog 75 #[Value.pointer a4] w7 fun (e4 : Ending) (w8 : World) => ∃ (x6 : Int), e4 = Ending.returned (Value.int IntKind.i64 x6) ∧ KeepX
    true w.heap.size [] (fun _ => False) w7 w8 ∧ ∀ (w9 : World), RowKit.Below w.heap.size w w9 → Kept [] w8 w9 → R (Ending.returned (Value.bool (decide (x6 ≤ x3)))) w9) :
    Calls Try.prog 74 #[Value.int IntKind.i64 i, Value.pointer (some { block := cap0b, off := 0 }), Value.pointer (some { block := cap1b, off := 0 }), Value.pointer (some
    { block := cap2b, off := 0 })] w R := calls_of_vc (pure := true) (wrapAt := []) (muts := []) (esc := []) (args := [SV.pv (PV.one (Lf.int IntKind.i64 i)), SV.pv (PV.one (Lf.ptr
    cap0b 0)), SV.pv (PV.one (Lf.ptr cap1b 0)), SV.pv (PV.one (Lf.ptr cap2b 0))]) (vs := [Value.int IntKind.i64 i, Value.pointer (some { block := cap0b, off := 0 }), Value.pointer
    (some { block := cap1b, off := 0 }), Value.pointer (some { block := cap2b, off := 0 })]) Try.func74 rfl rfl rfl (Eq.mp (by kernel_rfl) h) 
set_option maxRecDepth 100000 in
set_option maxHeartbeats 2000000 in
theorem vc75 (kb : Nat) (ko : Nat) (w : World) (R : Ending → World → Prop) (h : ∀ (w1 : World), RowKit.Below w.heap.size w w1 → Kept [] w w1 → Calls Try.prog 84 #[Value.pointer
    (some { block := kb, off := ko })] w1 fun (e1 : Ending) (w2 : World) => ∃ (x1 : Int), ∃ (x2 : Int), e1 = Ending.returned (Value.agg #[Value.int IntKind.i64 x1, Value.int
    IntKind.i64 x2]) ∧ KeepX true w.heap.size [] (fun _ => False) w1 w2 ∧ ∀ (m2 : Nat), w2.heap.size ≤ m2 → ((-9223372036854775808 : Int) ≤ 0 - x1 ∧ 0 - x1 ≤
    9223372036854775807) ∧ ∀ (w3 : World), RowKit.Below w.heap.size w w3 → Kept [m2] w2 w3 → R (Ending.returned (Value.int IntKind.i64 (max x2 (0 - x1)))) w3) : Calls Try.prog 75
    #[Value.pointer (some { block := kb, off := ko })] w R := calls_of_vc (pure := true) (wrapAt := []) (muts := []) (esc := []) (args := [SV.pv (PV.one (Lf.ptr kb ko))]) (vs :=
    [Value.pointer (some { block := kb, off := ko })]) Try.func75 rfl rfl rfl (Eq.mp (by kernel_rfl) h) 
set_option maxRecDepth 100000 in
set_option maxHeartbeats 2000000 in
theorem vc94 (sa : Option Addr) (sn : Nat) (sc : Nat) (w : World) (R : Ending → World → Prop) (h : ∀ (w1 : World), RowKit.Below w.heap.size w w1 → Kept [] w w1 → RunsTo Try.prog
    ((eqGuard BinOp.eql 23 (Operand.tmp 3) (Operand.const (Value.slice none 0 0)) (Value.slice sa sn sc) (Value.slice none 0 0)) >>= fun _ => binOp BinOp.eql 23 (Value.slice sa sn
    sc) (Value.slice none 0 0)) w1 fun (v1 : Value) (w2 : World) => ∃ (t1 : Bool), v1 = Value.bool t1 ∧ KeepX true w.heap.size [] (fun _ => False) w1 w2 ∧ (t1 = true → ∀
    (w3 : World), RowKit.Below w.heap.size w w3 → Kept [] w2 w3 → R (Ending.returned (Value.slice none 0 0)) w3) ∧ (t1 = false → ∀ (m2 : Nat), w2.heap.size ≤ m2 → ∀ (w4 : World),
    RowKit.Below w.heap.size w w4 → Kept [m2] w2 w4 → w4.heap[m2]? = some (Obj.cells #[] 80) → RunsTo Try.prog (Builtin.append_ #[23, 23] 23 #[Value.slice (some
    { block := m2, off := 0 }) 0 0, Value.slice sa sn sc]) w4 fun (v2 : Value) (w5 : World) => ∃ (a1 : Option Addr), ∃ (m4 : Nat), ∃ (m5 : Nat), v2 = Value.slice a1 m4 m5 ∧ KeepX
    true w.heap.size [m2] (fun _ => False) w4 w5 ∧ ∀ (w6 : World), RowKit.Below w.heap.size w w6 → Kept [m2] w5 w6 → R (Ending.returned (Value.slice a1 m4 m5)) w6)) :
    Calls Try.prog 94 #[Value.slice sa sn sc] w R := calls_of_vc (pure := true) (wrapAt := []) (muts := []) (esc := []) (args := [SV.pv (PV.one (Lf.sl sa sn sc))]) (vs :=
    [Value.slice sa sn sc]) Try.func94 rfl rfl rfl (Eq.mp (by kernel_rfl) h) 
end Go.Proofs
end
section
/- Contracts: Search, Clone, cut, effect. -/
namespace Go.Proofs.R03
open Go.Vc Go.RowKit Go.Proofs

/-- What Search finds. -/
def Found (p : Int → Bool) (n r : Int) : Prop := 0 ≤ r ∧ r ≤ n ∧ (r = 0 ∨ p (r - 1) = false) ∧ (r = n ∨ p r = true)
theorem half_eq (x : Int) : x.fdiv (2 ^ min (Int.toNat 1) IntKind.u64.bits) = x / 2 := by
  rw [show ((2 : Int) ^ min (Int.toNat 1) IntKind.u64.bits) = 2 from by decide]
  exact Int.fdiv_eq_ediv_of_nonneg x (by decide)
theorem search_any {p : Int → Bool} {n : Int} (h0 : 0 ≤ n) (hn : n ≤ 1000000000) {f : Nat} {fi fc : List Value} {w : World} (hc : Callable Try.prog f)
    (hf : ∀ i, 0 ≤ i → i < n → ∀ w', Below w.heap.size w w' → Calls Try.prog f (fi ++ [I i] ++ fc).toArray w' (Pure w' (.bool (p i)))) :
    Calls Try.prog 70 #[I n, .func (.func f) fi.toArray fc.toArray] w fun e w' => ∃ r, e = .returned (I r) ∧ Below w.heap.size w w' ∧ Found p n r := by
  refine vc70 _ _ _ _ w _ ⟨fun ls _ => match ls with | [.int _ a, .int _ b] => 0 ≤ a ∧ a ≤ b ∧ b ≤ n ∧ (a = 0 ∨ p (a - 1) = false) ∧ (b = n ∨ p b = true) | _ => False, fun ls => match ls with | [.int _ a, .int _ b] => (b - a).toNat | _ => 0, fun w2 hb _ => ⟨by omega, h0, by omega, .inl rfl, .inl rfl⟩, ?_⟩
  rintro a b w3 hb3 ⟨ha, hab, hbn, h1, h2⟩
  rw [half_eq]
  refine ⟨fun hlt => ⟨by omega, by omega, by decide, by omega, hc, fun w4 hb4 _ => Pure.calls (hf _ (by omega) (by omega) w4 hb4) fun w5 hb5 => ⟨_, rfl, .all hb5, fun hp => ⟨by omega, fun w6 hb6 _ => ⟨⟨by omega, by omega, hbn, .inr ?_, h2⟩, ?_⟩⟩, fun hp w7 hb7 _ => ⟨⟨ha, by omega, by omega, h1, .inr ?_⟩, ?_⟩⟩⟩, fun hge w8 hb8 _ => ⟨a, rfl, hb8, ha, by omega, h1, ?_⟩⟩
  · rw [show (a + b) / 2 + 1 - 1 = (a + b) / 2 by omega]; simpa using hp
  · show (b - ((a + b) / 2 + 1)).toNat < (b - a).toNat
    omega
  · simpa using hp
  · show ((a + b) / 2 - a).toNat < (b - a).toNat
    omega
  · rw [show a = b by omega]; exact h2

theorem slice_nil {x y : Operand} {q : Addr} {n c : Nat} {w : World} {R : Value → World → Prop} (h : R (.bool false) w) : RunsTo Try.prog ((eqGuard .eql 23 x y (.slice (some q) n c) (.slice none 0 0)) >>= fun _ => binOp .eql 23 (.slice (some q) n c) (.slice none 0 0)) w R := by
  exact ⟨.bool false, w, by kernel_rfl, h⟩
theorem rods_len (l : List Rod) : (rods l).length = l.length * 4 := by
  induction l with
  | nil => rfl
  | cons r l ih => rw [show rods (r :: l) = rodC r ++ rods l by simp [rods], List.length_append, ih]; simp [rodC]; omega
theorem clone_any {l : List Rod} (hne : l ≠ []) (hl : l.length ≤ 1000) {a : Option Addr} {c : Nat} {w : World} (hc : Cells w a (rods l)) : Calls Try.prog 94 #[.slice a l.length c] w fun e w' => ∃ b c', e = .returned (.slice (some ⟨b, 0, none⟩) l.length c') ∧ Below w.heap.size w w' ∧ Row 80 4 w.heap.size [] (some ⟨b, 0, none⟩) l.length c' (rods l) w' := by
  obtain ⟨b, o, rfl, _⟩ := hc 0 _ (getElem_of_lt (by rw [rods_len]; have := List.length_pos_iff.2 hne; omega))
  refine vc94 _ _ _ w _ fun w1 hb1 hk1 => slice_nil ⟨false, rfl, .all (.refl _ _), fun h => (by cases h), fun _ m2 h2 w4 hb4 hk4 hc4 => ?_⟩
  refine append_copy (P := Try.prog) (e := 80) (size := 4) (bytes := 32) (by kernel_rfl) (by omega) (hc.keep hb4) (rods_len l) (by omega) (by omega) (fun a' c' w2 hb2 hcells hnew hpl hrow => ⟨a', _, c', rfl, .all hb2, fun w3 hb3 hk3 => ?_⟩)
  have R0 := hrow.resolve_left (by have := List.length_pos_iff.2 hne; omega)
  have own4 := hk4.own
  have R3 := (R0.of (w' := w3) fun b o e => hk3.block b (R0.lt b o e).2 fun hm => by have := own4 b hm; have := (R0.lt b o e).1; omega).base hb4.size
  obtain ⟨g, rfl, R⟩ := (RowZ.at (.inr R3) (by have := List.length_pos_iff.2 hne; omega) : _)
  exact ⟨g, c', rfl, hb3, R⟩

/-- A clock with a rod of another length. -/
def rodAt (c : Clk) (i : Nat) : Rod := (c.rods[i]?).getD ⟨0, 0, 0, false⟩
def cutL (c : Clk) (i : Nat) (n : Int) : List Rod := c.rods.set i ⟨n, (rodAt c i).lo, (rodAt c i).hi, (rodAt c i).up⟩
def cutC (c : Clk) (i : Nat) (n : Int) : Clk := { c with rods := cutL c i n }
def zeroB : Bn := ⟨(0, 0), (0, 0), (0, 0), (0, 0)⟩
theorem cutL_len (c : Clk) (i : Nat) (n : Int) : (cutL c i n).length = c.rods.length := by simp [cutL]
theorem rods_cut (c : Clk) {i : Nat} (hi : i < c.rods.length) (n : Int) : rods (cutL c i n) = (rods c.rods).set (i * 4) (I n) := by
  unfold cutL rodAt
  rw [getElem_of_lt hi]
  generalize c.rods = l at *
  induction l generalizing i with
  | nil => simp at hi
  | cons r l ih =>
    cases i with
    | zero => rfl
    | succ i =>
      have := ih (i := i) (by simpa using hi)
      simp only [Option.getD_some, List.getElem_cons_succ] at this ⊢
      rw [List.set_cons_succ, show ∀ m, rods (r :: m) = rodC r ++ rods m from fun m => by simp [rods], show ∀ m, rods (r :: m) = rodC r ++ rods m from fun m => by simp [rods], this]
      rw [List.set_append_right _ _ (by simp [rodC]; omega)]
      rw [show (i + 1) * 4 - (rodC r).length = i * 4 by simp [rodC]; omega]

/-- A cell of an object is changed. -/
theorem cells_store {w w' : World} {b : Nat} {cs : List Value} {T : TypeId} {xs : List Value} {off : Nat} {v : Value} (h : w.heap[b]? = some (.cells cs.toArray T (0, 0))) (h' : w'.heap[b]? = some (.cells (cs.take off ++ [v] ++ cs.drop (off + 1)).toArray T (0, 0))) (ho : off < cs.length) (hc : Cells w (some ⟨b, 0, none⟩) xs) : Cells w' (some ⟨b, 0, none⟩) (xs.set off v) := fun i u hi => by
  rw [List.getElem?_set] at hi
  refine ⟨b, 0, rfl, ?_⟩
  have e : cs.take off ++ [v] ++ cs.drop (off + 1) = cs.set off v := by
    rw [List.set_eq_take_append_cons_drop, if_pos ho]; simp
  rw [e] at h'
  rw [Nat.zero_add]
  by_cases hio : off = i
  · subst hio
    rw [if_pos rfl] at hi
    split at hi
    · cases hi
      exact cell_obj h' (by rw [List.getElem?_set_self ho])
    · cases hi
  · rw [if_neg hio] at hi
    have := hc.at hi
    rw [Nat.zero_add] at this
    refine cell_obj h' ?_
    rw [List.getElem?_set_ne hio]
    unfold World.cell? at this
    simpa [h] using this

def CutPost (c : Clk) (w : World) (e : Ending) (w' : World) : Prop :=
  ∃ kb ra rc ga gc, e = .returned (.pointer (some ⟨kb, 0, none⟩)) ∧ Below w.heap.size w w' ∧ w.heap.size ≤ kb ∧ (∀ b o, ra = some ⟨b, o, none⟩ → w.heap.size ≤ b) ∧ KAt w.heap.size (newK c zeroB) kb ra rc ga gc w'
theorem cut_any {B : Nat} {k : Kn} {kb : Nat} {ra : Option Addr} {rc : Nat} {ga : Option Addr} {gc : Nat} {w : World} (h : KAt B k kb ra rc ga gc w) (hl : k.c.rods.length ≤ 1000) {i : Nat} (hi : i < k.c.rods.length) (n : Int) : Calls Try.prog 72 #[.pointer (some ⟨kb, 0, none⟩), I (i : Int), I n] w (CutPost (cutC k.c i n) w) := by
  refine vc72 _ _ _ _ w _ ⟨_, _, _, _, _, _, _, _, _, h.cell (i := 0) rfl, h.cell (i := 1) rfl, h.cell (i := 2) rfl, h.cell (i := 3) rfl, h.cell (i := 4) rfl, h.cell (i := 5) rfl, h.cell (i := 6) rfl, fun m3 h3 w1 hb1 hk1 => ?_⟩
  have hne : k.c.rods ≠ [] := fun e => by rw [e] at hi; simp at hi
  refine (clone_any hne hl (h.rods.keep hb1)).mono fun e w2 he => ?_
  obtain ⟨b, c', rfl, hb2, R2⟩ := he
  have own1 := hk1.own
  refine ⟨_, _, _, rfl, .all hb2, b, 0, rfl, ⟨by omega, by omega⟩, fun w3 hb3 hk3 => ?_⟩
  have R3 := R2.of (w' := w3) fun b o e => hk3.block b (R2.lt b o e).2 fun hm => by have := own1 b hm; have := (R2.lt b o e).1; omega
  obtain ⟨cs, hcs⟩ := R3.type rfl
  have hbl := (R3.lt b 0 rfl).1
  have hz := hb1.size
  obtain ⟨cs, rfl⟩ : ∃ l : List Value, cs = l.toArray := ⟨cs.toList, by simp⟩
  have hlen : i * 4 < cs.length := by
    have h0 : (rods k.c.rods)[i * 4]? = some (I k.c.rods[i].len) := (rods_get (getElem_of_lt hi)).1
    have := R3.cells.at h0
    rw [Nat.zero_add] at this
    have h1 : cs[i * 4]? = some (I k.c.rods[i].len) := by simpa [World.cell?, hcs] using this
    exact (List.getElem?_eq_some_iff.1 h1).1
  have heq : 0 + (i : Int).toNat * 4 + 0 = i * 4 := by omega
  rw [heq]
  refine obj_store (cs := cs) (vs := [I n]) hcs (by kernel_rfl) (by kernel_rfl) (by show i * 4 + 1 ≤ _; omega) rfl (by simp <;> exact trivial) fun w4 hh4 c4 => ?_
  have hc4 := cells_store hcs hh4 hlen R3.cells
  rw [← rods_cut k.c hi n] at hc4
  have n3 : m3 ≠ b := by have := own1 m3 (by simp); omega
  refine ⟨c4.own (fun x hx => ⟨hk3.own x hx, by simp at hx ⊢; rw [hx]; exact n3⟩) (by simp) (fun _ => ⟨hb3.size, by simp; omega⟩), fun w5 hb5 hk5 => ?_⟩
  have hc5 : Cells w5 (some ⟨b, 0, none⟩) (rods (cutC k.c i n).rods) := fun j v hv => by
    obtain ⟨b', o, e, hcell⟩ := hc4 j v hv
    refine ⟨b', o, e, Go.Vc.cell_kept hk5 (fun hm => ?_) hcell⟩
    cases e; simp at hm; exact n3 hm.symm
  have hl2 : (cutC k.c i n).rods.length = k.c.rods.length := cutL_len _ _ _
  refine (show Calls Try.prog 57 #[(cutC k.c i n).v (some ⟨b, 0, none⟩) c', zeroB.v] w5 _ from newKnown_any (cutC k.c i n) zeroB hc5 (by omega)) |> fun hh => ?_
  have hv : (cutC k.c i n).v (some ⟨b, 0, none⟩) c' = .agg #[I k.c.kind, I k.c.base, .slice (some ⟨b, 0, none⟩) k.c.rods.length c', I k.c.air.1, I k.c.air.2, I k.c.drive.1, I k.c.drive.2] := by
    unfold Clk.v; rw [hl2]; rfl
  rw [hv] at hh
  refine hh.mono fun e w6 he => ?_
  obtain ⟨kb2, ga2, gc2, rfl, hb6, hkb, K6⟩ := he
  refine ⟨_, rfl, .all hb6, fun w7 hb7 hk7 => ⟨kb2, some ⟨b, 0, none⟩, c', ga2, gc2, rfl, hb7, Nat.le_trans hb5.size hkb, fun b' o e => by cases e; omega, ?_⟩⟩
  have z5 := hb5.size
  have own5 := hk5.own m3 (by simp)
  refine ⟨(hk7.block kb2 (lt_of_some K6.here) (by simp; omega)).trans K6.here, fun j v hv => ?_, ?_⟩
  · obtain ⟨b', o, e, hcell⟩ := K6.rods j v hv
    refine ⟨b', o, e, Go.Vc.cell_kept hk7 (fun hm => ?_) hcell⟩
    cases e; simp at hm; exact n3 hm.symm
  · exact (K6.grow.imp id fun g => g.of (w' := w7) fun b o e => hk7.block b (g.lt b o e).2 fun hm => by have := (g.lt b o e).1; simp at hm; omega).imp id fun g => g.base z5

/-- The greatest absolute value of S. -/
def effK (k : Kn) : Int := max (sumK k).2 (0 - (sumK k).1)
theorem effect_any {B : Nat} {k : Kn} {kb : Nat} {ra : Option Addr} {rc : Nat} {ga : Option Addr} {gc : Nat} {w : World} (h : KAt B k kb ra rc ga gc w) (hk : OkK k) : Calls Try.prog 75 #[.pointer (some ⟨kb, 0, none⟩)] w (Pure w (I (effK k))) := by
  have hb := sumK_bd hk
  simp only [Bd] at hb
  refine vc75 _ _ w _ fun w1 hb1 _ => Pure.calls (sum_any (h.keep hb1) hk) fun w2 hb2 => ⟨_, _, rfl, .all hb2, fun m2 h2 => ⟨by omega, fun w3 hb3 _ => ⟨rfl, hb3⟩⟩⟩
end Go.Proofs.R03
end
section
/- Contracts: Balance. -/
namespace Go.Proofs.R03
open Go.Vc Go.RowKit Go.Proofs

theorem check_iff {c : Clk} : check c = 0 ↔ c.rods.length ≤ 8 ∧ OkC c := by
  constructor
  · exact check_len
  · rintro ⟨h8, h⟩
    unfold check
    rw [if_neg (by omega), if_pos h]
abbrev LenOk (l : List Rod) : Prop := 100 ≤ lenC l ∧ lenC l ≤ 100000
theorem lenC_cons (r : Rod) (l : List Rod) : lenC (r :: l) = sgn r * r.len + lenC l := by simp [lenC]
theorem lenC_set {l : List Rod} {i : Nat} {r s : Rod} (h : l[i]? = some r) : lenC (l.set i s) = lenC l + (sgn s * s.len - sgn r * r.len) := by
  induction l generalizing i with
  | nil => simp at h
  | cons a l ih =>
    cases i with
    | zero => simp at h; subst h; rw [List.set_cons_zero, lenC_cons, lenC_cons]; omega
    | succ i => rw [List.set_cons_succ, lenC_cons, lenC_cons, ih (by simpa using h)]; omega
theorem rodAt_get {c : Clk} {i : Nat} (hi : i < c.rods.length) : c.rods[i]? = some (rodAt c i) := by unfold rodAt; rw [getElem_of_lt hi]; rfl
theorem lenC_cut {c : Clk} {i : Nat} (hi : i < c.rods.length) (n : Int) : lenC (cutL c i n) = lenC c.rods + sgn (rodAt c i) * (n - (rodAt c i).len) := by
  unfold cutL
  rw [lenC_set (rodAt_get hi)]
  unfold sgn
  dsimp only
  split <;> omega
theorem cut_now {c : Clk} {i : Nat} (hi : i < c.rods.length) : lenC (cutL c i (rodAt c i).len) = lenC c.rods := by
  rw [lenC_cut hi]; simp
theorem cut_between {c : Clk} {i : Nat} (hi : i < c.rods.length) {a b n : Int} (ha : LenOk (cutL c i a)) (hb : LenOk (cutL c i b)) (h1 : a ≤ n) (h2 : n ≤ b) : LenOk (cutL c i n) := by
  unfold LenOk at *
  rw [lenC_cut hi] at *
  unfold sgn at *
  split at ha <;> simp_all <;> omega
theorem cut_lens {c : Clk} (hc : check c = 0) {i : Nat} (_ : i < c.rods.length) {n : Int} (hn : 1 ≤ n ∧ n ≤ 100000) : ∀ r ∈ cutL c i n, 1 ≤ r.len ∧ r.len ≤ 100000 := fun r hr => by
  rcases List.mem_or_eq_of_mem_set hr with h | rfl
  · exact ((check_len hc).2.2.1 r h).1
  · exact hn
theorem cut_ok {c : Clk} (hc : check c = 0) {i : Nat} (hi : i < c.rods.length) {n : Int} (hn : 1 ≤ n ∧ n ≤ 100000) (hv : LenOk (cutL c i n)) : check (cutC c i n) = 0 := by
  obtain ⟨h8, hne, hrod, hlen, hbase, hair, hdr⟩ := check_len hc
  refine check_iff.2 ⟨by show (cutL c i n).length ≤ 8; rw [cutL_len]; exact h8, ?_, fun r hr => ?_, hv, hbase, hair, hdr⟩
  · intro h
    have : (cutL c i n).length = 0 := by rw [show cutL c i n = [] from h]; rfl
    rw [cutL_len] at this; omega
  · rcases List.mem_or_eq_of_mem_set hr with h | rfl
    · exact hrod r h
    · exact ⟨hn, (hrod _ (List.mem_of_getElem? (rodAt_get hi))).2⟩
theorem okB_zero : OkB zeroB := by unfold OkB zeroB okS; decide
theorem cut_okK {c : Clk} (hc : check c = 0) {i : Nat} (hi : i < c.rods.length) {n : Int} (hn : 1 ≤ n ∧ n ≤ 100000) (hv : LenOk (cutL c i n)) : OkK (newK (cutC c i n) zeroB) :=
  newK_ok (by unfold openErr; rw [if_pos (cut_ok hc hi hn hv), if_pos okB_zero])
/-- The effect of a rod's length. -/
def effC (c : Clk) (i : Nat) (n : Int) : Int := effK (newK (cutC c i n) zeroB)

section
variable {B : Nat} {c : Clk} {b : Bn} {kb : Nat} {ra : Option Addr} {rc : Nat} {ga : Option Addr} {gc : Nat} {w : World} {m4 m2 m10 i : Nat} {x now : Int}
theorem shorter_any (hK : KAt B (newK c b) kb ra rc ga gc w) (hc : check c = 0) (hi : i < c.rods.length) (c0 : w.cell? ⟨m4, 0, none⟩ = some (.pointer (some ⟨kb, 0, none⟩))) (c1 : w.cell? ⟨m2, 0, none⟩ = some (I (i : Int))) (c2 : w.cell? ⟨m10, 0, none⟩ = some (I now)) (hx : 0 ≤ x) (hn : 1 ≤ now - x - 1 ∧ now ≤ 100000) :
    Calls Try.prog 71 #[I x, .pointer (some ⟨m4, 0, none⟩), .pointer (some ⟨m2, 0, none⟩), .pointer (some ⟨m10, 0, none⟩)] w (Pure w (.bool (!decide (LenOk (cutL c i (now - x - 1)))))) := by
  have h8 := (check_len hc).1
  refine vc71 _ _ _ _ w _ ⟨_, c0, _, c1, _, c2, by omega, by omega, fun w1 hb1 _ => ?_⟩
  refine (cut_any (hK.keep hb1) (by show c.rods.length ≤ 1000; omega) (i := i) hi (now - x - 1)).mono fun e w2 he => ?_
  obtain ⟨kb2, ra2, rc2, ga2, gc2, rfl, hb2, _, _, K2⟩ := he
  refine ⟨_, rfl, .all hb2, kb2, 0, rfl, trivial, _, _, _, _, _, _, _, _, _, K2.cell (i := 0) rfl, K2.cell (i := 1) rfl, K2.cell (i := 2) rfl, K2.cell (i := 3) rfl, K2.cell (i := 4) rfl, K2.cell (i := 5) rfl, K2.cell (i := 6) rfl, fun w3 hb3 hk3 => ?_⟩
  exact Pure.calls (isLength_any (cutC c i (now - x - 1)) ((K2.keep (kept_nil hk3)).rods) (by show (cutL c i (now - x - 1)).length ≤ 1000; rw [cutL_len]; omega) (cut_lens hc hi (by omega))) fun w4 hb4 => ⟨_, rfl, .all hb4, fun w5 hb5 _ => ⟨rfl, hb5⟩⟩
theorem more_any (hK : KAt B (newK c b) kb ra rc ga gc w) (hc : check c = 0) (hi : i < c.rods.length) (c0 : w.cell? ⟨m4, 0, none⟩ = some (.pointer (some ⟨kb, 0, none⟩))) (c1 : w.cell? ⟨m2, 0, none⟩ = some (I (i : Int))) (c2 : w.cell? ⟨m10, 0, none⟩ = some (I now)) (hx : 0 ≤ x) (hn : 1 ≤ now ∧ now + x + 1 ≤ 100000) :
    Calls Try.prog 73 #[I x, .pointer (some ⟨m4, 0, none⟩), .pointer (some ⟨m2, 0, none⟩), .pointer (some ⟨m10, 0, none⟩)] w (Pure w (.bool (!decide (LenOk (cutL c i (now + x + 1)))))) := by
  have h8 := (check_len hc).1
  refine vc73 _ _ _ _ w _ ⟨_, c0, _, c1, _, c2, by omega, by omega, fun w1 hb1 _ => ?_⟩
  refine (cut_any (hK.keep hb1) (by show c.rods.length ≤ 1000; omega) (i := i) hi (now + x + 1)).mono fun e w2 he => ?_
  obtain ⟨kb2, ra2, rc2, ga2, gc2, rfl, hb2, _, _, K2⟩ := he
  refine ⟨_, rfl, .all hb2, kb2, 0, rfl, trivial, _, _, _, _, _, _, _, _, _, K2.cell (i := 0) rfl, K2.cell (i := 1) rfl, K2.cell (i := 2) rfl, K2.cell (i := 3) rfl, K2.cell (i := 4) rfl, K2.cell (i := 5) rfl, K2.cell (i := 6) rfl, fun w3 hb3 hk3 => ?_⟩
  exact Pure.calls (isLength_any (cutC c i (now + x + 1)) ((K2.keep (kept_nil hk3)).rods) (by show (cutL c i (now + x + 1)).length ≤ 1000; rw [cutL_len]; omega) (cut_lens hc hi (by omega))) fun w4 hb4 => ⟨_, rfl, .all hb4, fun w5 hb5 _ => ⟨rfl, hb5⟩⟩
theorem rise_any (hK : KAt B (newK c b) kb ra rc ga gc w) (hc : check c = 0) (hi : i < c.rods.length) (c0 : w.cell? ⟨m4, 0, none⟩ = some (.pointer (some ⟨kb, 0, none⟩))) (c1 : w.cell? ⟨m2, 0, none⟩ = some (I (i : Int))) (c2 : w.cell? ⟨m10, 0, none⟩ = some (I now)) (hx : 0 ≤ x) (hn : 1 ≤ now ∧ now + x + 1 ≤ 100000) (h1 : LenOk (cutL c i (now + x))) (h2 : LenOk (cutL c i (now + x + 1))) :
    Calls Try.prog 74 #[I x, .pointer (some ⟨m4, 0, none⟩), .pointer (some ⟨m2, 0, none⟩), .pointer (some ⟨m10, 0, none⟩)] w (Pure w (.bool (decide (effC c i (now + x) ≤ effC c i (now + x + 1))))) := by
  have h8 := (check_len hc).1
  refine vc74 _ _ _ _ w _ ⟨_, c0, _, c1, _, c2, by omega, by omega, fun w1 hb1 hk1 => ?_⟩
  refine (cut_any (hK.keep hb1) (by show c.rods.length ≤ 1000; omega) (i := i) hi (now + x + 1)).mono fun e w2 he => ?_
  obtain ⟨kb2, ra2, rc2, ga2, gc2, rfl, hb2, hkb2, hra2, K2⟩ := he
  refine ⟨_, rfl, hb2, fun w3 hb3 hk3 => ?_⟩
  have K3 : KAt 0 (newK (cutC c i (now + x + 1)) zeroB) kb2 ra2 rc2 ga2 gc2 w3 := by
    refine ⟨(hk3.block kb2 (lt_of_some K2.here) (by simp) ⟨_, List.mem_cons_of_mem _ List.mem_cons_self, hkb2, lt_of_some K2.here⟩).trans K2.here, fun j v hv => ?_, ?_⟩
    · obtain ⟨b', o, e, hcell⟩ := K2.rods j v hv
      refine ⟨b', o, e, ?_⟩
      have := hk3.block b' (cell_lt hcell) (by simp) ⟨_, List.mem_cons_of_mem _ List.mem_cons_self, hra2 b' o e, cell_lt hcell⟩
      unfold World.cell? at *
      rw [show ({ block := b', off := o + j } : Addr).block = b' from rfl, this]; exact hcell
    · exact (K2.grow.of fun b' o e h1 h2 _ => hk3.block b' h2 (by simp) ⟨_, List.mem_cons_of_mem _ List.mem_cons_self, h1, h2⟩).imp id fun g => g.base (Nat.zero_le _)
  refine Pure.calls (effect_any K3 (cut_okK hc hi (by omega) h2)) fun w4 hb4 => ⟨_, rfl, hb4, _, c0, _, c1, _, c2, by omega, fun w5 hb5 hk5 => ?_⟩
  refine (cut_any (hK.keep hb5) (by show c.rods.length ≤ 1000; omega) (i := i) hi (now + x)).mono fun e w6 he => ?_
  obtain ⟨kb6, ra6, rc6, ga6, gc6, rfl, hb6, hkb6, _, K6⟩ := he
  refine ⟨_, rfl, .all hb6, fun w7 hb7 hk7 => ?_⟩
  have b67 : Below w6.heap.size w6 w7 := below_kin (.refl _ _) hk7 (by simp)
  exact Pure.calls (effect_any (K6.keep b67) (cut_okK hc hi (by omega) h1)) fun w8 hb8 => ⟨_, rfl, .all hb8, fun w9 hb9 _ => ⟨rfl, hb9⟩⟩
end
end Go.Proofs.R03
end
section
/- Contracts: Balance. -/
namespace Go.Proofs.R03
open Go.Vc Go.RowKit Go.Proofs

/-- A length that the neighbours do not better. -/
structure BalS (c : Clk) (i : Nat) (n : Int) : Prop where
  bd : 1 ≤ n ∧ n ≤ 100000
  ok : LenOk (cutL c i n)
  down : n = 1 ∨ ¬LenOk (cutL c i (n - 1)) ∨ effC c i n < effC c i (n - 1)
  up : n = 100000 ∨ ¬LenOk (cutL c i (n + 1)) ∨ effC c i n ≤ effC c i (n + 1)
def BalOk (c : Clk) (rod n worst err : Int) : Prop :=
  if check c ≠ 0 then n = 0 ∧ worst = 0 ∧ err = check c
  else if 0 ≤ rod ∧ rod ≤ (c.rods.length : Int) - 1 then BalS c rod.toNat n ∧ worst = effC c rod.toNat n ∧ err = 0
  else n = 0 ∧ worst = 0 ∧ err = 7
def BalPost (c : Clk) (rod : Int) (w : World) (e : Ending) (w' : World) : Prop := ∃ n worst err, e = .returned (.tuple #[I n, I worst, I err]) ∧ Below w.heap.size w w' ∧ BalOk c rod n worst err
theorem open_zero (c : Clk) : openErr c zeroB = check c := by
  unfold openErr; rw [if_pos okB_zero]; split <;> simp_all

set_option maxHeartbeats 2000000 in
theorem balance_any (c : Clk) (rod : Int) {ra : Option Addr} {rc : Nat} {w : World} (hc : Cells w ra (rods c.rods)) : Calls Try.prog 31 #[c.v ra rc, I rod] w (BalPost c rod w) := by
  refine vc31 _ _ _ _ _ _ _ _ _ _ w _ fun m1 h1 m2 h2 w1 hb1 hk1 => ?_
  refine (open_any c zeroB (hc.keep hb1)).mono fun e w2 he => ?_
  obtain ⟨p, rfl, hb2, hp⟩ := he
  refine ⟨_, _, rfl, .all hb2, fun m4 h4 => ⟨fun he w3 hb3 _ => ⟨0, 0, _, rfl, hb3, ?_⟩, fun he => ?_⟩⟩
  · rw [open_zero] at he ⊢
    unfold BalOk; rw [if_pos he]; exact ⟨rfl, rfl, rfl⟩
  obtain ⟨kb, ga, gc, rfl, K2⟩ := hp he
  have hck : check c = 0 := by rw [← open_zero]; exact he
  obtain ⟨h8, hne, hrod, hlen, hbase, hair, hdr⟩ := check_len hck
  refine ⟨by omega, fun m5 h5 w4 hb4 hk4 hc4 => ?_⟩
  refine Pure.calls (in1_any hc4) fun w5 hb5 => ⟨_, rfl, .all hb5, fun ht w6 hb6 _ => ⟨0, 0, 7, rfl, hb6, ?_⟩, fun ht => ?_⟩
  · unfold BalOk; rw [if_neg (by simp [hck]), if_neg (by simp at ht; omega)]; exact ⟨rfl, rfl, rfl⟩
  have hr : 0 ≤ rod ∧ rod ≤ (c.rods.length : Int) - 1 := by simpa using ht
  obtain ⟨i, rfl⟩ : ∃ i : Nat, rod = i := ⟨rod.toNat, by omega⟩
  have hi : i < c.rods.length := by omega
  obtain ⟨b, o, rfl, hbl, d1, _⟩ := rods_at hc (rodAt_get hi)
  have z1 := hb1.size
  have z4 := hb4.size
  have b45 := below_then hb4 hb5
  refine ⟨b, o, rfl, ⟨by omega, by omega⟩, (rodAt c i).len, ?_, .inl hbl, fun m10 h10 => ?_⟩
  · exact cell_at' (cell_keep b45 d1) (by simp)
  have hnow := (hrod _ (List.mem_of_getElem? (rodAt_get hi))).1
  generalize hn : (rodAt c i).len = now at *
  have hvnow : LenOk (cutL c i now) := by unfold LenOk; rw [← hn, cut_now hi]; exact hlen
  have own1 := hk1.own
  have z2 := hb2.size
  have zk4 := hk4.size
  have z5 := hb5.size
  have hout : ∀ m14, w5.heap.size ≤ m14 → ∀ x ∈ [m5, m14, m10, m4, m2, m1], x < w1.heap.size ∨ w2.heap.size ≤ x := fun m14 h14 x hx => by
    have a1 := own1 m1 (by simp); have a2 := own1 m2 (by simp)
    simp at hx; omega
  have hout5 : ∀ x ∈ [m5, m10, m4, m2, m1], x < w1.heap.size ∨ w2.heap.size ≤ x := fun x hx => hout m10 h10 x (by simp at hx ⊢; omega)
  refine ⟨by omega, fun w7 hb7 hk7 e4 e2 e10 => ?_⟩
  have K4 := K2.out (Chg.kept hk4) (fun x hx => hout5 x (by simp at hx ⊢; omega)) (hc.keep hb4)
  have K7 := (K4.keep hb5).out hk7.chg hout5 (hc.keep hb7)
  refine (search_any (p := fun x => !decide (LenOk (cutL c i (now - x - 1)))) (fi := []) (by omega) (by omega) (callOk_run (by decide)) fun x x0 x1 w' hw' => ?_).mono fun e w8 hs => ?_
  · exact shorter_any (K7.at_.keep hw') hck hi (cell_keep hw' (cell_obj e4 (i := 0) rfl)) (cell_keep hw' (cell_obj e2 (i := 0) rfl)) (cell_keep hw' (cell_obj e10 (i := 0) rfl)) x0 (by omega)
  obtain ⟨x3, rfl, hb8, f1, f2, f3, f4⟩ := hs
  have hleast : LenOk (cutL c i (now - x3)) := by
    rcases f3 with f3 | f3
    · rw [f3, Int.sub_zero]; exact hvnow
    · rw [show now - x3 = now - (x3 - 1) - 1 by omega]; simpa using f3
  have hbelow : now - x3 = 1 ∨ ¬LenOk (cutL c i (now - x3 - 1)) := by
    rcases f4 with f4 | f4
    · left; omega
    · right; simp at f4; unfold LenOk; omega
  refine ⟨_, rfl, hb8, by omega, fun m14 h14 _ => ⟨by omega, fun w9 hb9 hk9 g4 g2 g14 => ?_⟩⟩
  have K9 := (K7.keep hb8).out (Chg.kept hk9) (hout m14 h14) (hc.keep hb9)
  generalize hL : now - x3 = least at *
  have hl1 : 1 ≤ least ∧ least ≤ 100000 := by omega
  refine (search_any (p := fun x => !decide (LenOk (cutL c i (least + x + 1)))) (fi := []) (by omega) (by omega) (callOk_run (by decide)) fun x x0 x1 w' hw' => ?_).mono fun e w10 hs => ?_
  · exact more_any (K9.at_.keep hw') hck hi (cell_keep hw' (cell_obj g4 (i := 0) rfl)) (cell_keep hw' (cell_obj g2 (i := 0) rfl)) (cell_keep hw' (cell_obj g14 (i := 0) rfl)) x0 (by omega)
  obtain ⟨x4, rfl, hb10, q1, q2, q3, q4⟩ := hs
  have htop : LenOk (cutL c i (least + x4)) := by
    rcases q3 with q3 | q3
    · rw [q3, Int.add_zero]; exact hleast
    · rw [show least + x4 = least + (x4 - 1) + 1 by omega]; simpa using q3
  have habove : least + x4 = 100000 ∨ ¬LenOk (cutL c i (least + x4 + 1)) := by
    rcases q4 with q4 | q4
    · left; omega
    · right; simp at q4; unfold LenOk; omega
  refine ⟨_, rfl, .all hb10, fun w11 hb11 hk11 k4 k2 k14 => ?_⟩
  have K11 := (K9.keep hb10).out (Chg.kept hk11) (hout m14 h14) (hc.keep hb11)
  refine (search_any (p := fun x => decide (effC c i (least + x) ≤ effC c i (least + x + 1))) (fi := []) q1 (by omega) (callOk_run (by decide)) fun x x0 x1 w' hw' => ?_).mono fun e w12 hs => ?_
  · exact rise_any (K11.at_.keep hw') hck hi (cell_keep hw' (cell_obj k4 (i := 0) rfl)) (cell_keep hw' (cell_obj k2 (i := 0) rfl)) (cell_keep hw' (cell_obj k14 (i := 0) rfl)) x0 (by omega) (cut_between hi hleast htop (by omega) (by omega)) (cut_between hi hleast htop (by omega) (by omega))
  obtain ⟨x5, rfl, hb12, r1, r2, r3, r4⟩ := hs
  have hmid : LenOk (cutL c i (least + x5)) := cut_between hi hleast htop (by omega) (by omega)
  refine ⟨_, rfl, .all hb12, by omega, fun w13 hb13 hk13 => ?_⟩
  have K13 := (K11.keep hb12).out hk13.chg (hout m14 h14) (hc.keep hb13)
  refine (cut_any K13.at_ (by show c.rods.length ≤ 1000; omega) (i := i) hi (least + x5)).mono fun e w14 hx => ?_
  obtain ⟨kb2, ra2, rc2, ga2, gc2, rfl, hb14, hkb2, hra2, K14⟩ := hx
  refine ⟨_, rfl, .all hb14, fun w15 hb15 hk15 => ?_⟩
  have own13 := hk13.own
  have K15 : KAt w13.heap.size (newK (cutC c i (least + x5)) zeroB) kb2 ra2 rc2 ga2 gc2 w15 := by
    have nin : ∀ x, w13.heap.size ≤ x → x ∉ [m5, m14, m10, m4, m2, m1] := fun x hx hm => by have := own13 x hm; omega
    refine ⟨(hk15.chg.keep kb2 (lt_of_some K14.here) (nin kb2 hkb2)).trans K14.here, fun j v hv => ?_, K14.grow.of fun b' o e h1 h2 _ => hk15.chg.keep b' h2 (nin b' h1)⟩
    obtain ⟨b', o, e, hcell⟩ := K14.rods j v hv
    exact ⟨b', o, e, hk15.chg.cell (nin b' (hra2 b' o e)) hcell⟩
  refine Pure.calls (effect_any K15 (cut_okK hck hi (by omega) hmid)) fun w16 hb16 => ⟨_, rfl, .all hb16, by omega, fun w17 hb17 _ => ⟨_, _, _, rfl, hb17, ?_⟩⟩
  unfold BalOk
  rw [if_neg (by simp [hck]), if_pos hr]
  refine ⟨⟨by omega, hmid, ?_, ?_⟩, rfl, rfl⟩
  · rw [Int.toNat_natCast]
    rcases r3 with r3 | r3
    · rw [r3, Int.add_zero]; rcases hbelow with h | h
      · exact .inl h
      · exact .inr (.inl h)
    · right; right
      have r3 := of_decide_eq_false r3
      rw [show least + (x5 - 1) = least + x5 - 1 by omega, show least + x5 - 1 + 1 = least + x5 by omega] at r3
      omega
  · rw [Int.toNat_natCast]
    rcases r4 with r4 | r4
    · rw [r4]; rcases habove with h | h
      · exact .inl h
      · exact .inr (.inl h)
    · right; right
      exact of_decide_eq_true r4
end Go.Proofs.R03
end
section
/- The conditions of the functions, printed by program; each is what the generator reckons (kernel_rfl). -/
namespace Go.Proofs
open Go.Vc
set_option maxRecDepth 100000 in
set_option maxHeartbeats 2000000 in
theorem vc12  (w : World) (R : Ending → World → Prop) (h : ∀ (w1 : World), RowKit.Below w.heap.size w w1 → Kept [] w w1 → Calls Try.prog 39 #[] w1 fun (e1 : Ending) (w2 : World) =>
    ∃ (x1 : Int), ∃ (x2 : Int), ∃ (a1 : Option Addr), ∃ (m1 : Nat), ∃ (m2 : Nat), ∃ (x3 : Int), ∃ (x4 : Int), ∃ (x5 : Int), ∃ (x6 : Int), e1 = Ending.returned (Value.agg
    #[Value.int IntKind.i64 x1, Value.int IntKind.i64 x2, Value.slice a1 m1 m2, Value.int IntKind.i64 x3, Value.int IntKind.i64 x4, Value.int IntKind.i64 x5, Value.int IntKind.i64
    x6]) ∧ KeepX true w.heap.size [] (fun _ => False) w1 w2 ∧ ∀ (m4 : Nat), w2.heap.size ≤ m4 → ∀ (w3 : World), RowKit.Below w.heap.size w w3 → Kept [m4] w2 w3 →
    w3.heap[m4]? = some (Obj.cells #[Value.int IntKind.i64 1150] 3) → Calls Try.prog 14 #[Value.agg #[Value.int IntKind.i64 x1, Value.int IntKind.i64 x2, Value.slice a1 m1 m2,
    Value.int IntKind.i64 x3, Value.int IntKind.i64 x4, Value.int IntKind.i64 x5, Value.int IntKind.i64 x6], Value.agg #[Value.slice (some { block := m4, off := 0 }) 1 1, Value.int
    IntKind.i64 (-4), Value.int IntKind.i64 0, Value.int IntKind.i64 100, Value.int IntKind.i64 0, Value.int IntKind.i64 0, Value.int IntKind.i64 0]] w3 fun (e2 : Ending) (w4 :
    World) => ∃ (x7 : Int), ∃ (x8 : Int), ∃ (x9 : Int), e2 = Ending.returned (Value.tuple #[Value.agg #[Value.int IntKind.i64 x7, Value.int IntKind.i64 x8], Value.int IntKind.i64
    x9]) ∧ KeepX true w.heap.size [m4] (fun _ => False) w3 w4 ∧ ∀ (m7 : Nat), w4.heap.size ≤ m7 → ∀ (w5 : World), RowKit.Below w.heap.size w w5 → Kept [m4, m7] w4 w5 →
    Calls Try.prog 39 #[] w5 fun (e3 : Ending) (w6 : World) => ∃ (x10 : Int), ∃ (x11 : Int), ∃ (a2 : Option Addr), ∃ (m8 : Nat), ∃ (m9 : Nat), ∃ (x12 : Int), ∃ (x13 : Int), ∃ (x14
    : Int), ∃ (x15 : Int), e3 = Ending.returned (Value.agg #[Value.int IntKind.i64 x10, Value.int IntKind.i64 x11, Value.slice a2 m8 m9, Value.int IntKind.i64 x12, Value.int
    IntKind.i64 x13, Value.int IntKind.i64 x14, Value.int IntKind.i64 x15]) ∧ KeepX true w.heap.size [m4, m7] (fun _ => False) w5 w6 ∧ ∀ (w7 : World), RowKit.Below
    w.heap.size w w7 → Kept [m4, m7] w6 w7 → Calls Try.prog 40 #[] w7 fun (e4 : Ending) (w8 : World) => ∃ (x16 : Int), ∃ (x17 : Int), ∃ (x18 : Int), ∃ (x19 : Int), ∃ (x20 : Int), ∃
    (x21 : Int), ∃ (x22 : Int), ∃ (x23 : Int), e4 = Ending.returned (Value.agg #[Value.int IntKind.i64 x16, Value.int IntKind.i64 x17, Value.int IntKind.i64 x18, Value.int
    IntKind.i64 x19, Value.int IntKind.i64 x20, Value.int IntKind.i64 x21, Value.int IntKind.i64 x22, Value.int IntKind.i64 x23]) ∧ KeepX true w.heap.size [m4, m7] (fun _ => False) w7 w8 ∧ ∀ (w9 : World), RowKit.Below w.heap.size w w9 → Kept [m4, m7] w8 w9 → Calls Try.prog 22 #[Value.agg #[Value.int IntKind.i64 x10, Value.int IntKind.i64 x11,
    Value.slice a2 m8 m9, Value.int IntKind.i64 x12, Value.int IntKind.i64 x13, Value.int IntKind.i64 x14, Value.int IntKind.i64 x15], Value.agg #[Value.int IntKind.i64 x16,
    Value.int IntKind.i64 x17, Value.int IntKind.i64 x18, Value.int IntKind.i64 x19, Value.int IntKind.i64 x20, Value.int IntKind.i64 x21, Value.int IntKind.i64 x22, Value.int
    IntKind.i64 x23]] w9 fun (e5 : Ending) (w10 : World) => ∃ (x24 : Int), ∃ (x25 : Int), ∃ (x26 : Int), e5 = Ending.returned (Value.tuple #[Value.agg #[Value.int IntKind.i64 x24,
    Value.int IntKind.i64 x25], Value.int IntKind.i64 x26]) ∧ KeepX true w.heap.size [m4, m7] (fun _ => False) w9 w10 ∧ ∀ (m13 : Nat), w10.heap.size ≤ m13 → ∀ (w11 :
    World), RowKit.Below w.heap.size w w11 → Kept [m4, m13, m7] w10 w11 → Calls Try.prog 39 #[] w11 fun (e6 : Ending) (w12 : World) => ∃ (x27 : Int), ∃ (x28 : Int), ∃ (a3 : Option
    Addr), ∃ (m14 : Nat), ∃ (m15 : Nat), ∃ (x29 : Int), ∃ (x30 : Int), ∃ (x31 : Int), ∃ (x32 : Int), e6 = Ending.returned (Value.agg #[Value.int IntKind.i64 x27, Value.int
    IntKind.i64 x28, Value.slice a3 m14 m15, Value.int IntKind.i64 x29, Value.int IntKind.i64 x30, Value.int IntKind.i64 x31, Value.int IntKind.i64 x32]) ∧ KeepX true w.heap.size
    [m4, m13, m7] (fun _ => False) w11 w12 ∧ ∀ (w13 : World), RowKit.Below w.heap.size w w13 → Kept [m4, m13, m7] w12 w13 → Calls Try.prog 40 #[] w13 fun (e7 : Ending)
    (w14 : World) => ∃ (x33 : Int), ∃ (x34 : Int), ∃ (x35 : Int), ∃ (x36 : Int), ∃ (x37 : Int), ∃ (x38 : Int), ∃ (x39 : Int), ∃ (x40 : Int), e7 = Ending.returned (Value.agg
    #[Value.int IntKind.i64 x33, Value.int IntKind.i64 x34, Value.int IntKind.i64 x35, Value.int IntKind.i64 x36, Value.int IntKind.i64 x37, Value.int IntKind.i64 x38, Value.int
    IntKind.i64 x39, Value.int IntKind.i64 x40]) ∧ KeepX true w.heap.size [m4, m13, m7] (fun _ => False) w13 w14 ∧ ∀ (w15 : World), RowKit.Below w.heap.size w w15 → Kept
    [m4, m13, m7] w14 w15 → Calls Try.prog 23 #[Value.agg #[Value.int IntKind.i64 x27, Value.int IntKind.i64 x28, Value.slice a3 m14 m15, Value.int IntKind.i64 x29, Value.int
    IntKind.i64 x30, Value.int IntKind.i64 x31, Value.int IntKind.i64 x32], Value.agg #[Value.int IntKind.i64 x33, Value.int IntKind.i64 x34, Value.int IntKind.i64 x35, Value.int
    IntKind.i64 x36, Value.int IntKind.i64 x37, Value.int IntKind.i64 x38, Value.int IntKind.i64 x39, Value.int IntKind.i64 x40]] w15 fun (e8 : Ending) (w16 : World) => ∃ (a4 :
    Option Addr), ∃ (m18 : Nat), ∃ (m19 : Nat), ∃ (x41 : Int), ∃ (x42 : Int), ∃ (x43 : Int), ∃ (x44 : Int), ∃ (x45 : Int), ∃ (x46 : Int), ∃ (a5 : Option Addr), ∃ (m20 : Nat), ∃
    (m21 : Nat), ∃ (x47 : Int), ∃ (x48 : Int), ∃ (x49 : Int), ∃ (x50 : Int), ∃ (x51 : Int), ∃ (x52 : Int), ∃ (x53 : Int), e8 = Ending.returned (Value.tuple #[Value.agg
    #[Value.slice a4 m18 m19, Value.int IntKind.i64 x41, Value.int IntKind.i64 x42, Value.int IntKind.i64 x43, Value.int IntKind.i64 x44, Value.int IntKind.i64 x45, Value.int
    IntKind.i64 x46], Value.agg #[Value.slice a5 m20 m21, Value.int IntKind.i64 x47, Value.int IntKind.i64 x48, Value.int IntKind.i64 x49, Value.int IntKind.i64 x50, Value.int
    IntKind.i64 x51, Value.int IntKind.i64 x52], Value.int IntKind.i64 x53]) ∧ KeepX true w.heap.size [m4, m13, m7] (fun _ => False) w15 w16 ∧ ∀ (m23 : Nat),
    w16.heap.size ≤ m23 → ∀ (m24 : Nat), w16.heap.size ≤ m24 → ∀ (w17 : World), RowKit.Below w.heap.size w w17 → Kept [m4, m24, m23, m13, m7] w16 w17 → Calls Try.prog 39 #[] w17
    fun (e9 : Ending) (w18 : World) => ∃ (x54 : Int), ∃ (x55 : Int), ∃ (a6 : Option Addr), ∃ (m25 : Nat), ∃ (m26 : Nat), ∃ (x56 : Int), ∃ (x57 : Int), ∃ (x58 : Int), ∃ (x59 : Int),
    e9 = Ending.returned (Value.agg #[Value.int IntKind.i64 x54, Value.int IntKind.i64 x55, Value.slice a6 m25 m26, Value.int IntKind.i64 x56, Value.int IntKind.i64 x57, Value.int
    IntKind.i64 x58, Value.int IntKind.i64 x59]) ∧ KeepX true w.heap.size [m4, m24, m23, m13, m7] (fun _ => False) w17 w18 ∧ ∀ (w19 : World), RowKit.Below w.heap.size w
    w19 → Kept [m4, m24, m23, m13, m7] w18 w19 → Calls Try.prog 22 #[Value.agg #[Value.int IntKind.i64 x54, Value.int IntKind.i64 x55, Value.slice a6 m25 m26, Value.int IntKind.i64
    x56, Value.int IntKind.i64 x57, Value.int IntKind.i64 x58, Value.int IntKind.i64 x59], Value.agg #[Value.int IntKind.i64 0, Value.int IntKind.i64 0, Value.int IntKind.i64 0,
    Value.int IntKind.i64 0, Value.int IntKind.i64 100, Value.int IntKind.i64 110, Value.int IntKind.i64 0, Value.int IntKind.i64 0]] w19 fun (e10 : Ending) (w20 : World) => ∃ (x60
    : Int), ∃ (x61 : Int), ∃ (x62 : Int), e10 = Ending.returned (Value.tuple #[Value.agg #[Value.int IntKind.i64 x60, Value.int IntKind.i64 x61], Value.int IntKind.i64 x62]) ∧
    KeepX true w.heap.size [m4, m24, m23, m13, m7] (fun _ => False) w19 w20 ∧ ∀ (m29 : Nat), w20.heap.size ≤ m29 → ∀ (w21 : World), RowKit.Below w.heap.size w w21 → Kept
    [m4, m29, m24, m23, m13, m7] w20 w21 → Calls Try.prog 39 #[] w21 fun (e11 : Ending) (w22 : World) => ∃ (x63 : Int), ∃ (x64 : Int), ∃ (a7 : Option Addr), ∃ (m30 : Nat), ∃ (m31 :
    Nat), ∃ (x65 : Int), ∃ (x66 : Int), ∃ (x67 : Int), ∃ (x68 : Int), e11 = Ending.returned (Value.agg #[Value.int IntKind.i64 x63, Value.int IntKind.i64 x64, Value.slice a7 m30
    m31, Value.int IntKind.i64 x65, Value.int IntKind.i64 x66, Value.int IntKind.i64 x67, Value.int IntKind.i64 x68]) ∧ KeepX true w.heap.size [m4, m29, m24, m23, m13, m7] (fun _ => False) w21 w22 ∧ ∀ (w23 : World), RowKit.Below w.heap.size w w23 → Kept [m4, m29, m24, m23, m13, m7] w22 w23 → Calls Try.prog 29 #[Value.agg #[Value.int
    IntKind.i64 x63, Value.int IntKind.i64 x64, Value.slice a7 m30 m31, Value.int IntKind.i64 x65, Value.int IntKind.i64 x66, Value.int IntKind.i64 x67, Value.int IntKind.i64 x68],
    Value.agg #[Value.int IntKind.i64 0, Value.int IntKind.i64 0, Value.int IntKind.i64 0, Value.int IntKind.i64 0, Value.int IntKind.i64 0, Value.int IntKind.i64 0, Value.int
    IntKind.i64 0, Value.int IntKind.i64 0], Value.agg #[Value.int IntKind.i64 0, Value.int IntKind.i64 0, Value.int IntKind.i64 10, Value.int IntKind.i64 10, Value.int IntKind.i64
    0, Value.int IntKind.i64 0, Value.int IntKind.i64 0, Value.int IntKind.i64 0]] w23 fun (e12 : Ending) (w24 : World) => ∃ (x69 : Int), ∃ (x70 : Int), ∃ (x71 : Int), e12 =
    Ending.returned (Value.tuple #[Value.agg #[Value.int IntKind.i64 x69, Value.int IntKind.i64 x70], Value.int IntKind.i64 x71]) ∧ KeepX true w.heap.size [m4, m29, m24, m23, m13,
    m7] (fun _ => False) w23 w24 ∧ ∀ (m34 : Nat), w24.heap.size ≤ m34 → ∀ (w25 : World), RowKit.Below w.heap.size w w25 → Kept [m4, m34, m29, m24, m23, m13, m7] w24 w25 →
    Calls Try.prog 41 #[] w25 fun (e13 : Ending) (w26 : World) => ∃ (x72 : Int), ∃ (x73 : Int), ∃ (a8 : Option Addr), ∃ (m35 : Nat), ∃ (m36 : Nat), ∃ (x74 : Int), ∃ (x75 : Int), ∃
    (x76 : Int), ∃ (x77 : Int), e13 = Ending.returned (Value.agg #[Value.int IntKind.i64 x72, Value.int IntKind.i64 x73, Value.slice a8 m35 m36, Value.int IntKind.i64 x74,
    Value.int IntKind.i64 x75, Value.int IntKind.i64 x76, Value.int IntKind.i64 x77]) ∧ KeepX true w.heap.size [m4, m34, m29, m24, m23, m13, m7] (fun _ => False) w25 w26
    ∧ ∀ (w27 : World), RowKit.Below w.heap.size w w27 → Kept [m4, m34, m29, m24, m23, m13, m7] w26 w27 → Calls Try.prog 31 #[Value.agg #[Value.int IntKind.i64 x72, Value.int
    IntKind.i64 x73, Value.slice a8 m35 m36, Value.int IntKind.i64 x74, Value.int IntKind.i64 x75, Value.int IntKind.i64 x76, Value.int IntKind.i64 x77], Value.int IntKind.i64 1]
    w27 fun (e14 : Ending) (w28 : World) => ∃ (x78 : Int), ∃ (x79 : Int), ∃ (x80 : Int), e14 = Ending.returned (Value.tuple #[Value.int IntKind.i64 x78, Value.int IntKind.i64 x79,
    Value.int IntKind.i64 x80]) ∧ KeepX true w.heap.size [m4, m34, m29, m24, m23, m13, m7] (fun _ => False) w27 w28 ∧ (x9 ≠ 0 → ∀ (w29 : World), RowKit.Below w.heap.size
    w w29 → Kept [m4, m34, m29, m24, m23, m13, m7] w28 w29 → R (Ending.returned (Value.bool false)) w29) ∧ (x9 = 0 → (x26 ≠ 0 → ∀ (w30 : World), RowKit.Below w.heap.size w w30 →
    Kept [m4, m34, m29, m24, m23, m13, m7] w28 w30 → R (Ending.returned (Value.bool false)) w30) ∧ (x26 = 0 → (x53 ≠ 0 → ∀ (w31 : World), RowKit.Below w.heap.size w w31 → Kept [m4,
    m34, m29, m24, m23, m13, m7] w28 w31 → R (Ending.returned (Value.bool false)) w31) ∧ (x53 = 0 → (x62 ≠ 0 → ∀ (w32 : World), RowKit.Below w.heap.size w w32 → Kept [m4, m34, m29,
    m24, m23, m13, m7] w28 w32 → R (Ending.returned (Value.bool false)) w32) ∧ (x62 = 0 → (x71 ≠ 0 → ∀ (w33 : World), RowKit.Below w.heap.size w w33 → Kept [m4, m34, m29, m24, m23,
    m13, m7] w28 w33 → R (Ending.returned (Value.bool false)) w33) ∧ (x71 = 0 → (x80 ≠ 0 → ∀ (w34 : World), RowKit.Below w.heap.size w w34 → Kept [m4, m34, m29, m24, m23, m13, m7]
    w28 w34 → R (Ending.returned (Value.bool false)) w34) ∧ (x80 = 0 → ((↑m18 : Int) ≠ 1 → ∀ (w35 : World), RowKit.Below w.heap.size w w35 → Kept [m4, m34, m29, m24, m23, m13, m7]
    w28 w35 → R (Ending.returned (Value.bool false)) w35) ∧ ((↑m18 : Int) = 1 → ((↑m20 : Int) ≠ 1 → ∀ (w36 : World), RowKit.Below w.heap.size w w36 → Kept [m4, m34, m29, m24, m23,
    m13, m7] w28 w36 → R (Ending.returned (Value.bool false)) w36) ∧ ((↑m20 : Int) = 1 → ∀ (w37 : World), RowKit.Below w.heap.size w w37 → Kept [m4, m34, m29, m24, m23, m13, m7]
    w28 w37 → RunsTo Try.prog ((eqGuard BinOp.eql 34 (Operand.tmp 90) (Operand.tmp 91) (Value.agg #[Value.int IntKind.i64 x7, Value.int IntKind.i64 x8]) (Value.agg #[Value.int
    IntKind.i64 (-4968), Value.int IntKind.i64 1])) >>= fun _ => binOp BinOp.eql 34 (Value.agg #[Value.int IntKind.i64 x7, Value.int IntKind.i64 x8]) (Value.agg #[Value.int
    IntKind.i64 (-4968), Value.int IntKind.i64 1])) w37 fun (v1 : Value) (w38 : World) => ∃ (t1 : Bool), v1 = Value.bool t1 ∧ KeepX true w.heap.size [m4, m34, m29, m24, m23, m13,
    m7] (fun _ => False) w37 w38 ∧ (t1 = true → ∀ (w39 : World), RowKit.Below w.heap.size w w39 → Kept [m4, m34, m29, m24, m23, m13, m7] w38 w39 → RunsTo Try.prog
    ((eqGuard BinOp.eql 25 (Operand.tmp 94) (Operand.tmp 95) (Value.agg #[Value.int IntKind.i64 x24, Value.int IntKind.i64 x25]) (Value.agg #[Value.int IntKind.i64 (-5184),
    Value.int IntKind.i64 5184])) >>= fun _ => binOp BinOp.eql 25 (Value.agg #[Value.int IntKind.i64 x24, Value.int IntKind.i64 x25]) (Value.agg #[Value.int IntKind.i64 (-5184),
    Value.int IntKind.i64 5184])) w39 fun (v2 : Value) (w40 : World) => ∃ (t2 : Bool), v2 = Value.bool t2 ∧ KeepX true w.heap.size [m4, m34, m29, m24, m23, m13, m7] (fun _ => False) w39 w40 ∧ (t2 = true → ∃ (m41 : Nat), ∃ (m42 : Nat), a4 = some { block := m41, off := m42 } ∧ ((0 : Int) ≤ 0 ∧ 0 < (↑m18 : Int)) ∧ ∃ (x81 : Int), w40.cell?
    { block := m41, off := m42 + Int.toNat 0 * 1 } = some (Value.int IntKind.i64 x81) ∧ (m41 < w.heap.size ∨ m41 ≠ m4 ∧ m41 ≠ m34 ∧ m41 ≠ m29 ∧ m41 ≠ m24 ∧ m41 ≠ m23 ∧ m41 ≠ m13 ∧
    m41 ≠ m7) ∧ (x81 = 1200 → (x43 = 100 → (x41 = -5 → ∃ (m43 : Nat), ∃ (m44 : Nat), a5 = some { block := m43, off := m44 } ∧ ((0 : Int) ≤ 0 ∧ 0 < (↑m20 : Int)) ∧ ∃ (x82 : Int),
    w40.cell? { block := m43, off := m44 + Int.toNat 0 * 1 } = some (Value.int IntKind.i64 x82) ∧ (m43 < w.heap.size ∨ m43 ≠ m4 ∧ m43 ≠ m34 ∧ m43 ≠ m29 ∧ m43 ≠ m24 ∧ m43 ≠ m23 ∧
    m43 ≠ m13 ∧ m43 ≠ m7) ∧ (x82 = 1200 → (x49 = -100 → (x48 = 0 → ∀ (w41 : World), RowKit.Below w.heap.size w w41 → Kept [m4, m34, m29, m24, m23, m13, m7] w40 w41 → RunsTo
    Try.prog ((eqGuard BinOp.eql 25 (Operand.tmp 133) (Operand.tmp 134) (Value.agg #[Value.int IntKind.i64 x60, Value.int IntKind.i64 x61]) (Value.agg #[Value.int IntKind.i64
    (-5530), Value.int IntKind.i64 (-4570)])) >>= fun _ => binOp BinOp.eql 25 (Value.agg #[Value.int IntKind.i64 x60, Value.int IntKind.i64 x61]) (Value.agg #[Value.int IntKind.i64
    (-5530), Value.int IntKind.i64 (-4570)])) w41 fun (v3 : Value) (w42 : World) => ∃ (t3 : Bool), v3 = Value.bool t3 ∧ KeepX true w.heap.size [m4, m34, m29, m24, m23, m13, m7]
    (fun _ => False) w41 w42 ∧ (t3 = true → ∀ (w43 : World), RowKit.Below w.heap.size w w43 → Kept [m4, m34, m29, m24, m23, m13, m7] w42 w43 → RunsTo Try.prog ((eqGuard
    BinOp.eql 25 (Operand.tmp 138) (Operand.tmp 139) (Value.agg #[Value.int IntKind.i64 x69, Value.int IntKind.i64 x70]) (Value.agg #[Value.int IntKind.i64 (-50), Value.int
    IntKind.i64 (-30)])) >>= fun _ => binOp BinOp.eql 25 (Value.agg #[Value.int IntKind.i64 x69, Value.int IntKind.i64 x70]) (Value.agg #[Value.int IntKind.i64 (-50), Value.int
    IntKind.i64 (-30)])) w43 fun (v4 : Value) (w44 : World) => ∃ (t4 : Bool), v4 = Value.bool t4 ∧ KeepX true w.heap.size [m4, m34, m29, m24, m23, m13, m7] (fun _ => False) w43 w44 ∧ (t4 = true → (x78 = 5344 → ∀ (w45 : World), RowKit.Below w.heap.size w w45 → Kept [m4, m34, m29, m24, m23, m13, m7] w44 w45 → R (Ending.returned (Value.bool
    (x79 == 1232400))) w45) ∧ (x78 ≠ 5344 → ∀ (w46 : World), RowKit.Below w.heap.size w w46 → Kept [m4, m34, m29, m24, m23, m13, m7] w44 w46 → R (Ending.returned (Value.bool
    false)) w46)) ∧ (t4 = false → ∀ (w47 : World), RowKit.Below w.heap.size w w47 → Kept [m4, m34, m29, m24, m23, m13, m7] w44 w47 → R (Ending.returned (Value.bool false)) w47)) ∧
    (t3 = false → ∀ (w48 : World), RowKit.Below w.heap.size w w48 → Kept [m4, m34, m29, m24, m23, m13, m7] w42 w48 → R (Ending.returned (Value.bool false)) w48)) ∧ (x48 ≠ 0 → ∀
    (w49 : World), RowKit.Below w.heap.size w w49 → Kept [m4, m34, m29, m24, m23, m13, m7] w40 w49 → R (Ending.returned (Value.bool false)) w49)) ∧ (x49 ≠ -100 → ∀ (w50 : World),
    RowKit.Below w.heap.size w w50 → Kept [m4, m34, m29, m24, m23, m13, m7] w40 w50 → R (Ending.returned (Value.bool false)) w50)) ∧ (x82 ≠ 1200 → ∀ (w51 : World), RowKit.Below
    w.heap.size w w51 → Kept [m4, m34, m29, m24, m23, m13, m7] w40 w51 → R (Ending.returned (Value.bool false)) w51)) ∧ (x41 ≠ -5 → ∀ (w52 : World), RowKit.Below w.heap.size w w52
    → Kept [m4, m34, m29, m24, m23, m13, m7] w40 w52 → R (Ending.returned (Value.bool false)) w52)) ∧ (x43 ≠ 100 → ∀ (w53 : World), RowKit.Below w.heap.size w w53 → Kept [m4, m34,
    m29, m24, m23, m13, m7] w40 w53 → R (Ending.returned (Value.bool false)) w53)) ∧ (x81 ≠ 1200 → ∀ (w54 : World), RowKit.Below w.heap.size w w54 → Kept [m4, m34, m29, m24, m23,
    m13, m7] w40 w54 → R (Ending.returned (Value.bool false)) w54)) ∧ (t2 = false → ∀ (w55 : World), RowKit.Below w.heap.size w w55 → Kept [m4, m34, m29, m24, m23, m13, m7] w40 w55
    → R (Ending.returned (Value.bool false)) w55)) ∧ (t1 = false → ∀ (w56 : World), RowKit.Below w.heap.size w w56 → Kept [m4, m34, m29, m24, m23, m13, m7] w38 w56 → R
    (Ending.returned (Value.bool false)) w56)))))))))) : Calls Try.prog 12 #[] w R := calls_of_vc (pure := true) (wrapAt := []) (muts := []) (esc := []) (args := []) (vs := [])
    Try.func12 rfl rfl rfl (Eq.mp (by kernel_rfl) h) 
set_option maxRecDepth 100000 in
set_option maxHeartbeats 2000000 in
theorem vc13 (c0 : Int) (c1 : Int) (c2a : Option Addr) (c2n : Nat) (c2c : Nat) (c3 : Int) (c4 : Int) (c5 : Int) (c6 : Int) (w : World) (R : Ending → World → Prop) (h : ∀ (m1 :
    Nat), w.heap.size ≤ m1 → ∀ (m2 : Nat), w.heap.size ≤ m2 → ∀ (m3 : Nat), w.heap.size ≤ m3 → ∀ (w1 : World), RowKit.Below w.heap.size w w1 → Kept [m3, m2, m1] w w1 → w1.heap[m3]?
    = some (Obj.cells #[] 80) → RunsTo Try.prog (Builtin.append_ #[23, 23] 23 #[Value.slice (some { block := m3, off := 0 }) 0 0, Value.slice c2a c2n c2c]) w1 fun (v1 : Value) (w2
    : World) => ∃ (a1 : Option Addr), ∃ (m5 : Nat), ∃ (m6 : Nat), v1 = Value.slice a1 m5 m6 ∧ KeepX true w.heap.size [m3, m2, m1] (fun _ => False) w1 w2 ∧ ∀ (w3 : World),
    RowKit.Below w.heap.size w w3 → Kept [m3, m2, m1] w2 w3 → R (Ending.returned (Value.agg #[Value.int IntKind.i64 c0, Value.int IntKind.i64 c1, Value.slice a1 m5 m6, Value.int
    IntKind.i64 c3, Value.int IntKind.i64 c4, Value.int IntKind.i64 c5, Value.int IntKind.i64 c6])) w3) : Calls Try.prog 13 #[Value.agg #[Value.int IntKind.i64 c0, Value.int
    IntKind.i64 c1, Value.slice c2a c2n c2c, Value.int IntKind.i64 c3, Value.int IntKind.i64 c4, Value.int IntKind.i64 c5, Value.int IntKind.i64 c6]] w R := calls_of_vc (pure :=
    true) (wrapAt := []) (muts := []) (esc := []) (args := [SV.pv (PV.agg [Lf.int IntKind.i64 c0, Lf.int IntKind.i64 c1, Lf.sl c2a c2n c2c, Lf.int IntKind.i64 c3, Lf.int
    IntKind.i64 c4, Lf.int IntKind.i64 c5, Lf.int IntKind.i64 c6])]) (vs := [Value.agg #[Value.int IntKind.i64 c0, Value.int IntKind.i64 c1, Value.slice c2a c2n c2c, Value.int
    IntKind.i64 c3, Value.int IntKind.i64 c4, Value.int IntKind.i64 c5, Value.int IntKind.i64 c6]]) Try.func13 rfl rfl rfl (Eq.mp (by kernel_rfl) h) 
set_option maxRecDepth 100000 in
set_option maxHeartbeats 2000000 in
theorem vc15 (c0 : Int) (c1 : Int) (c2a : Option Addr) (c2n : Nat) (c2c : Nat) (c3 : Int) (c4 : Int) (c5 : Int) (c6 : Int) (w : World) (R : Ending → World → Prop) (h : ∀ (m1 :
    Nat), w.heap.size ≤ m1 → (8 < (↑c2n : Int) → ∀ (w1 : World), RowKit.Below w.heap.size w w1 → Kept [m1] w w1 → R (Ending.returned (Value.int IntKind.i64 5)) w1) ∧ ((↑c2n : Int)
    ≤ 8 → ∃ (F1 : List Lf → World → Prop), ∃ (F2 : List Lf → Nat), (∀ (w3 : World), RowKit.Below w.heap.size w w3 → Kept [m1] w w3 → F1 [Lf.int IntKind.i64 0, Lf.int IntKind.i64 0]
    w3) ∧ ∀ (x1 x2 : Int) (w4 : World), RowKit.Below w.heap.size w w4 → F1 [Lf.int IntKind.i64 x1, Lf.int IntKind.i64 x2] w4 → (x2 < (↑c2n : Int) → ∃ (m2 : Nat), ∃ (m3 : Nat), c2a
    = some { block := m2, off := m3 } ∧ (0 ≤ x2 ∧ x2 < (↑c2n : Int)) ∧ ∃ (x3 : Int), w4.cell? { block := m2, off := m3 + x2.toNat * 4 + 0 } = some (Value.int IntKind.i64 x3) ∧ (m2
    < w.heap.size ∨ m2 ≠ m1) ∧ (x3 < 1 → ∀ (w5 : World), RowKit.Below w.heap.size w w5 → Kept [m1] w4 w5 → R (Ending.returned (Value.int IntKind.i64 2)) w5) ∧ (1 ≤ x3 → ∃ (m4 :
    Nat), ∃ (m5 : Nat), c2a = some { block := m4, off := m5 } ∧ (0 ≤ x2 ∧ x2 < (↑c2n : Int)) ∧ ∃ (x4 : Int), w4.cell? { block := m4, off := m5 + x2.toNat * 4 + 0 } = some
    (Value.int IntKind.i64 x4) ∧ (m4 < w.heap.size ∨ m4 ≠ m1) ∧ (100000 < x4 → ∀ (w6 : World), RowKit.Below w.heap.size w w6 → Kept [m1] w4 w6 → R (Ending.returned (Value.int
    IntKind.i64 2)) w6) ∧ (x4 ≤ 100000 → ∃ (m6 : Nat), ∃ (m7 : Nat), c2a = some { block := m6, off := m7 } ∧ (0 ≤ x2 ∧ x2 < (↑c2n : Int)) ∧ ∃ (x5 : Int), ∃ (x6 : Int), w4.cell?
    { block := m6, off := m7 + x2.toNat * 4 + 1 } = some (Value.int IntKind.i64 x5) ∧ w4.cell? { block := m6, off := m7 + x2.toNat * 4 + 1 + 1 } = some (Value.int IntKind.i64 x6) ∧
    (m6 < w.heap.size ∨ m6 ≠ m1) ∧ ∀ (w7 : World), RowKit.Below w.heap.size w w7 → Kept [m1] w4 w7 → Calls Try.prog 46 #[Value.agg #[Value.int IntKind.i64 x5, Value.int IntKind.i64
    x6], Value.int IntKind.i64 0, Value.int IntKind.i64 40000] w7 fun (e1 : Ending) (w8 : World) => ∃ (t1 : Bool), e1 = Ending.returned (Value.bool t1) ∧ KeepX true w.heap.size
    [m1] (fun _ => False) w7 w8 ∧ ((!t1) = true → ∀ (w9 : World), RowKit.Below w.heap.size w w9 → Kept [m1] w8 w9 → R (Ending.returned (Value.int IntKind.i64 2)) w9) ∧
    ((!t1) = false → (-9223372036854775808 ≤ x2 + 1 ∧ x2 + (1 : Int) ≤ 9223372036854775807) ∧ ∀ (w10 : World), RowKit.Below w.heap.size w w10 → Kept [m1] w8 w10 → F1 [Lf.int
    IntKind.i64 x1, Lf.int IntKind.i64 (x2 + 1)] w10 ∧ F2 [Lf.int IntKind.i64 x1, Lf.int IntKind.i64 (x2 + 1)] < F2 [Lf.int IntKind.i64 x1, Lf.int IntKind.i64 x2])))) ∧ ((↑c2n :
    Int) ≤ x2 → ((↑c2n : Int) = 0 → ∀ (w11 : World), RowKit.Below w.heap.size w w11 → Kept [m1] w4 w11 → R (Ending.returned (Value.int IntKind.i64 2)) w11) ∧ ((↑c2n : Int) ≠ 0 →
    (c1 < -1000000 → ∀ (w12 : World), RowKit.Below w.heap.size w w12 → Kept [m1] w4 w12 → R (Ending.returned (Value.int IntKind.i64 2)) w12) ∧ (-1000000 ≤ c1 → (1000000 < c1 → ∀
    (w13 : World), RowKit.Below w.heap.size w w13 → Kept [m1] w4 w13 → R (Ending.returned (Value.int IntKind.i64 2)) w13) ∧ (c1 ≤ 1000000 → ∀ (w14 : World), RowKit.Below
    w.heap.size w w14 → Kept [m1] w4 w14 → Calls Try.prog 46 #[Value.agg #[Value.int IntKind.i64 c3, Value.int IntKind.i64 c4], Value.int IntKind.i64 (-100), Value.int IntKind.i64
    100] w14 fun (e2 : Ending) (w15 : World) => ∃ (t2 : Bool), e2 = Ending.returned (Value.bool t2) ∧ KeepX true w.heap.size [m1] (fun _ => False) w14 w15 ∧ ((!t2) = true
    → ∀ (w16 : World), RowKit.Below w.heap.size w w16 → Kept [m1] w15 w16 → R (Ending.returned (Value.int IntKind.i64 2)) w16) ∧ ((!t2) = false → ∀ (w17 : World), RowKit.Below
    w.heap.size w w17 → Kept [m1] w15 w17 → Calls Try.prog 46 #[Value.agg #[Value.int IntKind.i64 c5, Value.int IntKind.i64 c6], Value.int IntKind.i64 (-1000), Value.int
    IntKind.i64 1000] w17 fun (e3 : Ending) (w18 : World) => ∃ (t3 : Bool), e3 = Ending.returned (Value.bool t3) ∧ KeepX true w.heap.size [m1] (fun _ => False) w17 w18 ∧
    ((!t3) = true → ∀ (w19 : World), RowKit.Below w.heap.size w w19 → Kept [m1] w18 w19 → R (Ending.returned (Value.int IntKind.i64 2)) w19) ∧ ((!t3) = false → ∀ (w20 : World),
    RowKit.Below w.heap.size w w20 → Kept [m1] w18 w20 → Calls Try.prog 21 #[Value.agg #[Value.int IntKind.i64 c0, Value.int IntKind.i64 c1, Value.slice c2a c2n c2c, Value.int
    IntKind.i64 c3, Value.int IntKind.i64 c4, Value.int IntKind.i64 c5, Value.int IntKind.i64 c6]] w20 fun (e4 : Ending) (w21 : World) => ∃ (x7 : Int), e4 = Ending.returned
    (Value.int IntKind.i64 x7) ∧ KeepX true w.heap.size [m1] (fun _ => False) w20 w21 ∧ (x7 < 100 → ∀ (w22 : World), RowKit.Below w.heap.size w w22 → Kept [m1] w21 w22 →
    R (Ending.returned (Value.int IntKind.i64 2)) w22) ∧ (100 ≤ x7 → ∀ (w23 : World), RowKit.Below w.heap.size w w23 → Kept [m1] w21 w23 → Calls Try.prog 21 #[Value.agg #[Value.int
    IntKind.i64 c0, Value.int IntKind.i64 c1, Value.slice c2a c2n c2c, Value.int IntKind.i64 c3, Value.int IntKind.i64 c4, Value.int IntKind.i64 c5, Value.int IntKind.i64 c6]] w23
    fun (e5 : Ending) (w24 : World) => ∃ (x8 : Int), e5 = Ending.returned (Value.int IntKind.i64 x8) ∧ KeepX true w.heap.size [m1] (fun _ => False) w23 w24 ∧ (100000 < x8
    → ∀ (w25 : World), RowKit.Below w.heap.size w w25 → Kept [m1] w24 w25 → R (Ending.returned (Value.int IntKind.i64 2)) w25) ∧ (x8 ≤ 100000 → (c0 < 1 → ∀ (w26 : World),
    RowKit.Below w.heap.size w w26 → Kept [m1] w24 w26 → R (Ending.returned (Value.int IntKind.i64 2)) w26) ∧ (1 ≤ c0 → (3 < c0 → ∀ (w27 : World), RowKit.Below w.heap.size w w27 →
    Kept [m1] w24 w27 → R (Ending.returned (Value.int IntKind.i64 2)) w27) ∧ (c0 ≤ 3 → (c0 = 2 → (c5 < 0 → ∀ (w28 : World), RowKit.Below w.heap.size w w28 → Kept [m1] w24 w28 → R
    (Ending.returned (Value.int IntKind.i64 2)) w28) ∧ (0 ≤ c5 → (c0 = 3 → ∀ (w29 : World), RowKit.Below w.heap.size w w29 → Kept [m1] w24 w29 → RunsTo Try.prog ((eqGuard BinOp.neq
    25 (Operand.tmp 102) (Operand.tmp 103) (Value.agg #[Value.int IntKind.i64 c5, Value.int IntKind.i64 c6]) (Value.agg #[Value.int IntKind.i64 0, Value.int IntKind.i64 0])) >>=
    fun _ => binOp BinOp.neq 25 (Value.agg #[Value.int IntKind.i64 c5, Value.int IntKind.i64 c6]) (Value.agg #[Value.int IntKind.i64 0, Value.int IntKind.i64 0])) w29 fun (v1 :
    Value) (w30 : World) => ∃ (t4 : Bool), v1 = Value.bool t4 ∧ KeepX true w.heap.size [m1] (fun _ => False) w29 w30 ∧ (t4 = true → ∀ (w31 : World), RowKit.Below
    w.heap.size w w31 → Kept [m1] w30 w31 → R (Ending.returned (Value.int IntKind.i64 2)) w31) ∧ (t4 = false → ∀ (w32 : World), RowKit.Below w.heap.size w w32 → Kept [m1] w30 w32 →
    R (Ending.returned (Value.int IntKind.i64 0)) w32)) ∧ (c0 ≠ 3 → ∀ (w33 : World), RowKit.Below w.heap.size w w33 → Kept [m1] w24 w33 → R (Ending.returned (Value.int IntKind.i64
    0)) w33))) ∧ (c0 ≠ 2 → (c0 = 3 → ∀ (w34 : World), RowKit.Below w.heap.size w w34 → Kept [m1] w24 w34 → RunsTo Try.prog ((eqGuard BinOp.neq 25 (Operand.tmp 102) (Operand.tmp
    103) (Value.agg #[Value.int IntKind.i64 c5, Value.int IntKind.i64 c6]) (Value.agg #[Value.int IntKind.i64 0, Value.int IntKind.i64 0])) >>= fun _ => binOp BinOp.neq 25
    (Value.agg #[Value.int IntKind.i64 c5, Value.int IntKind.i64 c6]) (Value.agg #[Value.int IntKind.i64 0, Value.int IntKind.i64 0])) w34 fun (v2 : Value) (w35 : World) => ∃ (t5 :
    Bool), v2 = Value.bool t5 ∧ KeepX true w.heap.size [m1] (fun _ => False) w34 w35 ∧ (t5 = true → ∀ (w36 : World), RowKit.Below w.heap.size w w36 → Kept [m1] w35 w36 →
    R (Ending.returned (Value.int IntKind.i64 2)) w36) ∧ (t5 = false → ∀ (w37 : World), RowKit.Below w.heap.size w w37 → Kept [m1] w35 w37 → R (Ending.returned (Value.int
    IntKind.i64 0)) w37)) ∧ (c0 ≠ 3 → ∀ (w38 : World), RowKit.Below w.heap.size w w38 → Kept [m1] w24 w38 → R (Ending.returned (Value.int IntKind.i64 0)) w38)))))))))))))) : Calls
    Try.prog 15 #[Value.agg #[Value.int IntKind.i64 c0, Value.int IntKind.i64 c1, Value.slice c2a c2n c2c, Value.int IntKind.i64 c3, Value.int IntKind.i64 c4, Value.int IntKind.i64
    c5, Value.int IntKind.i64 c6]] w R := calls_of_vc (pure := true) (wrapAt := []) (muts := []) (esc := []) (args := [SV.pv (PV.agg [Lf.int IntKind.i64 c0, Lf.int IntKind.i64 c1,
    Lf.sl c2a c2n c2c, Lf.int IntKind.i64 c3, Lf.int IntKind.i64 c4, Lf.int IntKind.i64 c5, Lf.int IntKind.i64 c6])]) (vs := [Value.agg #[Value.int IntKind.i64 c0, Value.int
    IntKind.i64 c1, Value.slice c2a c2n c2c, Value.int IntKind.i64 c3, Value.int IntKind.i64 c4, Value.int IntKind.i64 c5, Value.int IntKind.i64 c6]]) Try.func15 rfl rfl rfl (Eq.mp
    (by kernel_rfl) h) 
set_option maxRecDepth 100000 in
set_option maxHeartbeats 2000000 in
theorem vc21 (c0 : Int) (c1 : Int) (c2a : Option Addr) (c2n : Nat) (c2c : Nat) (c3 : Int) (c4 : Int) (c5 : Int) (c6 : Int) (w : World) (R : Ending → World → Prop) (h : ∀ (m1 :
    Nat), w.heap.size ≤ m1 → ∃ (F1 : List Lf → World → Prop), ∃ (F2 : List Lf → Nat), (∀ (w2 : World), RowKit.Below w.heap.size w w2 → Kept [m1] w w2 → F1 [Lf.int IntKind.i64 0,
    Lf.int IntKind.i64 0] w2) ∧ ∀ (x1 x2 : Int) (w3 : World), RowKit.Below w.heap.size w w3 → F1 [Lf.int IntKind.i64 x1, Lf.int IntKind.i64 x2] w3 → (x2 < (↑c2n : Int) → ∃ (m2 :
    Nat), ∃ (m3 : Nat), c2a = some { block := m2, off := m3 } ∧ (0 ≤ x2 ∧ x2 < (↑c2n : Int)) ∧ ∃ (t1 : Bool), w3.cell? { block := m2, off := m3 + x2.toNat * 4 + 3 } = some
    (Value.bool t1) ∧ (m2 < w.heap.size ∨ m2 ≠ m1) ∧ (t1 = true → ∃ (m4 : Nat), ∃ (m5 : Nat), c2a = some { block := m4, off := m5 } ∧ (0 ≤ x2 ∧ x2 < (↑c2n : Int)) ∧ ∃ (x3 : Int),
    w3.cell? { block := m4, off := m5 + x2.toNat * 4 + 0 } = some (Value.int IntKind.i64 x3) ∧ (m4 < w.heap.size ∨ m4 ≠ m1) ∧ (-9223372036854775808 ≤ x1 - x3 ∧ x1 - x3 ≤
    9223372036854775807) ∧ (-9223372036854775808 ≤ x2 + 1 ∧ x2 + (1 : Int) ≤ 9223372036854775807) ∧ ∀ (w4 : World), RowKit.Below w.heap.size w w4 → Kept [m1] w3 w4 → F1 [Lf.int
    IntKind.i64 (x1 - x3), Lf.int IntKind.i64 (x2 + 1)] w4 ∧ F2 [Lf.int IntKind.i64 (x1 - x3), Lf.int IntKind.i64 (x2 + 1)] < F2 [Lf.int IntKind.i64 x1, Lf.int IntKind.i64 x2]) ∧
    (t1 = false → ∃ (m6 : Nat), ∃ (m7 : Nat), c2a = some { block := m6, off := m7 } ∧ (0 ≤ x2 ∧ x2 < (↑c2n : Int)) ∧ ∃ (x4 : Int), w3.cell?
    { block := m6, off := m7 + x2.toNat * 4 + 0 } = some (Value.int IntKind.i64 x4) ∧ (m6 < w.heap.size ∨ m6 ≠ m1) ∧ (-9223372036854775808 ≤ x1 + x4 ∧ x1 + x4 ≤
    9223372036854775807) ∧ (-9223372036854775808 ≤ x2 + 1 ∧ x2 + (1 : Int) ≤ 9223372036854775807) ∧ ∀ (w5 : World), RowKit.Below w.heap.size w w5 → Kept [m1] w3 w5 → F1 [Lf.int
    IntKind.i64 (x1 + x4), Lf.int IntKind.i64 (x2 + 1)] w5 ∧ F2 [Lf.int IntKind.i64 (x1 + x4), Lf.int IntKind.i64 (x2 + 1)] < F2 [Lf.int IntKind.i64 x1, Lf.int IntKind.i64 x2])) ∧
    ((↑c2n : Int) ≤ x2 → ∀ (w6 : World), RowKit.Below w.heap.size w w6 → Kept [m1] w3 w6 → R (Ending.returned (Value.int IntKind.i64 x1)) w6)) : Calls Try.prog 21 #[Value.agg
    #[Value.int IntKind.i64 c0, Value.int IntKind.i64 c1, Value.slice c2a c2n c2c, Value.int IntKind.i64 c3, Value.int IntKind.i64 c4, Value.int IntKind.i64 c5, Value.int
    IntKind.i64 c6]] w R := calls_of_vc (pure := true) (wrapAt := []) (muts := []) (esc := []) (args := [SV.pv (PV.agg [Lf.int IntKind.i64 c0, Lf.int IntKind.i64 c1, Lf.sl c2a c2n
    c2c, Lf.int IntKind.i64 c3, Lf.int IntKind.i64 c4, Lf.int IntKind.i64 c5, Lf.int IntKind.i64 c6])]) (vs := [Value.agg #[Value.int IntKind.i64 c0, Value.int IntKind.i64 c1,
    Value.slice c2a c2n c2c, Value.int IntKind.i64 c3, Value.int IntKind.i64 c4, Value.int IntKind.i64 c5, Value.int IntKind.i64 c6]]) Try.func21 rfl rfl rfl (Eq.mp (by kernel_rfl)
    h) 
set_option maxRecDepth 100000 in
set_option maxHeartbeats 2000000 in
theorem vc46 (s0 : Int) (s1 : Int) (least : Int) (most : Int) (w : World) (R : Ending → World → Prop) (h : ∀ (m1 : Nat), w.heap.size ≤ m1 → (least ≤ s0 → (s0 ≤ s1 → ∀ (w1 : World),
    RowKit.Below w.heap.size w w1 → Kept [m1] w w1 → R (Ending.returned (Value.bool (decide (s1 ≤ most)))) w1) ∧ (s1 < s0 → ∀ (w2 : World), RowKit.Below w.heap.size w w2 → Kept
    [m1] w w2 → R (Ending.returned (Value.bool false)) w2)) ∧ (s0 < least → ∀ (w3 : World), RowKit.Below w.heap.size w w3 → Kept [m1] w w3 → R (Ending.returned (Value.bool false))
    w3)) : Calls Try.prog 46 #[Value.agg #[Value.int IntKind.i64 s0, Value.int IntKind.i64 s1], Value.int IntKind.i64 least, Value.int IntKind.i64 most] w R := calls_of_vc (pure :=
    true) (wrapAt := []) (muts := []) (esc := []) (args := [SV.pv (PV.agg [Lf.int IntKind.i64 s0, Lf.int IntKind.i64 s1]), SV.pv (PV.one (Lf.int IntKind.i64 least)), SV.pv (PV.one
    (Lf.int IntKind.i64 most))]) (vs := [Value.agg #[Value.int IntKind.i64 s0, Value.int IntKind.i64 s1], Value.int IntKind.i64 least, Value.int IntKind.i64 most]) Try.func46 rfl
    rfl rfl (Eq.mp (by kernel_rfl) h) 
set_option maxRecDepth 100000 in
set_option maxHeartbeats 2000000 in
theorem vc54 (c0 : Int) (c1 : Int) (c2a : Option Addr) (c2n : Nat) (c2c : Nat) (c3 : Int) (c4 : Int) (c5 : Int) (c6 : Int) (growa : Option Addr) (grown : Nat) (growc : Nat) (w :
    World) (R : Ending → World → Prop) (h : ∀ (m1 : Nat), w.heap.size ≤ m1 → ∃ (F1 : List Lf → World → Prop), ∃ (F2 : List Lf → Nat), (∀ (w2 : World), RowKit.Below w.heap.size w w2
    → Kept [m1] w w2 → F1 [Lf.int IntKind.i64 0, Lf.int IntKind.i64 0] w2) ∧ ∀ (x1 x2 : Int) (w3 : World), RowKit.Below w.heap.size w w3 → F1 [Lf.int IntKind.i64 x1, Lf.int
    IntKind.i64 x2] w3 → (x2 < (↑c2n : Int) → ∃ (m2 : Nat), ∃ (m3 : Nat), c2a = some { block := m2, off := m3 } ∧ (0 ≤ x2 ∧ x2 < (↑c2n : Int)) ∧ ∃ (t1 : Bool), w3.cell?
    { block := m2, off := m3 + x2.toNat * 4 + 3 } = some (Value.bool t1) ∧ (m2 < w.heap.size ∨ m2 ≠ m1) ∧ (t1 = true → ∃ (m4 : Nat), ∃ (m5 : Nat), c2a = some
    { block := m4, off := m5 } ∧ (0 ≤ x2 ∧ x2 < (↑c2n : Int)) ∧ ∃ (x3 : Int), w3.cell? { block := m4, off := m5 + x2.toNat * 4 + 0 } = some (Value.int IntKind.i64 x3) ∧ (m4 <
    w.heap.size ∨ m4 ≠ m1) ∧ ∃ (m6 : Nat), ∃ (m7 : Nat), growa = some { block := m6, off := m7 } ∧ (0 ≤ x2 ∧ x2 < (↑grown : Int)) ∧ ∃ (x4 : Int), w3.cell?
    { block := m6, off := m7 + x2.toNat * 1 } = some (Value.int IntKind.i64 x4) ∧ (m6 < w.heap.size ∨ m6 ≠ m1) ∧ (-9223372036854775808 ≤ x3 * x4 ∧ x3 * x4 ≤ 9223372036854775807) ∧
    (-9223372036854775808 ≤ x1 - x3 * x4 ∧ x1 - x3 * x4 ≤ 9223372036854775807) ∧ (-9223372036854775808 ≤ x2 + 1 ∧ x2 + (1 : Int) ≤ 9223372036854775807) ∧ ∀ (w4 : World),
    RowKit.Below w.heap.size w w4 → Kept [m1] w3 w4 → F1 [Lf.int IntKind.i64 (x1 - x3 * x4), Lf.int IntKind.i64 (x2 + 1)] w4 ∧ F2 [Lf.int IntKind.i64 (x1 - x3 * x4), Lf.int
    IntKind.i64 (x2 + 1)] < F2 [Lf.int IntKind.i64 x1, Lf.int IntKind.i64 x2]) ∧ (t1 = false → ∃ (m8 : Nat), ∃ (m9 : Nat), c2a = some { block := m8, off := m9 } ∧ (0 ≤ x2 ∧ x2 <
    (↑c2n : Int)) ∧ ∃ (x5 : Int), w3.cell? { block := m8, off := m9 + x2.toNat * 4 + 0 } = some (Value.int IntKind.i64 x5) ∧ (m8 < w.heap.size ∨ m8 ≠ m1) ∧ ∃ (m10 : Nat), ∃ (m11 :
    Nat), growa = some { block := m10, off := m11 } ∧ (0 ≤ x2 ∧ x2 < (↑grown : Int)) ∧ ∃ (x6 : Int), w3.cell? { block := m10, off := m11 + x2.toNat * 1 } = some (Value.int
    IntKind.i64 x6) ∧ (m10 < w.heap.size ∨ m10 ≠ m1) ∧ (-9223372036854775808 ≤ x5 * x6 ∧ x5 * x6 ≤ 9223372036854775807) ∧ (-9223372036854775808 ≤ x1 + x5 * x6 ∧ x1 + x5 * x6 ≤
    9223372036854775807) ∧ (-9223372036854775808 ≤ x2 + 1 ∧ x2 + (1 : Int) ≤ 9223372036854775807) ∧ ∀ (w5 : World), RowKit.Below w.heap.size w w5 → Kept [m1] w3 w5 → F1 [Lf.int
    IntKind.i64 (x1 + x5 * x6), Lf.int IntKind.i64 (x2 + 1)] w5 ∧ F2 [Lf.int IntKind.i64 (x1 + x5 * x6), Lf.int IntKind.i64 (x2 + 1)] < F2 [Lf.int IntKind.i64 x1, Lf.int
    IntKind.i64 x2])) ∧ ((↑c2n : Int) ≤ x2 → ∀ (w6 : World), RowKit.Below w.heap.size w w6 → Kept [m1] w3 w6 → R (Ending.returned (Value.int IntKind.i64 x1)) w6)) : Calls Try.prog
    54 #[Value.agg #[Value.int IntKind.i64 c0, Value.int IntKind.i64 c1, Value.slice c2a c2n c2c, Value.int IntKind.i64 c3, Value.int IntKind.i64 c4, Value.int IntKind.i64 c5,
    Value.int IntKind.i64 c6], Value.slice growa grown growc] w R := calls_of_vc (pure := true) (wrapAt := []) (muts := []) (esc := []) (args := [SV.pv (PV.agg [Lf.int IntKind.i64
    c0, Lf.int IntKind.i64 c1, Lf.sl c2a c2n c2c, Lf.int IntKind.i64 c3, Lf.int IntKind.i64 c4, Lf.int IntKind.i64 c5, Lf.int IntKind.i64 c6]), SV.pv (PV.one (Lf.sl growa grown
    growc))]) (vs := [Value.agg #[Value.int IntKind.i64 c0, Value.int IntKind.i64 c1, Value.slice c2a c2n c2c, Value.int IntKind.i64 c3, Value.int IntKind.i64 c4, Value.int
    IntKind.i64 c5, Value.int IntKind.i64 c6], Value.slice growa grown growc]) Try.func54 rfl rfl rfl (Eq.mp (by kernel_rfl) h) 
set_option maxRecDepth 100000 in
set_option maxHeartbeats 2000000 in
theorem vc39  (w : World) (R : Ending → World → Prop) (h : ∀ (m1 : Nat), w.heap.size ≤ m1 → ∀ (m2 : Nat), w.heap.size ≤ m2 → ∀ (w1 : World), RowKit.Below w.heap.size w w1 → Kept
    [m2, m1] w w1 → w1.heap[m2]? = some (Obj.cells #[Value.int IntKind.i64 9940, Value.int IntKind.i64 1100, Value.int IntKind.i64 1200, Value.bool false] 80) → R (Ending.returned
    (Value.agg #[Value.int IntKind.i64 2, Value.int IntKind.i64 0, Value.slice (some { block := m2, off := 0 }) 1 1, Value.int IntKind.i64 (-5), Value.int IntKind.i64 (-3),
    Value.int IntKind.i64 0, Value.int IntKind.i64 20])) w1) : Calls Try.prog 39 #[] w R := calls_of_vc (pure := true) (wrapAt := []) (muts := []) (esc := []) (args := []) (vs :=
    []) Try.func39 rfl rfl rfl (Eq.mp (by kernel_rfl) h) 
set_option maxRecDepth 100000 in
set_option maxHeartbeats 2000000 in
theorem vc40  (w : World) (R : Ending → World → Prop) (h : ∀ (m1 : Nat), w.heap.size ≤ m1 → ∀ (w1 : World), RowKit.Below w.heap.size w w1 → Kept [m1] w w1 → R (Ending.returned
    (Value.agg #[Value.int IntKind.i64 (-100), Value.int IntKind.i64 100, Value.int IntKind.i64 0, Value.int IntKind.i64 0, Value.int IntKind.i64 0, Value.int IntKind.i64 0,
    Value.int IntKind.i64 0, Value.int IntKind.i64 0])) w1) : Calls Try.prog 40 #[] w R := calls_of_vc (pure := true) (wrapAt := []) (muts := []) (esc := []) (args := []) (vs :=
    []) Try.func40 rfl rfl rfl (Eq.mp (by kernel_rfl) h) 
set_option maxRecDepth 100000 in
set_option maxHeartbeats 2000000 in
theorem vc41  (w : World) (R : Ending → World → Prop) (h : ∀ (m1 : Nat), w.heap.size ≤ m1 → ∀ (w1 : World), RowKit.Below w.heap.size w w1 → Kept [m1] w w1 → Calls Try.prog 39 #[]
    w1 fun (e1 : Ending) (w2 : World) => ∃ (x1 : Int), ∃ (x2 : Int), ∃ (a1 : Option Addr), ∃ (m2 : Nat), ∃ (m3 : Nat), ∃ (x3 : Int), ∃ (x4 : Int), ∃ (x5 : Int), ∃ (x6 : Int), e1 =
    Ending.returned (Value.agg #[Value.int IntKind.i64 x1, Value.int IntKind.i64 x2, Value.slice a1 m2 m3, Value.int IntKind.i64 x3, Value.int IntKind.i64 x4, Value.int IntKind.i64
    x5, Value.int IntKind.i64 x6]) ∧ KeepX true w.heap.size [m1] (fun _ => False) w1 w2 ∧ ∀ (m5 : Nat), w2.heap.size ≤ m5 → ∀ (m6 : Nat), w2.heap.size ≤ m6 → ∀ (w3 :
    World), RowKit.Below w.heap.size w w3 → Kept [m6, m5, m1] w2 w3 → w3.heap[m6]? = some (Obj.cells #[Value.int IntKind.i64 13940, Value.int IntKind.i64 1100, Value.int
    IntKind.i64 1200, Value.bool false, Value.int IntKind.i64 4000, Value.int IntKind.i64 2900, Value.int IntKind.i64 3100, Value.bool true] 80) → R (Ending.returned (Value.agg
    #[Value.int IntKind.i64 x1, Value.int IntKind.i64 x2, Value.slice (some { block := m6, off := 0 }) 2 2, Value.int IntKind.i64 x3, Value.int IntKind.i64 x4, Value.int
    IntKind.i64 x5, Value.int IntKind.i64 x6])) w3) : Calls Try.prog 41 #[] w R := calls_of_vc (pure := true) (wrapAt := []) (muts := []) (esc := []) (args := []) (vs := [])
    Try.func41 rfl rfl rfl (Eq.mp (by kernel_rfl) h) 
end Go.Proofs
end
section
/- The reference's small functions; same, copied. -/
namespace Go.Proofs.R03
open Go.Vc Go.RowKit Go.Proofs

theorem eq_span (a b c d : Int) (w : World) : (Op.equal 25 (.agg #[I a, I b]) (.agg #[I c, I d])).run Try.prog w = .ok (decide ((a, b) = (c, d))) w := by
  have hS : Try.prog.underlying 25 = some (.struct (Try.prog.fieldsOf 25)) := by kernel_rfl
  show (Op.equalIn (9999 + 1) 25 _ _).run _ _ = _
  have hp : Try.prog.stoodInHeld 25 = false := by kernel_rfl
  rw [run_equalIn_agg w 9999 25 _ _ hS hp]
  simp only [Program.fieldsOf, Try.underlying25]
  have p1 : ∀ (x y : Int), (part 3 #[I x, I y] 0).run Try.prog w = .ok (I x) w := fun _ _ => by kernel_rfl
  have p2 : ∀ (x y : Int), (part 3 #[I x, I y] 1).run Try.prog w = .ok (I y) w := fun _ _ => by kernel_rfl
  have u3 : Try.prog.underlying 3 = some (.int .i64) := by kernel_rfl
  have q1 : ∀ x y : Int, (Op.equalIn 9999 3 (I x) (I y)).run Try.prog w = .ok (x == y) w := fun x y => run_equalIn_int w 9998 3 _ _ _ _ u3
  by_cases h1 : a = c <;> by_cases h2 : b = d <;> simp [Op.eqFields, p1, p2, q1, h1, h2, Sem.run_bind, Sem.run_pure]
theorem guard_span (op : BinOp) (x y : Operand) (a b c d : Int) (w : World) : (eqGuard op 25 x y (.agg #[I a, I b]) (.agg #[I c, I d])).run Try.prog w = .ok () w := by
  cases op <;> kernel_rfl
theorem eql_span {x y : Operand} {a b c d : Int} {w : World} {R : Value → World → Prop} (h : R (.bool (decide ((a, b) = (c, d)))) w) : RunsTo Try.prog ((eqGuard .eql 25 x y (.agg #[I a, I b]) (.agg #[I c, I d])) >>= fun _ => binOp .eql 25 (.agg #[I a, I b]) (.agg #[I c, I d])) w R := by
  refine ⟨_, w, ?_, h⟩
  simp only [Sem.run_bind, guard_span, Result.andThen_ok, binOp, eq_span, Sem.run_pure]
theorem neq_span {x y : Operand} {a b c d : Int} {w : World} {R : Value → World → Prop} (h : R (.bool (!decide ((a, b) = (c, d)))) w) : RunsTo Try.prog ((eqGuard .neq 25 x y (.agg #[I a, I b]) (.agg #[I c, I d])) >>= fun _ => binOp .neq 25 (.agg #[I a, I b]) (.agg #[I c, I d])) w R := by
  refine ⟨_, w, ?_, h⟩
  simp only [Sem.run_bind, guard_span, Result.andThen_ok, binOp, eq_span, Sem.run_pure]
theorem eq_ratio (a b c d : Int) (w : World) : (Op.equal 34 (.agg #[I a, I b]) (.agg #[I c, I d])).run Try.prog w = .ok (decide ((a, b) = (c, d))) w := by
  have hS : Try.prog.underlying 34 = some (.struct (Try.prog.fieldsOf 34)) := by kernel_rfl
  show (Op.equalIn (9999 + 1) 34 _ _).run _ _ = _
  have hp : Try.prog.stoodInHeld 34 = false := by kernel_rfl
  rw [run_equalIn_agg w 9999 34 _ _ hS hp]
  simp only [Program.fieldsOf, Try.underlying34]
  have p1 : ∀ (x y : Int), (part 3 #[I x, I y] 0).run Try.prog w = .ok (I x) w := fun _ _ => by kernel_rfl
  have p2 : ∀ (x y : Int), (part 3 #[I x, I y] 1).run Try.prog w = .ok (I y) w := fun _ _ => by kernel_rfl
  have u3 : Try.prog.underlying 3 = some (.int .i64) := by kernel_rfl
  have q1 : ∀ x y : Int, (Op.equalIn 9999 3 (I x) (I y)).run Try.prog w = .ok (x == y) w := fun x y => run_equalIn_int w 9998 3 _ _ _ _ u3
  by_cases h1 : a = c <;> by_cases h2 : b = d <;> simp [Op.eqFields, p1, p2, q1, h1, h2, Sem.run_bind, Sem.run_pure]
theorem guard_ratio (op : BinOp) (x y : Operand) (a b c d : Int) (w : World) : (eqGuard op 34 x y (.agg #[I a, I b]) (.agg #[I c, I d])).run Try.prog w = .ok () w := by
  cases op <;> kernel_rfl
theorem eql_ratio {x y : Operand} {a b c d : Int} {w : World} {R : Value → World → Prop} (h : R (.bool (decide ((a, b) = (c, d)))) w) : RunsTo Try.prog ((eqGuard .eql 34 x y (.agg #[I a, I b]) (.agg #[I c, I d])) >>= fun _ => binOp .eql 34 (.agg #[I a, I b]) (.agg #[I c, I d])) w R := by
  refine ⟨_, w, ?_, h⟩
  simp only [Sem.run_bind, guard_ratio, Result.andThen_ok, binOp, eq_ratio, Sem.run_pure]

theorem eq_span' (a b c d : Int) (w : World) : (Op.equalIn 9999 25 (.agg #[I a, I b]) (.agg #[I c, I d])).run Try.prog w = .ok (decide ((a, b) = (c, d))) w := by
  have hS : Try.prog.underlying 25 = some (.struct (Try.prog.fieldsOf 25)) := by kernel_rfl
  show (Op.equalIn (9998 + 1) 25 _ _).run _ _ = _
  have hp : Try.prog.stoodInHeld 25 = false := by kernel_rfl
  rw [run_equalIn_agg w 9998 25 _ _ hS hp]
  simp only [Program.fieldsOf, Try.underlying25]
  have p1 : ∀ (x y : Int), (part 3 #[I x, I y] 0).run Try.prog w = .ok (I x) w := fun _ _ => by kernel_rfl
  have p2 : ∀ (x y : Int), (part 3 #[I x, I y] 1).run Try.prog w = .ok (I y) w := fun _ _ => by kernel_rfl
  have u3 : Try.prog.underlying 3 = some (.int .i64) := by kernel_rfl
  have q1 : ∀ x y : Int, (Op.equalIn 9998 3 (I x) (I y)).run Try.prog w = .ok (x == y) w := fun x y => run_equalIn_int w 9997 3 _ _ _ _ u3
  by_cases h1 : a = c <;> by_cases h2 : b = d <;> simp [Op.eqFields, p1, p2, q1, h1, h2, Sem.run_bind, Sem.run_pure]
theorem guard_rod (x y : Operand) (a1 a2 a3 b1 b2 b3 : Int) (a4 b4 : Bool) (w : World) : (eqGuard .neq 80 x y (.agg #[I a1, I a2, I a3, .bool a4]) (.agg #[I b1, I b2, I b3, .bool b4])).run Try.prog w = .ok () w := by kernel_rfl
theorem eq_rod (a1 a2 a3 b1 b2 b3 : Int) (a4 b4 : Bool) (w : World) : (Op.equal 80 (.agg #[I a1, I a2, I a3, .bool a4]) (.agg #[I b1, I b2, I b3, .bool b4])).run Try.prog w = .ok (decide ((⟨a1, a2, a3, a4⟩ : Rod) = ⟨b1, b2, b3, b4⟩)) w := by
  have hS : Try.prog.underlying 80 = some (.struct (Try.prog.fieldsOf 80)) := by kernel_rfl
  show (Op.equalIn (9999 + 1) 80 _ _).run _ _ = _
  have hp : Try.prog.stoodInHeld 80 = false := by kernel_rfl
  rw [run_equalIn_agg w 9999 80 _ _ hS hp]
  simp only [Program.fieldsOf, Try.underlying80]
  have p1 : ∀ (x y z : Int) (u : Bool), (part 3 #[I x, I y, I z, .bool u] 0).run Try.prog w = .ok (I x) w := fun _ _ _ _ => by kernel_rfl
  have p2 : ∀ (x y z : Int) (u : Bool), (part 25 #[I x, I y, I z, .bool u] 1).run Try.prog w = .ok (.agg #[I y, I z]) w := fun _ _ _ _ => by kernel_rfl
  have p3 : ∀ (x y z : Int) (u : Bool), (part 4 #[I x, I y, I z, .bool u] 3).run Try.prog w = .ok (.bool u) w := fun _ _ _ _ => by kernel_rfl
  have u3 : Try.prog.underlying 3 = some (.int .i64) := by kernel_rfl
  have u4 : Try.prog.underlying 4 = some .bool := by kernel_rfl
  have q1 : ∀ x y : Int, (Op.equalIn 9999 3 (I x) (I y)).run Try.prog w = .ok (x == y) w := fun x y => run_equalIn_int w 9998 3 _ _ _ _ u3
  have q2 : ∀ x y : Bool, (Op.equalIn 9999 4 (.bool x) (.bool y)).run Try.prog w = .ok (x == y) w := fun x y => run_equalIn_bool w 9998 4 _ _ u4
  by_cases h1 : a1 = b1 <;> by_cases h2 : a2 = b2 <;> by_cases h3 : a3 = b3 <;> by_cases h4 : a4 = b4 <;> simp [Op.eqFields, p1, p2, p3, q1, q2, eq_span', h1, h2, h3, h4, Sem.run_bind, Sem.run_pure]
theorem rin_any (s : Sp) (a b : Int) (w : World) : Calls Try.prog 46 #[spv s, I a, I b] w (Pure w (.bool (decide (okS s a b)))) := by
  refine vc46 _ _ _ _ w _ fun m1 h1 => ⟨fun h => ⟨fun h2 w1 hb1 _ => ⟨?_, hb1⟩, fun h2 w2 hb2 _ => ⟨?_, hb2⟩⟩, fun h w3 hb3 _ => ⟨?_, hb3⟩⟩
  · congr 2
    rw [Bool.eq_iff_iff, decide_eq_true_iff, decide_eq_true_iff]
    exact ⟨fun g => ⟨h, h2, g⟩, fun g => g.2.2⟩
  · rw [decide_eq_false fun g => by omega]
  · rw [decide_eq_false fun g => by omega]

theorem rlength_any (c : Clk) {a : Option Addr} {n : Nat} {w : World} (hc : Cells w a (rods c.rods)) (hl : c.rods.length ≤ 1000) (hr : ∀ r ∈ c.rods, 1 ≤ r.len ∧ r.len ≤ 100000) : Calls Try.prog 21 #[c.v a n] w (Pure w (I (lenC c.rods))) := by
  refine vc21 _ _ _ _ _ _ _ _ _ w _ fun m1 h1 => ?_
  refine ⟨fun ls _ => match ls with | [.int _ s, .int _ i] => 0 ≤ i ∧ i ≤ c.rods.length ∧ s = lenC (c.rods.take i.toNat) | _ => False, fun ls => match ls with | [_, .int _ i] => (c.rods.length - i).toNat | _ => 0, fun w2 hb _ => ⟨by omega, by omega, rfl⟩, ?_⟩
  rintro s i w3 hb3 ⟨h0, hn, rfl⟩
  refine ⟨fun hi => ?_, fun hi w7 hb7 _ => ⟨by rw [List.take_of_length_le (by omega)], hb7⟩⟩
  have hix : i.toNat < c.rods.length := by omega
  obtain ⟨b, o, rfl, hlt, c1, c2, c3, c4⟩ := rods_at hc (getElem_of_lt hix)
  have hs := len_bound (l := c.rods.take i.toNat) fun r hr' => hr r (List.mem_of_mem_take hr')
  rw [List.length_take] at hs
  have hx := hr _ (List.getElem_mem hix)
  have hst := len_take c.rods hix
  refine ⟨b, o, rfl, ⟨h0, hi⟩, _, cell_at' (cell_keep hb3 c4) (by omega), .inl hlt, fun ht => ?_, fun ht => ?_⟩
  · refine ⟨b, o, rfl, ⟨h0, hi⟩, _, cell_at' (cell_keep hb3 c1) (by omega), .inl hlt, by omega, by omega, fun w4 hb4 _ => ⟨⟨by omega, by omega, ?_⟩, ?_⟩⟩
    · rw [show (i + 1).toNat = i.toNat + 1 by omega, hst]; unfold sgn; rw [if_pos ht]; omega
    · show ((c.rods.length : Int) - (i + 1)).toNat < ((c.rods.length : Int) - i).toNat
      omega
  · refine ⟨b, o, rfl, ⟨h0, hi⟩, _, cell_at' (cell_keep hb3 c1) (by omega), .inl hlt, by omega, by omega, fun w4 hb4 _ => ⟨⟨by omega, by omega, ?_⟩, ?_⟩⟩
    · rw [show (i + 1).toNat = i.toNat + 1 by omega, hst]; unfold sgn; rw [if_neg (by rw [ht]; decide)]; omega
    · show ((c.rods.length : Int) - (i + 1)).toNat < ((c.rods.length : Int) - i).toNat
      omega

/-- S in a truth. -/
def sumT (l : List Rod) (g : List Int) : Nat → Int
  | 0 => 0
  | n + 1 => sumT l g n + (match l[n]?, g[n]? with | some r, some x => sgn r * (r.len * x) | _, _ => 0)
theorem sumT_bd {l : List Rod} {g : List Int} (hg : ∀ x ∈ g, -40000 ≤ x ∧ x ≤ 40000) (hr : ∀ r ∈ l, 1 ≤ r.len ∧ r.len ≤ 100000) : ∀ n : Nat, -((n : Int) * 4000000000) ≤ sumT l g n ∧ sumT l g n ≤ (n : Int) * 4000000000
  | 0 => by show _ ≤ (0 : Int) ∧ (0 : Int) ≤ _; omega
  | n + 1 => by
    have h1 := sumT_bd hg hr n
    unfold sumT
    cases h2 : l[n]? with
    | none => dsimp only; omega
    | some r =>
      cases h3 : g[n]? with
      | none => dsimp only; omega
      | some x =>
        dsimp only
        have := hr r (List.mem_of_getElem? h2)
        have := mul_bd (a := r.len) (b := x) (A := 100000) (B := 40000) (by omega) (hg x (List.mem_of_getElem? h3))
        have := sgn_mul r (A := 100000 * 40000) this
        omega
theorem rsum_any (c : Clk) {a ga : Option Addr} {n gc : Nat} {g : List Int} {w : World} (hc : Cells w a (rods c.rods)) (hg : Cells w ga (ints g)) (hgl : g.length = c.rods.length) (hl : c.rods.length ≤ 1000) (hr : ∀ r ∈ c.rods, 1 ≤ r.len ∧ r.len ≤ 100000) (hgb : ∀ x ∈ g, -40000 ≤ x ∧ x ≤ 40000) : Calls Try.prog 54 #[c.v a n, .slice ga g.length gc] w (Pure w (I (sumT c.rods g c.rods.length))) := by
  refine vc54 _ _ _ _ _ _ _ _ _ _ _ _ w _ fun m1 h1 => ?_
  refine ⟨fun ls _ => match ls with | [.int _ s, .int _ i] => 0 ≤ i ∧ i ≤ c.rods.length ∧ s = sumT c.rods g i.toNat | _ => False, fun ls => match ls with | [_, .int _ i] => (c.rods.length - i).toNat | _ => 0, fun w2 hb _ => ⟨by omega, by omega, rfl⟩, ?_⟩
  rintro s i w3 hb3 ⟨h0, hn, rfl⟩
  refine ⟨fun hi => ?_, fun hi w7 hb7 _ => ⟨by rw [show i.toNat = c.rods.length by omega], hb7⟩⟩
  have hix : i.toNat < c.rods.length := by omega
  have hig : i.toNat < g.length := by omega
  obtain ⟨b, o, rfl, hlt, c1, c2, c3, c4⟩ := rods_at hc (getElem_of_lt hix)
  obtain ⟨b2, o2, rfl, d1⟩ := hg i.toNat _ (ints_get (getElem_of_lt hig))
  have hs := sumT_bd hgb hr i.toNat
  have hx := hr _ (List.getElem_mem hix)
  have hy := hgb _ (List.getElem_mem hig)
  have hm := mul_bd (a := c.rods[i.toNat].len) (b := g[i.toNat]) (A := 100000) (B := 40000) (by omega) hy
  have hst : sumT c.rods g (i + 1).toNat = sumT c.rods g i.toNat + sgn c.rods[i.toNat] * (c.rods[i.toNat].len * g[i.toNat]) := by
    rw [show (i + 1).toNat = i.toNat + 1 by omega]
    conv => lhs; unfold sumT
    rw [getElem_of_lt hix, getElem_of_lt hig]
  refine ⟨b, o, rfl, ⟨h0, hi⟩, _, cell_at' (cell_keep hb3 c4) (by omega), .inl hlt, fun ht => ?_, fun ht => ?_⟩
  · refine ⟨b, o, rfl, ⟨h0, hi⟩, _, cell_at' (cell_keep hb3 c1) (by omega), .inl hlt, b2, o2, rfl, ⟨h0, by omega⟩, _, cell_at' (cell_keep hb3 d1) (by omega), .inl (cell_lt d1), by omega, by omega, by omega, fun w4 hb4 _ => ⟨⟨by omega, by omega, ?_⟩, ?_⟩⟩
    · rw [hst]; unfold sgn; rw [if_pos ht]; omega
    · show ((c.rods.length : Int) - (i + 1)).toNat < ((c.rods.length : Int) - i).toNat
      omega
  · refine ⟨b, o, rfl, ⟨h0, hi⟩, _, cell_at' (cell_keep hb3 c1) (by omega), .inl hlt, b2, o2, rfl, ⟨h0, by omega⟩, _, cell_at' (cell_keep hb3 d1) (by omega), .inl (cell_lt d1), by omega, by omega, by omega, fun w4 hb4 _ => ⟨⟨by omega, by omega, ?_⟩, ?_⟩⟩
    · rw [hst]; unfold sgn; rw [if_neg (by rw [ht]; decide)]; omega
    · show ((c.rods.length : Int) - (i + 1)).toNat < ((c.rods.length : Int) - i).toNat
      omega
end Go.Proofs.R03
end
section
/- The reference's Parts, Check, Of; same, copied. -/
namespace Go.Proofs.R03
open Go.Vc Go.RowKit Go.Proofs

/-- The rate in a truth, in parts. -/
def partsR (c : Clk) (t : Tr) : Int := 10000 * lenC c.rods * (c.base + t.air * t.press + t.drive * t.force) - 432 * sumT c.rods t.grow c.rods.length * t.heat - 4570 * lenC c.rods * t.arc * t.arc
theorem point_by (a b : Int) : byS (a, a) (b, b) = (a * b, a * b) := by unfold byS; simp
theorem point_plus (a b : Int) : plusS (a, a) (b, b) = (a + b, a + b) := rfl
theorem point_less (a b : Int) : lessS (a, a) (b, b) = (a - b, a - b) := by
  unfold lessS; rw [point_by, point_plus]
  rw [show a + b * -1 = a - b by omega]
set_option maxHeartbeats 1000000 in
theorem rcheck_any (c : Clk) {ra : Option Addr} {rc : Nat} {w : World} (hc : Cells w ra (rods c.rods)) : Calls Try.prog 15 #[c.v ra rc] w (Pure w (I (check c))) := by
  refine vc15 _ _ _ _ _ _ _ _ _ w _ fun m1 h1 => ⟨fun h w1 hb1 _ => ⟨by unfold check; rw [if_pos (by omega)], hb1⟩, fun h8 => ?_⟩
  have bad : ¬OkC c → check c = 2 := fun h => by unfold check; rw [if_neg (by omega), if_neg h]
  refine ⟨fun ls _ => match ls with | [.int _ _, .int _ i] => 0 ≤ i ∧ i ≤ c.rods.length ∧ ∀ j : Nat, j < i.toNat → ∀ r, c.rods[j]? = some r → okRod r | _ => False, fun ls => match ls with | [_, .int _ i] => (c.rods.length - i).toNat | _ => 0, fun w2 hb _ => ⟨by omega, by omega, fun j hj => by omega⟩, ?_⟩
  rintro x1 i w4 hb4 ⟨i0, il, hok⟩
  refine ⟨fun hi => ?_, fun hi => ?_⟩
  · have hix : i.toNat < c.rods.length := by omega
    obtain ⟨b, o, rfl, hlt, c1, c2, c3, c4⟩ := rods_at hc (getElem_of_lt hix)
    have nok : ¬okRod c.rods[i.toNat] → check c = 2 := fun h => bad fun g => h (g.2.1 _ (List.getElem_mem hix))
    refine ⟨b, o, rfl, ⟨i0, hi⟩, _, cell_at' (cell_keep hb4 c1) (by omega), .inl hlt, fun h w5 hb5 _ => ⟨by rw [nok fun g => by have := g.1; omega], hb5⟩, fun hl => ⟨b, o, rfl, ⟨i0, hi⟩, _, cell_at' (cell_keep hb4 c1) (by omega), .inl hlt, fun h w6 hb6 _ => ⟨by rw [nok fun g => by have := g.1; omega], hb6⟩, fun hu => ⟨b, o, rfl, ⟨i0, hi⟩, _, _, cell_at' (cell_keep hb4 c2) (by omega), cell_at' (cell_keep hb4 c3) (by omega), .inl hlt, fun w7 hb7 _ => ?_⟩⟩⟩
    refine Pure.calls (rin_any (c.rods[i.toNat].lo, c.rods[i.toNat].hi) 0 40000 w7) fun w8 hb8 => ⟨_, rfl, .all hb8, fun hf w9 hb9 _ => ⟨by rw [nok fun g => by have := g.2; simp at hf; omega], hb9⟩, fun ht => ⟨by omega, fun w10 hb10 _ => ⟨⟨by omega, by omega, ?_⟩, ?_⟩⟩⟩
    · intro j hj r hr
      by_cases e : j < i.toNat
      · exact hok j e r hr
      · have : j = i.toNat := by omega
        subst this
        rw [getElem_of_lt hix] at hr
        cases hr
        exact ⟨⟨hl, hu⟩, by simpa using ht⟩
    · show ((c.rods.length : Int) - (i + 1)).toNat < ((c.rods.length : Int) - i).toNat
      omega
  · have hall : ∀ r ∈ c.rods, okRod r := fun r hr => by
      obtain ⟨j, hj, rfl⟩ := List.mem_iff_getElem.1 hr
      exact hok j (by omega) _ (getElem_of_lt hj)
    have hlens : ∀ r ∈ c.rods, 1 ≤ r.len ∧ r.len ≤ 100000 := fun r hr => (hall r hr).1
    refine ⟨fun h0 w11 hb11 _ => ⟨by rw [bad fun g => g.1 (List.length_eq_zero_iff.1 (by omega))], hb11⟩, fun h0 => ⟨fun h w12 hb12 _ => ⟨by rw [bad fun g => by have := g.2.2.2.1; omega], hb12⟩, fun hb1' => ⟨fun h w13 hb13 _ => ⟨by rw [bad fun g => by have := g.2.2.2.1; omega], hb13⟩, fun hb2' w14 hb14 _ => ?_⟩⟩⟩
    refine Pure.calls (rin_any c.air (-100) 100 w14) fun w15 hb15 => ⟨_, rfl, .all hb15, fun hf w16 hb16 _ => ⟨by rw [bad fun g => by have := g.2.2.2.2.1; simp at hf; omega], hb16⟩, fun ha w17 hb17 _ => ?_⟩
    have ha' : okS c.air (-100) 100 := by simpa using ha
    refine Pure.calls (rin_any c.drive (-1000) 1000 w17) fun w18 hb18 => ⟨_, rfl, .all hb18, fun hf w19 hb19 _ => ⟨by rw [bad fun g => by have := g.2.2.2.2.2; simp at hf; unfold driveOk at this; omega], hb19⟩, fun hd w20 hb20 _ => ?_⟩
    have hd' : okS c.drive (-1000) 1000 := by simpa using hd
    refine Pure.calls (rlength_any c (hc.keep hb20) (by omega) hlens) fun w21 hb21 => ⟨_, rfl, .all hb21, fun h w22 hb22 _ => ⟨by rw [bad fun g => by have := g.2.2.1; omega], hb22⟩, fun hl w23 hb23 _ => ?_⟩
    refine Pure.calls (rlength_any c (hc.keep hb23) (by omega) hlens) fun w24 hb24 => ⟨_, rfl, .all hb24, fun h w25 hb25 _ => ⟨by rw [bad fun g => by have := g.2.2.1; omega], hb25⟩, fun hu => ?_⟩
    have good : driveOk c.kind c.drive → check c = 0 := fun h => by
      unfold check; rw [if_neg (by omega), if_pos ⟨fun e => h0 (by rw [e]; rfl), hall, ⟨hl, hu⟩, ⟨hb1', hb2'⟩, ha', h⟩]
    have ndr : ¬driveOk c.kind c.drive → check c = 2 := fun h => bad fun g => h g.2.2.2.2.2
    refine ⟨fun h w26 hb26 _ => ⟨by rw [ndr fun g => by unfold driveOk at g; omega], hb26⟩, fun k1 => ⟨fun h w27 hb27 _ => ⟨by rw [ndr fun g => by unfold driveOk at g; omega], hb27⟩, fun k3 => ⟨fun k2 => ⟨fun h w28 hb28 _ => ⟨by rw [ndr fun g => by unfold driveOk at g; omega], hb28⟩, fun hz => ⟨fun h3 => by omega, fun h3 w33 hb33 _ => ⟨by rw [good (by unfold driveOk; omega)], hb33⟩⟩⟩, fun k2 => ⟨fun h3 w34 hb34 _ => ?_, fun h3 w38 hb38 _ => ⟨by rw [good (by unfold driveOk; omega)], hb38⟩⟩⟩⟩⟩
    refine neq_span ⟨_, rfl, .all (.refl _ _), fun hf w36 hb36 _ => ⟨by rw [ndr (by simp at hf; intro g; unfold driveOk at g; omega)], hb36⟩, fun hf w37 hb37 _ => ⟨by rw [good (by simp at hf; unfold driveOk; omega)], hb37⟩⟩

theorem copied_any (c : Clk) {a : Option Addr} {n : Nat} {w : World} (hc : Cells w a (rods c.rods)) (hn : c.rods.length ≤ 100000) : Calls Try.prog 13 #[c.v a n] w fun e w' => ∃ a' n', e = .returned (c.v a' n') ∧ Below w.heap.size w w' ∧ RowZ 80 4 w.heap.size [] a' c.rods.length n' (rods c.rods) w' := by
  refine vc13 _ _ _ _ _ _ _ _ _ w _ fun m1 h1 m2 h2 m3 h3 w1 hb1 hk1 hc1 => ?_
  have own1 := hk1.own
  refine append_copy (P := Try.prog) (e := 80) (size := 4) (bytes := 32) (by kernel_rfl) (by omega) (hc.keep hb1) (rods_len c.rods) (by omega) (by omega) (fun a' c' w2 hb2 hcells hnew hpl hrow => ⟨a', _, c', rfl, .all hb2, fun w3 hb3 hk3 => ⟨a', c', rfl, hb3, ?_⟩⟩)
  rcases hrow with h0 | R
  · left; exact ⟨h0, List.length_eq_zero_iff.1 (by rw [rods_len]; omega)⟩
  · right
    exact (R.of (w' := w3) fun b o e => hk3.block b (R.lt b o e).2 fun hm => by have := own1 b hm; have := (R.lt b o e).1; omega).base hb1.size

end Go.Proofs.R03
end
section
/- The reference's Of; examples. -/
namespace Go.Proofs.R03
open Go.Vc Go.RowKit Go.Proofs

/-- The documents' clocks. -/
def steelC : Clk := ⟨2, 0, [⟨9940, 1100, 1200, false⟩], (-5, -3), (0, 20)⟩
def zincC : Clk := ⟨2, 0, [⟨13940, 1100, 1200, false⟩, ⟨4000, 2900, 3100, true⟩], (-5, -3), (0, 20)⟩
def warmB : Bn := ⟨(-100, 100), (0, 0), (0, 0), (0, 0)⟩
theorem steel_any (w : World) : Calls Try.prog 39 #[] w fun e w' => ∃ b, e = .returned (steelC.v (some ⟨b, 0, none⟩) 1) ∧ Below w.heap.size w w' ∧ w.heap.size ≤ b ∧ Cells w' (some ⟨b, 0, none⟩) (rods steelC.rods) :=
  vc39 w _ fun m1 h1 m2 h2 w1 hb1 hk1 hc1 => ⟨m2, rfl, hb1, h2, Cells.obj hc1⟩
theorem zinc_any (w : World) : Calls Try.prog 41 #[] w fun e w' => ∃ b, e = .returned (zincC.v (some ⟨b, 0, none⟩) 2) ∧ Below w.heap.size w w' ∧ w.heap.size ≤ b ∧ Cells w' (some ⟨b, 0, none⟩) (rods zincC.rods) := by
  refine vc41 w _ fun m1 h1 w1 hb1 hk1 => (steel_any w1).mono fun e w2 he => ?_
  obtain ⟨b, rfl, hb2, _, _⟩ := he
  refine ⟨_, _, _, _, _, _, _, _, _, rfl, .all hb2, fun m5 h5 m6 h6 w3 hb3 hk3 hc3 => ⟨m6, rfl, hb3, ?_, Cells.obj hc3⟩⟩
  have := hb1.size; have := hb2.size; omega
theorem warm_any (w : World) : Calls Try.prog 40 #[] w (Pure w warmB.v) := vc40 w _ fun m1 h1 w1 hb1 _ => ⟨rfl, hb1⟩

def exT : Tr := ⟨[1150], -4, 0, 100, 0, 0, 0⟩
theorem ex_exact : exactR steelC exT = ((-4968, 1), 0) := by decide +kernel
theorem ex_rate : rateR steelC warmB = ((-5184, 5184), 0) := by decide +kernel
theorem ex_arc : rateR steelC ⟨(0, 0), (0, 0), (100, 110), (0, 0)⟩ = ((-5530, -4570), 0) := by decide +kernel
theorem ex_change : changeR steelC zeroB ⟨(0, 0), (10, 10), (0, 0), (0, 0)⟩ = ((-50, -30), 0) := by decide +kernel
theorem ex_ends : (endsR steelC warmB).2.2 = 0 ∧ (endsR steelC warmB).1.grow = [1200] ∧ (endsR steelC warmB).1.heat = 100 ∧ (endsR steelC warmB).1.air = -5 ∧ (endsR steelC warmB).2.1.grow = [1200] ∧ (endsR steelC warmB).2.1.heat = -100 ∧ (endsR steelC warmB).2.1.drive = 0 := by decide +kernel
end Go.Proofs.R03
end
section
/- The plain law of Balance: the effect is convex in the length. -/
namespace Go.Proofs.R03
open Go.Vc Go.RowKit Go.Proofs

def loC (r : Rod) : Int := if r.up then -(r.len * r.hi) else r.len * r.lo
def hiC (r : Rod) : Int := if r.up then -(r.len * r.lo) else r.len * r.hi
def sumF (f : Rod → Int) (l : List Rod) : Int := (l.map f).sum
theorem sumF_cons (f : Rod → Int) (r : Rod) (l : List Rod) : sumF f (r :: l) = f r + sumF f l := by simp [sumF]
theorem sumF_set {f : Rod → Int} {l : List Rod} {i : Nat} {r s : Rod} (h : l[i]? = some r) : sumF f (l.set i s) = sumF f l + (f s - f r) := by
  induction l generalizing i with
  | nil => simp at h
  | cons a l ih =>
    cases i with
    | zero => simp at h; subst h; rw [List.set_cons_zero, sumF_cons, sumF_cons]; omega
    | succ i => rw [List.set_cons_succ, sumF_cons, sumF_cons, ih (by simpa using h)]; omega
theorem sumF_take (f : Rod → Int) (l : List Rod) {i : Nat} (h : i < l.length) : sumF f (l.take (i + 1)) = sumF f (l.take i) + f l[i] := by
  unfold sumF
  rw [List.take_add_one, getElem_of_lt h]
  simp only [Option.toList_some, List.map_append, List.map_cons, List.map_nil, List.sum_append, List.sum_cons, List.sum_nil, Int.add_zero]
theorem by_rod {r : Rod} (h : r.lo ≤ r.hi) (h0 : 0 ≤ r.len) : byS (r.lo, r.hi) (sgn r * r.len, sgn r * r.len) = (loC r, hiC r) := by
  have h1 := Int.mul_le_mul_of_nonneg_right h h0
  unfold byS loC hiC sgn
  rw [Int.mul_comm r.len r.hi, Int.mul_comm r.len r.lo]
  split
  · have e1 : r.lo * (-1 * r.len) = -(r.lo * r.len) := by rw [Int.mul_comm (-1), ← Int.mul_assoc]; omega
    have e2 : r.hi * (-1 * r.len) = -(r.hi * r.len) := by rw [Int.mul_comm (-1), ← Int.mul_assoc]; omega
    simp only [e1, e2]
    exact Prod.ext (by simp only; omega) (by simp only; omega)
  · rw [Int.one_mul]
    exact Prod.ext (by simp only; omega) (by simp only; omega)
theorem sumN_sums {l : List Rod} (h : ∀ r ∈ l, r.lo ≤ r.hi ∧ 0 ≤ r.len) : ∀ n, n ≤ l.length → sumN l (l.map fun r => (r.lo, r.hi)) n = (sumF loC (l.take n), sumF hiC (l.take n))
  | 0, _ => by simp [sumN, sumF]
  | n + 1, hn => by
    have hlt : n < l.length := hn
    unfold sumN
    rw [sumN_sums h n (by omega), List.getElem?_map, getElem_of_lt hlt]
    dsimp only [Option.map_some]
    have := h _ (List.getElem_mem hlt)
    rw [by_rod this.1 this.2, sumF_take _ _ hlt, sumF_take _ _ hlt]
    rfl
theorem sumK_new {c : Clk} {b : Bn} (h : ∀ r ∈ c.rods, r.lo ≤ r.hi ∧ 0 ≤ r.len) : sumK (newK c b) = (sumF loC c.rods, sumF hiC c.rods) := by
  have := sumN_sums h c.rods.length (Nat.le_refl _)
  rw [List.take_length] at this
  exact this
def effL (l : List Rod) : Int := max (sumF hiC l) (0 - sumF loC l)
theorem cut_spans {c : Clk} (hc : check c = 0) {i : Nat} (hi : i < c.rods.length) {n : Int} (hn : 0 ≤ n) : ∀ r ∈ cutL c i n, r.lo ≤ r.hi ∧ 0 ≤ r.len := fun r hr => by
  have h := (check_len hc).2.2.1
  rcases List.mem_or_eq_of_mem_set hr with hm | rfl
  · have := h r hm; exact ⟨this.2.2.1, by have := this.1; omega⟩
  · exact ⟨(h _ (List.mem_of_getElem? (rodAt_get hi))).2.2.1, hn⟩
theorem effC_L {c : Clk} (hc : check c = 0) {i : Nat} (hi : i < c.rods.length) {n : Int} (hn : 0 ≤ n) : effC c i n = effL (cutL c i n) := by
  unfold effC effK effL
  rw [sumK_new (c := cutC c i n) (cut_spans hc hi hn)]
  rfl
/-- The effect is the greater one of two lines. -/
theorem eff_lines {c : Clk} (hc : check c = 0) {i : Nat} (hi : i < c.rods.length) : ∃ a p b q : Int, ∀ n, 0 ≤ n → effC c i n = max (a + n * p) (b + n * q) := by
  refine ⟨sumF hiC c.rods - hiC (rodAt c i), (if (rodAt c i).up then -(rodAt c i).lo else (rodAt c i).hi), -(sumF loC c.rods - loC (rodAt c i)), (if (rodAt c i).up then (rodAt c i).hi else -(rodAt c i).lo), fun n hn => ?_⟩
  rw [effC_L hc hi hn]
  unfold effL cutL
  rw [sumF_set (rodAt_get hi), sumF_set (rodAt_get hi)]
  have h1 : hiC ⟨n, (rodAt c i).lo, (rodAt c i).hi, (rodAt c i).up⟩ = n * (if (rodAt c i).up then -(rodAt c i).lo else (rodAt c i).hi) := by
    unfold hiC; dsimp only; split
    · rw [Int.mul_neg]
    · rfl
  have h2 : loC ⟨n, (rodAt c i).lo, (rodAt c i).hi, (rodAt c i).up⟩ = -(n * (if (rodAt c i).up then (rodAt c i).hi else -(rodAt c i).lo)) := by
    unfold loC; dsimp only; split
    · rfl
    · rw [Int.mul_neg, Int.neg_neg]
  rw [h1, h2]
  omega
theorem lines_up {a p b q : Int} {n : Int} (h : max (a + n * p) (b + n * q) ≤ max (a + (n + 1) * p) (b + (n + 1) * q)) : ∀ k : Nat, max (a + n * p) (b + n * q) ≤ max (a + (n + k) * p) (b + (n + k) * q) ∧ max (a + (n + k) * p) (b + (n + k) * q) ≤ max (a + (n + k + 1) * p) (b + (n + k + 1) * q)
  | 0 => by simpa using h
  | k + 1 => by
    obtain ⟨h1, h2⟩ := lines_up h k
    have e1 : n + ((k + 1 : Nat) : Int) = n + k + 1 := by omega
    rw [e1]
    generalize hm : n + (k : Int) = m at *
    have e2 : (m + 1) * p = m * p + p := by rw [Int.add_mul, Int.one_mul]
    have e3 : (m + 1) * q = m * q + q := by rw [Int.add_mul, Int.one_mul]
    have e4 : (m + 1 + 1) * p = m * p + p + p := by rw [Int.add_mul, Int.one_mul, e2]
    have e5 : (m + 1 + 1) * q = m * q + q + q := by rw [Int.add_mul, Int.one_mul, e3]
    rw [e2, e3] at h2 ⊢
    rw [e4, e5]
    exact ⟨by omega, by omega⟩
theorem lines_down {a p b q : Int} {n : Int} (h : max (a + n * p) (b + n * q) < max (a + (n - 1) * p) (b + (n - 1) * q)) : ∀ k : Nat, max (a + (n - k) * p) (b + (n - k) * q) < max (a + (n - k - 1) * p) (b + (n - k - 1) * q) ∧ max (a + n * p) (b + n * q) < max (a + (n - k - 1) * p) (b + (n - k - 1) * q)
  | 0 => by simpa using h
  | k + 1 => by
    obtain ⟨h1, h2⟩ := lines_down h k
    have e1 : n - ((k + 1 : Nat) : Int) = n - k - 1 := by omega
    rw [e1]
    generalize hm : n - (k : Int) = m at *
    have e2 : (m - 1) * p = m * p - p := by rw [Int.sub_mul, Int.one_mul]
    have e3 : (m - 1) * q = m * q - q := by rw [Int.sub_mul, Int.one_mul]
    have e4 : (m - 1 - 1) * p = m * p - p - p := by rw [Int.sub_mul, Int.one_mul, e2]
    have e5 : (m - 1 - 1) * q = m * q - q - q := by rw [Int.sub_mul, Int.one_mul, e3]
    rw [e2, e3] at h1 h2 ⊢
    rw [e4, e5]
    exact ⟨by omega, by omega⟩

/-- The first one of the least. -/
theorem bal_first {c : Clk} (hc : check c = 0) {i : Nat} (hi : i < c.rods.length) {n : Int} (h : BalS c i n) {m : Int} (hm : 1 ≤ m ∧ m ≤ 100000) (hv : LenOk (cutL c i m)) : (m < n → effC c i n < effC c i m) ∧ (n < m → effC c i n ≤ effC c i m) := by
  obtain ⟨a, p, b, q, hf⟩ := eff_lines hc hi
  have bd := h.bd
  constructor
  · intro hlt
    have hd : effC c i n < effC c i (n - 1) := by
      rcases h.down with e | e | e
      · omega
      · exact absurd (cut_between hi hv h.ok (by omega) (by omega)) e
      · exact e
    rw [hf n (by omega), hf (n - 1) (by omega)] at hd
    have := (lines_down hd (n - m - 1).toNat).2
    rw [show n - ((n - m - 1).toNat : Int) - 1 = m by omega] at this
    rw [hf n (by omega), hf m (by omega)]
    exact this
  · intro hlt
    have hu : effC c i n ≤ effC c i (n + 1) := by
      rcases h.up with e | e | e
      · omega
      · exact absurd (cut_between hi h.ok hv (by omega) (by omega)) e
      · exact e
    rw [hf n (by omega), hf (n + 1) (by omega)] at hu
    have := (lines_up hu (m - n).toNat).1
    rw [show n + ((m - n).toNat : Int) = m by omega] at this
    rw [hf n (by omega), hf m (by omega)]
    exact this
theorem bal_one {c : Clk} (hc : check c = 0) {i : Nat} (hi : i < c.rods.length) {n m : Int} (h : BalS c i n) (k : BalS c i m) : n = m := by
  have h1 := bal_first hc hi h k.bd k.ok
  have h2 := bal_first hc hi k h.bd h.ok
  by_cases e : n = m
  · exact e
  · exfalso; omega
theorem ex_bal : BalS zincC 1 5344 := by
  refine ⟨by decide, by decide +kernel, .inr (.inr (by decide +kernel)), .inr (.inr (by decide +kernel))⟩
theorem ex_balance {n worst err : Int} (h : BalOk zincC 1 n worst err) : n = 5344 ∧ worst = 1232400 ∧ err = 0 := by
  have hc : check zincC = 0 := by decide +kernel
  unfold BalOk at h
  rw [if_neg (by simp [hc]), if_pos (by decide)] at h
  obtain ⟨h1, h2, h3⟩ := h
  have hn : n = 5344 := bal_one hc (by decide) h1 ex_bal
  subst hn
  exact ⟨rfl, h2.trans (by decide +kernel), h3⟩
end Go.Proofs.R03
end
section
/- The documents' examples, called. -/
namespace Go.Proofs.R03
open Go.Vc Go.RowKit Go.Proofs

set_option maxRecDepth 100000 in
set_option maxHeartbeats 4000000 in
theorem known_any (w : World) : Calls Try.prog 12 #[] w (Pure w (.bool true)) := by
  refine vc12 w _ fun w1 B1 k1 => ?_
  refine (steel_any w1).mono fun e w2 he => ?_
  obtain ⟨b1, rfl, b2, n1, A2⟩ := he
  refine ⟨_, _, _, _, _, _, _, _, _, rfl, .all b2, fun m4 h4 w3 B3 k3 hc3 => ?_⟩
  have A3 : Cells w3 (some ⟨b1, 0, none⟩) (rods steelC.rods) := fun i v hv => by
    obtain ⟨b', o, e, hcell⟩ := A2 i v hv
    exact ⟨b', o, e, Go.Vc.cell_kept k3 (fun hm => by have := cell_lt hcell; simp at hm; omega) hcell⟩
  refine Pure.calls (exact_any steelC exT A3 (Cells.obj (vs := [I 1150]) hc3)) fun w4 b4 => ?_
  rw [ex_exact]
  refine ⟨_, _, _, rfl, .all b4, fun m7 h7 w5 B5 k5 => ?_⟩
  refine (steel_any w5).mono fun e w6 he => ?_
  obtain ⟨c1, rfl, b6, n6, A6⟩ := he
  refine ⟨_, _, _, _, _, _, _, _, _, rfl, .all b6, fun w7 B7 k7 => ?_⟩
  have o5 := k5.own
  have A7 : Cells w7 (some ⟨c1, 0, none⟩) (rods steelC.rods) := fun i v hv => by
    obtain ⟨b', o, e, hcell⟩ := A6 i v hv
    exact ⟨b', o, e, Go.Vc.cell_kept k7 (fun hm => by have := o5 _ hm; cases e; omega) hcell⟩
  refine Pure.calls (warm_any w7) fun w8 b8 => ⟨_, _, _, _, _, _, _, _, rfl, .all b8, fun w9 B9 k9 => ?_⟩
  have A9 : Cells w9 (some ⟨c1, 0, none⟩) (rods steelC.rods) := fun i v hv => by
    obtain ⟨b', o, e, hcell⟩ := (A7.keep b8) i v hv
    exact ⟨b', o, e, Go.Vc.cell_kept k9 (fun hm => by have := o5 _ hm; cases e; omega) hcell⟩
  refine Pure.calls (rateOf_any steelC warmB A9) fun w10 b10 => ?_
  rw [ex_rate]
  refine ⟨_, _, _, rfl, .all b10, fun m13 h13 w11 B11 k11 => ?_⟩
  refine (steel_any w11).mono fun e w12 he => ?_
  obtain ⟨c2, rfl, b12, n12, A12⟩ := he
  refine ⟨_, _, _, _, _, _, _, _, _, rfl, .all b12, fun w13 B13 k13 => ?_⟩
  have o11 := k11.own
  have A13 : Cells w13 (some ⟨c2, 0, none⟩) (rods steelC.rods) := fun i v hv => by
    obtain ⟨b', o, e, hcell⟩ := A12 i v hv
    exact ⟨b', o, e, Go.Vc.cell_kept k13 (fun hm => by have := o11 _ hm; cases e; omega) hcell⟩
  refine Pure.calls (warm_any w13) fun w14 b14 => ⟨_, _, _, _, _, _, _, _, rfl, .all b14, fun w15 B15 k15 => ?_⟩
  have A15 : Cells w15 (some ⟨c2, 0, none⟩) (rods steelC.rods) := fun i v hv => by
    obtain ⟨b', o, e, hcell⟩ := (A13.keep b14) i v hv
    exact ⟨b', o, e, Go.Vc.cell_kept k15 (fun hm => by have := o11 _ hm; cases e; omega) hcell⟩
  refine (ends_any steelC warmB A15).mono fun e w16 he => ?_
  obtain ⟨a1, d1, a2, d2, rfl, b16, R1, R2⟩ := he
  obtain ⟨y1, y2, y3, y4, y5, y6, y7⟩ := ex_ends
  generalize endsR steelC warmB = r at *
  refine ⟨_, _, _, _, _, _, _, _, _, _, _, _, _, _, _, _, _, _, _, rfl, .all b16, fun m23 h23 m24 h24 w17 B17 k17 => ?_⟩
  have z2 := b2.size; have z3 := k3.size; have z4 := b4.size; have z5 := k5.size; have z6 := b6.size; have z7 := k7.size; have z8 := b8.size; have z9 := k9.size; have z10 := b10.size; have z11 := k11.size
  have z12 := b12.size; have z13 := k13.size; have z14 := b14.size; have z15 := k15.size; have z16 := b16.size; have z17 := k17.size
  have hs0 : ∀ m34 m29, w16.heap.size ≤ m34 → w16.heap.size ≤ m29 → ∀ x ∈ [m4, m34, m29, m24, m23, m13, m7], x < w15.heap.size ∨ w16.heap.size ≤ x := fun m34 m29 g1 g2 x hx => by
    have u1 := o11 m4 (by simp); have u2 := o11 m13 (by simp); have u3 := o11 m7 (by simp)
    simp at hx; omega
  have L1 := (R1.lies (lo := w15.heap.size) (hi := w16.heap.size) fun h0 b o e => R1.in h0 b o e).out (Chg.kept k17) fun x hx => hs0 m24 m24 h24 h24 x (by simp at hx ⊢; omega)
  have L2 := (R2.lies (lo := w15.heap.size) (hi := w16.heap.size) fun h0 b o e => R2.in h0 b o e).out (Chg.kept k17) fun x hx => hs0 m24 m24 h24 h24 x (by simp at hx ⊢; omega)
  rw [y2] at L1
  rw [y5] at L2
  have hl1 : r.1.grow.length = 1 := by rw [y2]; rfl
  have hl2 : r.2.1.grow.length = 1 := by rw [y5]; rfl
  have o17 := k17.own
  refine (steel_any w17).mono fun e w18 he => ?_
  obtain ⟨c3, rfl, b18, n18, A18⟩ := he
  refine ⟨_, _, _, _, _, _, _, _, _, rfl, .all b18, fun w19 B19 k19 => ?_⟩
  have A19 : Cells w19 (some ⟨c3, 0, none⟩) (rods steelC.rods) := fun i v hv => by
    obtain ⟨b', o, e, hcell⟩ := A18 i v hv
    exact ⟨b', o, e, Go.Vc.cell_kept k19 (fun hm => by have := o17 _ hm; cases e; omega) hcell⟩
  have z18 := b18.size; have z19 := k19.size
  have hs1 : ∀ x ∈ [m4, m24, m23, m13, m7], x < w15.heap.size ∨ w16.heap.size ≤ x := fun x hx => hs0 m24 m24 h24 h24 x (by simp at hx ⊢; omega)
  have L1 := (L1.below b18).out (Chg.kept k19) hs1
  have L2 := (L2.below b18).out (Chg.kept k19) hs1
  refine Pure.calls (rateOf_any steelC ⟨(0, 0), (0, 0), (100, 110), (0, 0)⟩ A19) fun w20 b20 => ?_
  rw [ex_arc]
  refine ⟨_, _, _, rfl, .all b20, fun m29 h29 w21 B21 k21 => ?_⟩
  have z20 := b20.size; have z21 := k21.size
  have hs2 : ∀ x ∈ [m4, m29, m24, m23, m13, m7], x < w15.heap.size ∨ w16.heap.size ≤ x := fun x hx => hs0 m29 m29 (by omega) (by omega) x (by simp at hx ⊢; omega)
  have L1 := (L1.below b20).out (Chg.kept k21) hs2
  have L2 := (L2.below b20).out (Chg.kept k21) hs2
  have o21 := k21.own
  refine (steel_any w21).mono fun e w22 he => ?_
  obtain ⟨c4, rfl, b22, n22, A22⟩ := he
  refine ⟨_, _, _, _, _, _, _, _, _, rfl, .all b22, fun w23 B23 k23 => ?_⟩
  have A23 : Cells w23 (some ⟨c4, 0, none⟩) (rods steelC.rods) := fun i v hv => by
    obtain ⟨b', o, e, hcell⟩ := A22 i v hv
    exact ⟨b', o, e, Go.Vc.cell_kept k23 (fun hm => by have := o21 _ hm; cases e; omega) hcell⟩
  have L1 := (L1.below b22).out (Chg.kept k23) hs2
  have L2 := (L2.below b22).out (Chg.kept k23) hs2
  have z22 := b22.size; have z23 := k23.size
  refine Pure.calls (change_any steelC zeroB ⟨(0, 0), (10, 10), (0, 0), (0, 0)⟩ A23) fun w24 b24 => ?_
  rw [ex_change]
  refine ⟨_, _, _, rfl, .all b24, fun m34 h34 w25 B25 k25 => ?_⟩
  have z24 := b24.size; have z25 := k25.size
  have hs3 := hs0 m34 m29 (by omega) (by omega)
  have L1 := (L1.below b24).out (Chg.kept k25) hs3
  have L2 := (L2.below b24).out (Chg.kept k25) hs3
  have o25 := k25.own
  refine (zinc_any w25).mono fun e w26 he => ?_
  obtain ⟨c5, rfl, b26, n26, A26⟩ := he
  refine ⟨_, _, _, _, _, _, _, _, _, rfl, .all b26, fun w27 B27 k27 => ?_⟩
  have A27 : Cells w27 (some ⟨c5, 0, none⟩) (rods zincC.rods) := fun i v hv => by
    obtain ⟨b', o, e, hcell⟩ := A26 i v hv
    exact ⟨b', o, e, Go.Vc.cell_kept k27 (fun hm => by have := o25 _ hm; cases e; omega) hcell⟩
  have L1 := (L1.below b26).out (Chg.kept k27) hs3
  have L2 := (L2.below b26).out (Chg.kept k27) hs3
  refine (balance_any zincC 1 A27).mono fun e w28 he => ?_
  obtain ⟨n, worst, err, rfl, b28, hbal⟩ := he
  obtain ⟨rfl, rfl, rfl⟩ := ex_balance hbal
  have L1 := L1.below b28
  have L2 := L2.below b28
  refine ⟨_, _, _, rfl, .all b28, fun h => absurd rfl h, fun _ => ⟨fun h => absurd rfl h, fun _ => ⟨fun h => absurd y1 h, fun _ => ⟨fun h => absurd rfl h, fun _ => ⟨fun h => absurd rfl h, fun _ => ⟨fun h => absurd rfl h, fun _ => ⟨fun h => absurd (by rw [hl1]; rfl) h, fun _ => ⟨fun h => absurd (by rw [hl2]; rfl) h, fun _ w37 B37 k37 => ?_⟩⟩⟩⟩⟩⟩⟩⟩
  have L1 := L1.out (Chg.kept k37) hs3
  have L2 := L2.out (Chg.kept k37) hs3
  refine eql_ratio ⟨_, rfl, .all (.refl _ _), fun _ w39 B39 k39 => ?_, fun h => absurd h (by decide)⟩
  have L1 := L1.out (Chg.kept k39) hs3
  have L2 := L2.out (Chg.kept k39) hs3
  refine eql_span ⟨_, rfl, .all (.refl _ _), fun _ => ?_, fun h => absurd h (by decide)⟩
  obtain ⟨q1, p1, rfl, g1, e1⟩ := L1 0 _ rfl
  obtain ⟨q2, p2, rfl, g2, e2⟩ := L2 0 _ rfl
  have g1' : q1 < w.heap.size ∨ q1 ≠ m4 ∧ q1 ≠ m34 ∧ q1 ≠ m29 ∧ q1 ≠ m24 ∧ q1 ≠ m23 ∧ q1 ≠ m13 ∧ q1 ≠ m7 := .inr (by
    have u1 := o11 m4 (by simp); have u2 := o11 m13 (by simp); have u3 := o11 m7 (by simp); omega)
  have g2' : q2 < w.heap.size ∨ q2 ≠ m4 ∧ q2 ≠ m34 ∧ q2 ≠ m29 ∧ q2 ≠ m24 ∧ q2 ≠ m23 ∧ q2 ≠ m13 ∧ q2 ≠ m7 := .inr (by
    have u1 := o11 m4 (by simp); have u2 := o11 m13 (by simp); have u3 := o11 m7 (by simp); omega)
  refine ⟨q1, p1, rfl, ⟨by omega, by rw [hl1]; decide⟩, 1200, e1, g1', fun _ => ⟨fun _ => ⟨fun _ => ⟨q2, p2, rfl, ⟨by omega, by rw [hl2]; decide⟩, 1200, e2, g2', fun _ => ⟨fun _ => ⟨fun _ w41 B41 k41 => ?_, fun h => absurd y7 h⟩, fun h => absurd y6 h⟩, fun h => absurd rfl h⟩, fun h => absurd y4 h⟩, fun h => absurd y3 h⟩, fun h => absurd rfl h⟩
  refine eql_span ⟨_, rfl, .all (.refl _ _), fun _ w43 B43 k43 => ?_, fun h => absurd h (by decide)⟩
  refine eql_span ⟨_, rfl, .all (.refl _ _), fun _ => ⟨fun _ w45 B45 k45 => ⟨rfl, B45⟩, fun h => absurd rfl h⟩, fun h => absurd h (by decide)⟩
end Go.Proofs.R03
end
section
/- The conditions of the functions, printed by program; each is what the generator reckons (kernel_rfl). -/
namespace Go.Proofs
open Go.Vc
end Go.Proofs
end
section
/- BeatExacts. -/
namespace Go.Proofs.R03
open Go.Vc Go.RowKit Go.Proofs

end Go.Proofs.R03
end
section
/- The laws' arguments, opened. -/
namespace Go.Proofs.R03
open Go.Vc Go.RowKit Go.Proofs

theorem Try.own : ownKnob Try.prog.godebug = none := by kernel_rfl
theorem Try.laidOut : laidOutB Try.prog = true := by kernel_rfl

abbrev Li : Leaf := .int .i64
abbrev Lrod : Leaf := .sl [Li, Li, Li, .bool]
theorem leaves_clk : leaves Try.prog 5 27 = some [Li, Li, Lrod, Li, Li, Li, Li] := by kernel_rfl
theorem agg_clk : isAggB Try.prog 27 = true := by kernel_rfl
def In64 (x : Int) : Prop := rng .i64 x
section
variable {w : World}
theorem take_int {ls : List Leaf} {cs : List Value} (h : LeavesAre w (Li :: ls) cs) : ∃ x r, cs = I x :: r ∧ In64 x ∧ LeavesAre w ls r := by
  obtain ⟨v, r, rfl, h1, h2⟩ := h.cons'
  obtain ⟨x, rfl, hx⟩ := h1.int'
  exact ⟨x, r, rfl, hx, h2⟩
theorem take_rods {v : Value} (h : LeafIs w Lrod v) : ∃ a c, ∃ l : List Rod, v = .slice a l.length c ∧ l.length ≤ maxLen ∧ Cells w a (rods l) := by
  obtain ⟨a, c, l, rfl, h1, h2, h3, h4⟩ := h.sl' (fun r : Rod => rodC r) (fun _ => True) fun x hx => by
    obtain ⟨x0, _, rfl, g0, hx⟩ := take_int hx
    obtain ⟨x1, _, rfl, g1, hx⟩ := take_int hx
    obtain ⟨x2, _, rfl, g2, hx⟩ := take_int hx
    obtain ⟨v, r, rfl, g3, g4⟩ := hx.cons'
    obtain ⟨b, rfl⟩ := g3.bool'
    rw [g4.nil']
    exact ⟨⟨x0, x1, x2, b⟩, rfl, trivial⟩
  exact ⟨a, c, l, rfl, Nat.le_trans h1 h2, h3⟩
variable {H : Type} {enc : TypeId × Value → H} {base b0 : Nat} {held : Bool} {spare : Nat → Bool} {reach : Reach}
set_option maxRecDepth 100000 in
theorem open_clk {v : Value} {d : DataW H} {ps : List MemPlace} (hv : Value.okWide Try.prog w reach b0 27 v) (hd : DataW.Trod enc Try.prog w base spare held 27 v d ps) :
    ∃ (c : Clk) (a : Option Addr) (n : Nat), v = c.v a n ∧ c.rods.length ≤ maxLen ∧ Cells w a (rods c.rods) := by
  obtain ⟨cs, rfl, h⟩ := open_agg agg_clk leaves_clk hv hd
  obtain ⟨x0, _, rfl, h0, h⟩ := take_int h
  obtain ⟨x1, _, rfl, h1, h⟩ := take_int h
  obtain ⟨u, r1, rfl, gu, g⟩ := h.cons'
  obtain ⟨a, n, l, rfl, hl, hr⟩ := take_rods gu
  obtain ⟨x2, _, rfl, h2, h⟩ := take_int g
  obtain ⟨x3, _, rfl, h3, h⟩ := take_int h
  obtain ⟨x4, _, rfl, h4, h⟩ := take_int h
  obtain ⟨x5, _, rfl, h5, h⟩ := take_int h
  rw [h.nil']
  exact ⟨⟨x0, x1, l, (x2, x3), (x4, x5)⟩, a, n, rfl, hl, hr⟩
end
end Go.Proofs.R03
end
section
/- Bounds, and the number of a rod, opened. -/
namespace Go.Proofs.R03
open Go.Vc Go.RowKit Go.Proofs

theorem leaves_bn : leaves Try.prog 5 45 = some [Li, Li, Li, Li, Li, Li, Li, Li] := by kernel_rfl
theorem agg_bn : isAggB Try.prog 45 = true := by kernel_rfl
section
variable {w : World} {H : Type} {enc : TypeId × Value → H} {base b0 : Nat} {held : Bool} {spare : Nat → Bool} {reach : Reach}
set_option maxRecDepth 100000 in
theorem open_bn {v : Value} {d : DataW H} {ps : List MemPlace} (hv : Value.okWide Try.prog w reach b0 45 v) (hd : DataW.Trod enc Try.prog w base spare held 45 v d ps) : ∃ b : Bn, v = b.v := by
  obtain ⟨cs, rfl, h⟩ := open_agg agg_bn leaves_bn hv hd
  obtain ⟨x0, _, rfl, h0, h⟩ := take_int h
  obtain ⟨x1, _, rfl, h1, h⟩ := take_int h
  obtain ⟨x2, _, rfl, h2, h⟩ := take_int h
  obtain ⟨x3, _, rfl, h3, h⟩ := take_int h
  obtain ⟨x4, _, rfl, h4, h⟩ := take_int h
  obtain ⟨x5, _, rfl, h5, h⟩ := take_int h
  obtain ⟨x6, _, rfl, h6, h⟩ := take_int h
  obtain ⟨x7, _, rfl, h7, h⟩ := take_int h
  rw [h.nil']
  exact ⟨⟨(x0, x1), (x2, x3), (x4, x5), (x6, x7)⟩, rfl⟩
end
end Go.Proofs.R03
end
section
/- The conditions of the functions, printed by program; each is what the generator reckons (kernel_rfl). -/
namespace Go.Proofs
open Go.Vc
set_option maxRecDepth 100000 in
set_option maxHeartbeats 2000000 in
theorem vc24 (b0 : Int) (b1 : Int) (b2 : Int) (b3 : Int) (b4 : Int) (b5 : Int) (b6 : Int) (b7 : Int) (w : World) (R : Ending → World → Prop) (h : ∀ (m1 : Nat), w.heap.size ≤ m1 → ∀
    (w1 : World), RowKit.Below w.heap.size w w1 → Kept [m1] w w1 → Calls Try.prog 46 #[Value.agg #[Value.int IntKind.i64 b0, Value.int IntKind.i64 b1], Value.int IntKind.i64
    (-1000), Value.int IntKind.i64 1000] w1 fun (e1 : Ending) (w2 : World) => ∃ (t1 : Bool), e1 = Ending.returned (Value.bool t1) ∧ KeepX true w.heap.size [m1] (fun _ => False) w1
    w2 ∧ (t1 = true → ∀ (w3 : World), RowKit.Below w.heap.size w w3 → Kept [m1] w2 w3 → Calls Try.prog 46 #[Value.agg #[Value.int IntKind.i64 b2, Value.int IntKind.i64 b3],
    Value.int IntKind.i64 (-1000), Value.int IntKind.i64 1000] w3 fun (e2 : Ending) (w4 : World) => ∃ (t2 : Bool), e2 = Ending.returned (Value.bool t2) ∧ KeepX true w.heap.size
    [m1] (fun _ => False) w3 w4 ∧ (t2 = true → ∀ (w5 : World), RowKit.Below w.heap.size w w5 → Kept [m1] w4 w5 → Calls Try.prog 46 #[Value.agg #[Value.int IntKind.i64 b4, Value.int
    IntKind.i64 b5], Value.int IntKind.i64 0, Value.int IntKind.i64 600] w5 fun (e3 : Ending) (w6 : World) => ∃ (t3 : Bool), e3 = Ending.returned (Value.bool t3) ∧ KeepX true
    w.heap.size [m1] (fun _ => False) w5 w6 ∧ (t3 = true → ∀ (w7 : World), RowKit.Below w.heap.size w w7 → Kept [m1] w6 w7 → Calls Try.prog 46 #[Value.agg #[Value.int IntKind.i64
    b6, Value.int IntKind.i64 b7], Value.int IntKind.i64 (-100), Value.int IntKind.i64 100] w7 fun (e4 : Ending) (w8 : World) => ∃ (t4 : Bool), e4 = Ending.returned (Value.bool t4)
    ∧ KeepX true w.heap.size [m1] (fun _ => False) w7 w8 ∧ ∀ (w9 : World), RowKit.Below w.heap.size w w9 → Kept [m1] w8 w9 → R (Ending.returned (Value.bool t4)) w9) ∧ (t3 = false →
    ∀ (w10 : World), RowKit.Below w.heap.size w w10 → Kept [m1] w6 w10 → R (Ending.returned (Value.bool false)) w10)) ∧ (t2 = false → ∀ (w11 : World), RowKit.Below w.heap.size w
    w11 → Kept [m1] w4 w11 → R (Ending.returned (Value.bool false)) w11)) ∧ (t1 = false → ∀ (w12 : World), RowKit.Below w.heap.size w w12 → Kept [m1] w2 w12 → R (Ending.returned
    (Value.bool false)) w12)) : Calls Try.prog 24 #[Value.agg #[Value.int IntKind.i64 b0, Value.int IntKind.i64 b1, Value.int IntKind.i64 b2, Value.int IntKind.i64 b3, Value.int
    IntKind.i64 b4, Value.int IntKind.i64 b5, Value.int IntKind.i64 b6, Value.int IntKind.i64 b7]] w R := calls_of_vc (pure := true) (wrapAt := []) (muts := []) (esc := []) (args
    := [SV.pv (PV.agg [Lf.int IntKind.i64 b0, Lf.int IntKind.i64 b1, Lf.int IntKind.i64 b2, Lf.int IntKind.i64 b3, Lf.int IntKind.i64 b4, Lf.int IntKind.i64 b5, Lf.int IntKind.i64
    b6, Lf.int IntKind.i64 b7])]) (vs := [Value.agg #[Value.int IntKind.i64 b0, Value.int IntKind.i64 b1, Value.int IntKind.i64 b2, Value.int IntKind.i64 b3, Value.int IntKind.i64
    b4, Value.int IntKind.i64 b5, Value.int IntKind.i64 b6, Value.int IntKind.i64 b7]]) Try.func24 rfl rfl rfl (Eq.mp (by kernel_rfl) h) 
set_option maxRecDepth 100000 in
set_option maxHeartbeats 2000000 in
theorem vc69 (s0 : Int) (s1 : Int) (w : World) (R : Ending → World → Prop) (h : ∀ (m1 : Nat), w.heap.size ≤ m1 → ∀ (m2 : Nat), w.heap.size ≤ m2 → ∀ (w1 : World), RowKit.Below
    w.heap.size w w1 → Kept [m2, m1] w w1 → R (Ending.returned (Value.agg #[Value.int IntKind.i64 s0, Value.int IntKind.i64 s1])) w1) : Calls Try.prog 69 #[Value.agg #[Value.int
    IntKind.i64 s0, Value.int IntKind.i64 s1]] w R := calls_of_vc (pure := true) (wrapAt := []) (muts := []) (esc := []) (args := [SV.pv (PV.agg [Lf.int IntKind.i64 s0, Lf.int
    IntKind.i64 s1])]) (vs := [Value.agg #[Value.int IntKind.i64 s0, Value.int IntKind.i64 s1]]) Try.func69 rfl rfl rfl (Eq.mp (by kernel_rfl) h) 
set_option maxRecDepth 100000 in
set_option maxHeartbeats 2000000 in
theorem vc27 (num : Int) (den : Int) (w : World) (R : Ending → World → Prop) (h : (den ≠ 0 ∧ -9223372036854775808 ≤ num.tdiv den ∧ num.tdiv den ≤ 9223372036854775807) ∧
    (-9223372036854775808 ≤ num.tdiv den * den ∧ num.tdiv den * den ≤ 9223372036854775807) ∧ (num < num.tdiv den * den → (-9223372036854775808 ≤ num.tdiv den - 1 ∧ num.tdiv den -
    (1 : Int) ≤ 9223372036854775807) ∧ ∀ (w1 : World), RowKit.Below w.heap.size w w1 → Kept [] w w1 → R (Ending.returned (Value.int IntKind.i64 (num.tdiv den - 1))) w1) ∧ (num.tdiv
    den * den ≤ num → ∀ (w2 : World), RowKit.Below w.heap.size w w2 → Kept [] w w2 → R (Ending.returned (Value.int IntKind.i64 (num.tdiv den))) w2)) : Calls Try.prog 27 #[Value.int
    IntKind.i64 num, Value.int IntKind.i64 den] w R := calls_of_vc (pure := true) (wrapAt := []) (muts := []) (esc := []) (args := [SV.pv (PV.one (Lf.int IntKind.i64 num)), SV.pv
    (PV.one (Lf.int IntKind.i64 den))]) (vs := [Value.int IntKind.i64 num, Value.int IntKind.i64 den]) Try.func27 rfl rfl rfl (Eq.mp (by kernel_rfl) h) 
set_option maxRecDepth 100000 in
set_option maxHeartbeats 2000000 in
theorem vc28 (num : Int) (den : Int) (w : World) (R : Ending → World → Prop) (h : ((-9223372036854775808 : Int) ≤ 0 - num ∧ 0 - num ≤ 9223372036854775807) ∧ ∀ (w1 : World),
    RowKit.Below w.heap.size w w1 → Kept [] w w1 → Calls Try.prog 27 #[Value.int IntKind.i64 (0 - num), Value.int IntKind.i64 den] w1 fun (e1 : Ending) (w2 : World) => ∃ (x1 :
    Int), e1 = Ending.returned (Value.int IntKind.i64 x1) ∧ KeepX true w.heap.size [] (fun _ => False) w1 w2 ∧ ((-9223372036854775808 : Int) ≤ 0 - x1 ∧ 0 - x1 ≤
    9223372036854775807) ∧ ∀ (w3 : World), RowKit.Below w.heap.size w w3 → Kept [] w2 w3 → R (Ending.returned (Value.int IntKind.i64 (0 - x1))) w3) : Calls Try.prog 28 #[Value.int
    IntKind.i64 num, Value.int IntKind.i64 den] w R := calls_of_vc (pure := true) (wrapAt := []) (muts := []) (esc := []) (args := [SV.pv (PV.one (Lf.int IntKind.i64 num)), SV.pv
    (PV.one (Lf.int IntKind.i64 den))]) (vs := [Value.int IntKind.i64 num, Value.int IntKind.i64 den]) Try.func28 rfl rfl rfl (Eq.mp (by kernel_rfl) h) 
end Go.Proofs
end
section
/- The reference's Bounds, Down, Up, ends. -/
namespace Go.Proofs.R03
open Go.Vc Go.RowKit Go.Proofs

theorem rbounds_any (b : Bn) (w : World) : Calls Try.prog 24 #[b.v] w (Pure w (.bool (decide (OkB b)))) := by
  refine vc24 _ _ _ _ _ _ _ _ w _ fun m1 h1 w1 hb1 _ => ?_
  have no : ¬OkB b → decide (OkB b) = false := fun h => decide_eq_false h
  refine Pure.calls (rin_any b.heat (-1000) 1000 w1) fun w2 hb2 => ⟨_, rfl, .all hb2, fun k1 w3 hb3 _ => ?_, fun k w12 hb12 _ => ⟨by rw [no fun g => by have := g.1; simp at k; omega], hb12⟩⟩
  refine Pure.calls (rin_any b.press (-1000) 1000 w3) fun w4 hb4 => ⟨_, rfl, .all hb4, fun k2 w5 hb5 _ => ?_, fun k w12 hb12 _ => ⟨by rw [no fun g => by have := g.2.1; simp at k; omega], hb12⟩⟩
  refine Pure.calls (rin_any b.arc 0 600 w5) fun w6 hb6 => ⟨_, rfl, .all hb6, fun k3 w7 hb7 _ => ?_, fun k w12 hb12 _ => ⟨by rw [no fun g => by have := g.2.2.1; simp at k; omega], hb12⟩⟩
  refine Pure.calls (rin_any b.force (-100) 100 w7) fun w8 hb8 => ⟨_, rfl, .all hb8, fun w9 hb9 _ => ⟨?_, hb9⟩⟩
  congr 2
  rw [Bool.eq_iff_iff, decide_eq_true_iff, decide_eq_true_iff]
  exact ⟨fun h => ⟨of_decide_eq_true k1, of_decide_eq_true k2, of_decide_eq_true k3, h⟩, fun h => h.2.2.2⟩
theorem rdown_any {a b : Int} (hb : 0 < b) (h : -9000000000000000000 ≤ a ∧ a ≤ 9000000000000000000) (w : World) : Calls Try.prog 27 #[I a, I b] w (Pure w (I (a / b))) := by
  have h1 := tdiv_floor (a := a) hb
  have h2 := ediv_bd hb h
  have he := Int.mul_tdiv_add_tmod a b
  rw [Int.mul_comm] at he
  have hq : -9000000000000000000 ≤ a.tdiv b ∧ a.tdiv b ≤ 9000000000000000001 := by
    by_cases hm : a.tmod b < 0
    · have := h1.1 hm; omega
    · have := h1.2 (by omega); omega
  have hm : -9000000000000000000 ≤ a.tmod b ∧ a.tmod b ≤ 9000000000000000000 := by
    have : (a.tmod b).natAbs ≤ a.natAbs := by rw [Int.natAbs_tmod]; exact Nat.mod_le _ _
    omega
  have hp : -9000000000000000000 ≤ a.tdiv b * b ∧ a.tdiv b * b ≤ 9000000000000000000 := by
    have : (a.tdiv b * b).natAbs ≤ a.natAbs := by
      rw [Int.natAbs_mul, Int.natAbs_tdiv]
      show a.natAbs / b.natAbs * b.natAbs ≤ a.natAbs
      exact Nat.div_mul_le_self _ _
    omega
  refine vc27 _ _ w _ ⟨⟨by omega, by omega, by omega⟩, by omega, fun hl => ⟨by omega, fun w1 hb1 _ => ⟨?_, hb1⟩⟩, fun hl w2 hb2 _ => ⟨?_, hb2⟩⟩
  · rw [h1.1 (by omega)]
  · rw [h1.2 (by omega)]
theorem rup_any {a b : Int} (hb : 0 < b) (h : -9000000000000000000 ≤ a ∧ a ≤ 9000000000000000000) (w : World) : Calls Try.prog 28 #[I a, I b] w (Pure w (I (-(-a / b)))) := by
  have h2 := ediv_bd (a := -a) (A := 9000000000000000000) hb (by omega)
  refine vc28 _ _ w _ ⟨by omega, fun w1 hb1 _ => ?_⟩
  rw [show 0 - a = -a by omega]
  refine Pure.calls (rdown_any (a := -a) hb (by omega) w1) fun w2 hb2 => ⟨_, rfl, .all hb2, by omega, fun w3 hb3 _ => ⟨?_, hb3⟩⟩
  rw [Int.zero_sub]
end Go.Proofs.R03
end
section
/- The conditions of the functions, printed by program; each is what the generator reckons (kernel_rfl). -/
namespace Go.Proofs
open Go.Vc
end Go.Proofs
end
section
/- The clocks that the plain laws make of small numbers. -/
namespace Go.Proofs.R03
open Go.Vc Go.RowKit Go.Proofs

abbrev U8 (n : Int) : Value := .int .u8 n
abbrev B8 (n : Int) : Prop := 0 ≤ n ∧ n ≤ 255
structure MRod where
  len : Int
  grow : Int
  more : Int
  up : Bool
def mrodC (r : MRod) : List Value := [.int .u16 r.len, U8 r.grow, U8 r.more, .bool r.up]
def mrods (l : List MRod) : List Value := l.flatMap mrodC
abbrev okM (r : MRod) : Prop := (0 ≤ r.len ∧ r.len ≤ 65535) ∧ B8 r.grow ∧ B8 r.more
structure Made where
  rods : List MRod
  kind : Int
  base : Int
  b0 : Int
  b1 : Int
  b2 : Int
  b3 : Int
structure OkMade (m : Made) : Prop where
  rods : ∀ r ∈ m.rods, okM r
  kind : B8 m.kind
  base : -32768 ≤ m.base ∧ m.base ≤ 32767
  b0 : B8 m.b0
  b1 : B8 m.b1
  b2 : B8 m.b2
  b3 : B8 m.b3
  few : m.rods.length ≤ maxLen
def Made.v (m : Made) (a : Option Addr) (n : Nat) : Value := .agg #[.slice a m.rods.length n, U8 m.kind, .int .i16 m.base, U8 m.b0, U8 m.b1, U8 m.b2, U8 m.b3]
def stepM (st : Int × List Rod) (x : MRod) : Int × List Rod :=
  (if (x.up && decide (1 + x.len.tmod 4000 ≤ st.1)) = true then st.1 - (1 + x.len.tmod 4000) else st.1, st.2 ++ [⟨1 + x.len.tmod 4000, 20 * x.grow, 20 * x.grow + 3 * x.more, x.up && decide (1 + x.len.tmod 4000 ≤ st.1)⟩])
def clockL (l : List MRod) : Int × List Rod := l.foldl stepM (8000, [⟨9000, 1100, 1150, false⟩])
def clockC (m : Made) : Clk :=
  ⟨1 + m.kind.tmod 3, m.base, (clockL (m.rods.take 3)).2, (m.b0.tmod 100 - 50, m.b0.tmod 100 - 50 + m.b1.tmod 50), if 1 + m.kind.tmod 3 = 3 then (0, 0) else (if 1 + m.kind.tmod 3 = 1 then m.b2 - 200 else m.b2, m.b2 + m.b3)⟩
/-- The round of the loop, and where the rods lie. -/
def ClkInv (m : Made) (lo : Nat) (ns : List Nat) (l i k b : Int) (a : Option Addr) (n c : Nat) (w : World) : Prop :=
  0 ≤ i ∧ i ≤ 3 ∧ i ≤ m.rods.length ∧ l = (clockL (m.rods.take i.toNat)).1 ∧ k = 1 + m.kind.tmod 3 ∧ b = m.base ∧ n = (clockL (m.rods.take i.toNat)).2.length ∧ Row 80 4 lo ns a n c (rods (clockL (m.rods.take i.toNat)).2) w ∧ ∀ x ∈ ns, x < w.heap.size
end Go.Proofs.R03
end
section
/- The bounds and the truths that the plain laws make; within; narrower spans; the effect of a clock. -/
namespace Go.Proofs.R03
open Go.Vc Go.RowKit Go.Proofs

/-- bounds$1 -/
def sB (least most f wd : Int) : Sp := (least + (f * (most - least)).tdiv 255, min most (least + (f * (most - least)).tdiv 255 + (wd * (most - least)).tdiv 600))
structure Wx where
  f0 : Int
  f1 : Int
  f2 : Int
  f3 : Int
  w0 : Int
  w1 : Int
  w2 : Int
  w3 : Int
structure OkWx (x : Wx) : Prop where
  f0 : B8 x.f0
  f1 : B8 x.f1
  f2 : B8 x.f2
  f3 : B8 x.f3
  w0 : B8 x.w0
  w1 : B8 x.w1
  w2 : B8 x.w2
  w3 : B8 x.w3
def Wx.v (x : Wx) : Value := .agg #[U8 x.f0, U8 x.f1, U8 x.f2, U8 x.f3, U8 x.w0, U8 x.w1, U8 x.w2, U8 x.w3]
def boundsW (x : Wx) : Bn := ⟨sB (-400) 400 x.f0 x.w0, sB (-300) 300 x.f1 x.w1, sB 0 300 x.f2 x.w2, sB (-40) 40 x.f3 x.w3⟩
/-- inside -/
def insideS (s : Sp) (n : Int) : Int := s.1 + (n * (s.2 - s.1)).tdiv 255
def bytes8 (l : List Int) : List Value := l.map U8
def byteAt (l : List Int) (i : Int) : Int := if l.length = 0 then 0 else l.getD (i.tmod l.length).toNat 0
/-- truth -/
def truthOf (c : Clk) (b : Bn) (by_ : List Int) : Tr :=
  ⟨(List.range c.rods.length).map fun i => insideS ((c.rods.getD i ⟨0, 0, 0, false⟩).lo, (c.rods.getD i ⟨0, 0, 0, false⟩).hi) (byteAt by_ (6 + (i : Int))), insideS c.air (byteAt by_ 0), insideS c.drive (byteAt by_ 1), insideS b.heat (byteAt by_ 2), insideS b.press (byteAt by_ 3), insideS b.arc (byteAt by_ 4), insideS b.force (byteAt by_ 5)⟩
def truthN (c : Clk) (by_ : List Int) (n : Nat) : List Int := (List.range n).map fun i => insideS ((c.rods.getD i ⟨0, 0, 0, false⟩).lo, (c.rods.getD i ⟨0, 0, 0, false⟩).hi) (byteAt by_ (6 + (i : Int)))
theorem ints_app (l m : List Int) : ints (l ++ m) = ints l ++ ints m := by simp [ints]
end Go.Proofs.R03
end
section
/- within; narrower spans; the effect of a clock. -/
namespace Go.Proofs.R03
open Go.Vc Go.RowKit Go.Proofs

/-- BeatNarrows$1 -/
def narrowS (s : Sp) (n : Int) : Sp := ((s.1 + n) / 2, (s.2 + n + 1) / 2)
def lenF (r : Rod) : Int := sgn r * r.len
end Go.Proofs.R03
end
section
/- Plain: what is known is never narrower than what is true; ends are reached. -/
namespace Go.Proofs.R03
open Go.Vc Go.RowKit Go.Proofs

/-- A span within another one. -/
def Sub (s t : Sp) : Prop := t.1 ≤ s.1 ∧ s.1 ≤ s.2 ∧ s.2 ≤ t.2
def pick : Bool → Sp → Int
  | true, s => s.1
  | false, s => s.2
theorem lin_bd {a b x y : Int} (h : a ≤ x ∧ x ≤ b) : min (a * y) (b * y) ≤ x * y ∧ x * y ≤ max (a * y) (b * y) := by
  rcases Int.le_total 0 y with hy | hy
  · have h1 := Int.mul_le_mul_of_nonneg_right h.1 hy
    have h2 := Int.mul_le_mul_of_nonneg_right h.2 hy
    omega
  · have h1 := Int.mul_le_mul_of_nonpos_right h.1 hy
    have h2 := Int.mul_le_mul_of_nonpos_right h.2 hy
    omega
theorem by_mem {s t : Sp} {x y : Int} (hx : s.1 ≤ x ∧ x ≤ s.2) (hy : t.1 ≤ y ∧ y ≤ t.2) : (byS s t).1 ≤ x * y ∧ x * y ≤ (byS s t).2 := by
  have h1 := lin_bd (y := y) hx
  have h2 := lin_bd (y := s.1) hy
  have h3 := lin_bd (y := s.2) hy
  rw [Int.mul_comm y, Int.mul_comm t.1, Int.mul_comm t.2] at h2 h3
  unfold byS
  simp only
  omega
theorem by_end (b : Bool) (s t : Sp) : ∃ i j : Bool, pick b (byS s t) = pick i s * pick j t := by
  have h : pick b (byS s t) = s.1 * t.1 ∨ pick b (byS s t) = s.1 * t.2 ∨ pick b (byS s t) = s.2 * t.1 ∨ pick b (byS s t) = s.2 * t.2 := by
    cases b <;> unfold pick byS <;> simp only <;> omega
  rcases h with h | h | h | h
  · exact ⟨true, true, h⟩
  · exact ⟨true, false, h⟩
  · exact ⟨false, true, h⟩
  · exact ⟨false, false, h⟩
theorem by_le (s t : Sp) : (byS s t).1 ≤ (byS s t).2 := by unfold byS; simp only; omega
theorem pick_in {s : Sp} (h : s.1 ≤ s.2) (b : Bool) : s.1 ≤ pick b s ∧ pick b s ≤ s.2 := by cases b <;> simp only [pick] <;> omega
theorem Sub.refl {s : Sp} (h : s.1 ≤ s.2) : Sub s s := ⟨Int.le_refl _, h, Int.le_refl _⟩
theorem Sub.one {s : Sp} {x : Int} (h : s.1 ≤ x ∧ x ≤ s.2) : Sub (x, x) s := ⟨h.1, Int.le_refl _, h.2⟩
theorem Sub.ok {s t : Sp} (h : Sub s t) : s.1 ≤ s.2 := h.2.1
theorem Sub.ok' {s t : Sp} (h : Sub s t) : t.1 ≤ t.2 := by unfold Sub at h; omega
theorem Sub.plus {s s' t t' : Sp} (h : Sub s s') (k : Sub t t') : Sub (plusS s t) (plusS s' t') := by unfold Sub plusS at *; simp only; omega
theorem Sub.by {s s' t t' : Sp} (h : Sub s s') (k : Sub t t') : Sub (byS s t) (byS s' t') := by
  have hi : ∀ {b : Bool} {s s' : Sp}, Sub s s' → s'.1 ≤ pick b s ∧ pick b s ≤ s'.2 := fun {b} {s} {s'} h => by
    have := pick_in h.ok b
    unfold Sub at h; omega
  obtain ⟨i, j, e1⟩ := by_end true s t
  obtain ⟨i2, j2, e2⟩ := by_end false s t
  have h1 := by_mem (hi (b := i) h) (hi (b := j) k)
  have h2 := by_mem (hi (b := i2) h) (hi (b := j2) k)
  rw [← e1] at h1
  rw [← e2] at h2
  exact ⟨h1.1, by_le s t, h2.2⟩
theorem Sub.less {s s' t t' : Sp} (h : Sub s s') (k : Sub t t') : Sub (lessS s t) (lessS s' t') := by
  rw [less_eq k.ok, less_eq k.ok']
  unfold Sub at *; simp only; omega
theorem Sub.sq {s t : Sp} (h : Sub s t) (h0 : 0 ≤ t.1) : Sub (sqS s) (sqS t) := by
  unfold Sub at *
  refine ⟨Int.mul_le_mul h.1 h.1 h0 (by omega), Int.mul_le_mul h.2.1 h.2.1 (by omega) (by omega), Int.mul_le_mul h.2.2 h.2.2 (by omega) (by omega)⟩

/-- Less is known of the one than of the other. -/
structure KInc (k q : Kn) : Prop where
  base : k.c.base = q.c.base
  rods : k.c.rods.map lenF = q.c.rods.map lenF
  len : k.grow.length = q.grow.length
  each : ∀ (i : Nat) (s t : Sp), k.all[i]? = some s → q.all[i]? = some t → Sub s t
  arc : 0 ≤ q.arc.1

/-- All spans are valid. -/
structure KVal (k : Kn) : Prop where
  ok : ∀ (i : Nat) (s : Sp), k.all[i]? = some s → s.1 ≤ s.2
  arc : 0 ≤ k.arc.1
  len : 0 ≤ lenC k.c.rods
  grown : k.grow.length = k.c.rods.length
/-- Each value is an end of its span. -/
structure Corner (t : Tr) (k : Kn) : Prop where
  len : t.grow.length = k.grow.length
  at_ : ∀ (i : Nat) (x : Int) (s : Sp), (vals t)[i]? = some x → k.all[i]? = some s → x = s.1 ∨ x = s.2
theorem by_scale {s : Sp} {P : Int} (h : s.1 ≤ s.2) (hP : 0 ≤ P) : byS s (P, P) = (s.1 * P, s.2 * P) := by
  have := Int.mul_le_mul_of_nonneg_right h hP
  unfold byS; simp only [Prod.mk.injEq]; omega
theorem pick_plus (b : Bool) (s t : Sp) : pick b (plusS s t) = pick b s + pick b t := by cases b <;> rfl
theorem pick_less (b : Bool) {s t : Sp} (h : t.1 ≤ t.2) : pick b (lessS s t) = pick b s - pick (!b) t := by rw [less_eq h]; cases b <;> rfl
theorem pick_scale (b : Bool) {s : Sp} {P : Int} (h : s.1 ≤ s.2) (hP : 0 ≤ P) : pick b (byS s (P, P)) = pick b s * P := by rw [by_scale h hP]; cases b <;> rfl
theorem pick_sq (b : Bool) (s : Sp) : pick b (sqS s) = pick b s * pick b s := by cases b <;> rfl
theorem sumN_le {l : List Rod} {e : List Sp} : ∀ n, (sumN l e n).1 ≤ (sumN l e n).2
  | 0 => Int.le_refl _
  | n + 1 => by
    have ih := sumN_le (l := l) (e := e) n
    unfold sumN
    cases l[n]? with
    | none => unfold plusS; simp only; omega
    | some r =>
      cases e[n]? with
      | none => unfold plusS; simp only; omega
      | some s => have := by_le s (sgn r * r.len, sgn r * r.len); unfold plusS; simp only; omega
end Go.Proofs.R03
end
section
/- Plain: the truths of Ends reach the ends of the rate; rounding; fractions. -/
namespace Go.Proofs.R03
open Go.Vc Go.RowKit Go.Proofs

/-- The rounds of end: what is true of them. -/
structure EndI (k : Kn) (b : Bool) (p : Kn) (j : Nat) : Prop where
  c : p.c = k.c
  len : p.grow.length = k.grow.length
  sub : ∀ (i : Nat) (s t : Sp), p.all[i]? = some s → k.all[i]? = some t → Sub s t
  val : KVal p
  pts : ∀ (i : Nat) (s : Sp), i < j → p.all[i]? = some s → s.1 = s.2
  goal : pick b (rateK p) = pick b (rateK k)
end Go.Proofs.R03
end
section
/- The conditions of the functions, printed by program; each is what the generator reckons (kernel_rfl). -/
namespace Go.Proofs
open Go.Vc
end Go.Proofs
end
section
/- BeatCone. -/
namespace Go.Proofs.R03
open Go.Vc Go.RowKit Go.Proofs

theorem copied_l (c : Clk) {a : Option Addr} {n : Nat} {w : World} (hc : Cells w a (rods c.rods)) (hn : c.rods.length ≤ 100000) : Calls Try.prog 13 #[c.v a n] w fun e w' => ∃ a' n', e = .returned (c.v a' n') ∧ Below w.heap.size w w' ∧ Lies [] w.heap.size w'.heap.size w' a' (rods c.rods) :=
  (copied_any c hc hn).mono fun _ _ ⟨a', n', h1, h2, h3⟩ => ⟨a', n', h1, h2, Lies.row h3⟩
def TrL (t : Tr) (w : World) (e : Ending) (w' : World) : Prop := ∃ a n, e = .returned (t.v a n) ∧ Below w.heap.size w w' ∧ Lies [] w.heap.size w'.heap.size w' a (ints t.grow)
abbrev Z64 (x : Int) : Prop := -1000000000000000000 ≤ x ∧ x ≤ 1000000000000000000
structure ConeOk (S r x y : Sp) : Prop where
  r2 : 1 ≤ r.2
  x2 : 1 ≤ x.2
  y2 : 1 ≤ y.2
  bS : Z64 S.1 ∧ Z64 S.2
  br : Z64 (S.1 * r.2) ∧ Z64 (S.2 * r.2)
  bx : Z64 (S.1 * x.2) ∧ Z64 ((S.1 + 1) * x.2)
  b_y : Z64 (S.2 * y.2) ∧ Z64 ((S.2 - 1) * y.2)
  r_in : S.1 * r.2 ≤ r.1 ∧ r.1 ≤ S.2 * r.2
  xy : x.2 = y.2 → x.1 ≤ y.1
  x_in : S.1 * x.2 ≤ x.1 ∧ x.1 < (S.1 + 1) * x.2
  y_in : y.1 ≤ S.2 * y.2 ∧ (S.2 - 1) * y.2 < y.1
end Go.Proofs.R03
end
section
/- BeatCone. -/
namespace Go.Proofs.R03
open Go.Vc Go.RowKit Go.Proofs

def lowT (c : Clk) (b : Bn) : Tr := truthK (endK (pick true) (newK c b))
def highT (c : Clk) (b : Bn) : Tr := truthK (endK (pick false) (newK c b))
theorem open_ok {c : Clk} {b : Bn} (hk : check c = 0) (hb : OkB b) : openErr c b = 0 := by unfold openErr; rw [if_pos hk, if_pos hb]
end Go.Proofs.R03
end
section
/- Plain: changes; a nut; narrower bounds. -/
namespace Go.Proofs.R03
open Go.Vc Go.RowKit Go.Proofs

theorem sq_one (a : Int) : sqS (a, a) = (a * a, a * a) := rfl
/-- What is less than nothing. -/
def negS (s : Sp) : Sp := (-s.2, -s.1)
/-- A nut. -/
def turnC (c : Clk) (k : Int) : Clk := { c with base := c.base + k }
end Go.Proofs.R03
end
section
/- The conditions of the functions, printed by program; each is what the generator reckons (kernel_rfl). -/
namespace Go.Proofs
open Go.Vc
end Go.Proofs
end
section
/- BeatApart. -/
namespace Go.Proofs.R03
open Go.Vc Go.RowKit Go.Proofs

structure ApartOk (S U x y : Sp) (n : Int) : Prop where
  x2 : 1 ≤ x.2
  y2 : 1 ≤ y.2
  u1 : U.1 = 0 - S.2
  u2 : U.2 = 0 - S.1
  bS : Z64 S.1 ∧ Z64 S.2
  mx : n.tmod x.2 = 0
  my : n.tmod y.2 = 0
  dx : Z64 (n.tdiv x.2)
  dy : Z64 (n.tdiv y.2)
  vx : Z64 (x.1 * n.tdiv x.2)
  vy : Z64 (y.1 * n.tdiv y.2)
  sn : Z64 (S.1 * n) ∧ Z64 (S.2 * n)
  lo : S.1 * n ≤ y.1 * n.tdiv y.2 - x.1 * n.tdiv x.2
  hi : y.1 * n.tdiv y.2 - x.1 * n.tdiv x.2 ≤ S.2 * n
def backT (x y : Tr) : Tr := ⟨x.grow, x.air, x.drive, y.heat, y.press, y.arc, y.force⟩
end Go.Proofs.R03
end
section
/- BeatMoves. -/
namespace Go.Proofs.R03
open Go.Vc Go.RowKit Go.Proofs

def stillB (b : Bn) : Bn := { b with force := (0, 0) }
structure MovesOk (S V Z r : Sp) (kind turn : Int) : Prop where
  bS : Z64 S.1 ∧ Z64 S.2
  v : V.1 ≤ 0 ∧ 0 ≤ V.2
  br : Z64 r.1 ∧ Z64 r.2 ∧ Z64 (turn * r.2)
  z : kind = 3 → Z.1 = S.1 ∧ Z.2 = S.2
end Go.Proofs.R03
end
section
/- BeatSteady: plain, and a rod's length that is stored. -/
namespace Go.Proofs.R03
open Go.Vc Go.RowKit Go.Proofs

/-- A block that can be written, and what it holds at first. -/
structure WRow (T : TypeId) (b : Nat) (vs : List Value) (w : World) : Prop where
  obj : ∃ cs, w.heap[b]? = some (.cells cs T (0, 0))
  cells : Cells w (some ⟨b, 0, none⟩) vs
def hotB : Bn := ⟨(-100, 100), (0, 0), (0, 0), (0, 0)⟩
end Go.Proofs.R03
end
section
/- BeatSteady. -/
namespace Go.Proofs.R03
open Go.Vc Go.RowKit Go.Proofs

/-- A clock with a rod of another length, as it lies there. -/
def Clk.vl (c : Clk) (a : Option Addr) (k n : Nat) : Value := .agg #[I c.kind, I c.base, .slice a k n, I c.air.1, I c.air.2, I c.drive.1, I c.drive.2]
end Go.Proofs.R03
end
section
/- BeatNarrows: plain, and a rod's growing that is stored. -/
namespace Go.Proofs.R03
open Go.Vc Go.RowKit Go.Proofs

def growR (r : Rod) (s : Sp) : Rod := ⟨r.len, s.1, s.2, r.up⟩
/-- Rods that grow less widely: the first j of them. -/
def narL (l : List Rod) (g : List Int) : Nat → List Rod
  | 0 => l
  | j + 1 => (narL l g j).set j (growR (l.getD j ⟨0, 0, 0, false⟩) (narrowS ((l.getD j ⟨0, 0, 0, false⟩).lo, (l.getD j ⟨0, 0, 0, false⟩).hi) (g.getD j 0)))
def narC (c : Clk) (t : Tr) : Clk := ⟨c.kind, c.base, narL c.rods t.grow c.rods.length, narrowS c.air t.air, narrowS c.drive t.drive⟩
def narB (b : Bn) (t : Tr) : Bn := ⟨narrowS b.heat t.heat, narrowS b.press t.press, narrowS b.arc t.arc, narrowS b.force t.force⟩
end Go.Proofs.R03
end
section
/- BeatNarrows. -/
namespace Go.Proofs.R03
open Go.Vc Go.RowKit Go.Proofs

def Clk.vn (c : Clk) (t : Tr) (a : Option Addr) (k n : Nat) : Value := .agg #[I c.kind, I c.base, .slice a k n, I (narrowS c.air t.air).1, I (narrowS c.air t.air).2, I (narrowS c.drive t.drive).1, I (narrowS c.drive t.drive).2]
end Go.Proofs.R03
end
section
/- The conditions of the functions, printed by program; each is what the generator reckons (kernel_rfl). -/
namespace Go.Proofs
open Go.Vc
end Go.Proofs
end
section
/- The reference's Corners: what it returns, in memory. -/
namespace Go.Proofs.R03
open Go.Vc Go.RowKit Go.Proofs

/-- The value of a truth of ends: the k-th truth, the i-th value. -/
def cv (l : List Sp) (k i : Nat) : Int := if k / 2 ^ (l.length - 1 - i) % 2 = 1 then (l.getD i (0, 0)).2 else (l.getD i (0, 0)).1
def cvs (l : List Sp) (k j : Nat) : List Int := (List.range j).map (cv l k)
def trOf (n : Nat) (v : List Int) : Tr := ⟨v.take n, v.getD n 0, v.getD (n + 1) 0, v.getD (n + 2) 0, v.getD (n + 3) 0, v.getD (n + 4) 0, v.getD (n + 5) 0⟩
def cornerT (c : Clk) (b : Bn) (k : Nat) : Tr := trOf c.rods.length (cvs (newK c b).all k (c.rods.length + 6))

theorem bit_wrap {x : Int} {e : Int} (h0 : 0 ≤ x ∧ x ≤ 1000000) (he : 0 ≤ e ∧ e ≤ 60) : IntKind.i64.wrap (↑(BitVec.ofInt IntKind.i64.bits (x.fdiv (2 ^ min e.toNat IntKind.i64.bits)) &&& BitVec.ofInt IntKind.i64.bits 1).toNat : Int) = ((x.toNat / 2 ^ e.toNat % 2 : Nat) : Int) := by
  obtain ⟨q, rfl⟩ : ∃ q : Nat, x = q := ⟨x.toNat, by omega⟩
  have hb : IntKind.i64.bits = 64 := rfl
  rw [hb, show min e.toNat 64 = e.toNat by omega, Int.fdiv_eq_ediv_of_nonneg _ (Int.le_of_lt (Int.pow_pos (by decide)))]
  have e1 : (q : Int) / 2 ^ e.toNat = ((q / 2 ^ e.toNat : Nat) : Int) := by rw [Int.natCast_ediv, Int.natCast_pow]; rfl
  rw [e1, Int.toNat_natCast]
  have hq : q / 2 ^ e.toNat ≤ 1000000 := Nat.le_trans (Nat.div_le_self _ _) (by omega)
  generalize q / 2 ^ e.toNat = p at *
  have e2 : (BitVec.ofInt 64 (p : Int) &&& BitVec.ofInt 64 1).toNat = p % 2 := by
    rw [BitVec.toNat_and, BitVec.ofInt_natCast, BitVec.toNat_ofNat]
    have : (BitVec.ofInt 64 1).toNat = 1 := by decide
    rw [this, Nat.mod_eq_of_lt (by omega), Nat.and_one_is_mod]
  rw [e2]
  have : p % 2 = 0 ∨ p % 2 = 1 := by omega
  rcases this with h | h <;> rw [h] <;> rfl

/-- A truth, and where its growing lies. -/
structure TE where
  t : Tr
  g : Nat
  c : Nat
def teC (e : TE) : List Value := [.slice (some ⟨e.g, 0, none⟩) e.t.grow.length e.c, I e.t.air, I e.t.drive, I e.t.heat, I e.t.press, I e.t.arc, I e.t.force]
def tes (l : List TE) : List Value := l.flatMap teC
/-- Truths in a row: their growing in other blocks. -/
structure OutI (lo hi : Nat) (ns : List Nat) (es : List TE) (a : Option Addr) (n c : Nat) (w : World) : Prop where
  n_eq : n = es.length
  row : ((∃ b0, a = some ⟨b0, 0, none⟩) ∧ es = [] ∧ c = 0) ∨ (Row 30 7 lo (es.map (·.g) ++ ns) a n c (tes es) w ∧ ∀ b o, a = some ⟨b, o, none⟩ → b < hi)
  each : ∀ e ∈ es, (lo ≤ e.g ∧ e.g < hi) ∧ e.g ∉ ns ∧ Cells w (some ⟨e.g, 0, none⟩) (ints e.t.grow)
def CornersPost (c : Clk) (b : Bn) (w : World) (e : Ending) (w' : World) : Prop :=
  ∃ a n es, e = .returned (.slice a es.length n) ∧ Below w.heap.size w w' ∧ es.map (·.t) = (List.range (2 ^ (c.rods.length + 6))).map (cornerT c b) ∧ OutI w.heap.size w'.heap.size [] es a es.length n w'

end Go.Proofs.R03
end
section
/- The reference's Ends. -/
namespace Go.Proofs.R03
open Go.Vc Go.RowKit Go.Proofs

/-- The first one of the least, and of the greatest, of the first values. -/
def lowN (P : Nat → Int) : Nat → Nat
  | 0 => 0
  | i + 1 => if P (i + 1) < P (lowN P i) then i + 1 else lowN P i
def highN (P : Nat → Int) : Nat → Nat
  | 0 => 0
  | i + 1 => if P (highN P i) < P (i + 1) then i + 1 else highN P i
def cornerP (c : Clk) (b : Bn) (k : Nat) : Int := partsR c (cornerT c b k)
def lastK (c : Clk) : Nat := 2 ^ (c.rods.length + 6) - 1
def RendsPost (c : Clk) (b : Bn) (w : World) (e : Ending) (w' : World) : Prop :=
  ∃ a1 d1 a2 d2, e = .returned (.tuple #[(cornerT c b (lowN (cornerP c b) (lastK c))).v a1 d1, (cornerT c b (highN (cornerP c b) (lastK c))).v a2 d2]) ∧ Below w.heap.size w w' ∧
    Lies [] w.heap.size w'.heap.size w' a1 (ints (cornerT c b (lowN (cornerP c b) (lastK c))).grow) ∧ Lies [] w.heap.size w'.heap.size w' a2 (ints (cornerT c b (highN (cornerP c b) (lastK c))).grow)

end Go.Proofs.R03
end
section
/- Plain: the first one of the least truths of ends is that of Ends. -/
namespace Go.Proofs.R03
open Go.Vc Go.RowKit Go.Proofs

/-- Bits, the greatest first. -/
def ofBits (f : Nat → Bool) : Nat → Nat
  | 0 => 0
  | i + 1 => 2 * ofBits f i + (f i).toNat
def bitK (n k i : Nat) : Bool := decide (k / 2 ^ (n - 1 - i) % 2 = 1)
end Go.Proofs.R03
end
section
/- The conditions of the functions, printed by program; each is what the generator reckons (kernel_rfl). -/
namespace Go.Proofs
open Go.Vc
end Go.Proofs
end
section
/- BeatRates. -/
namespace Go.Proofs.R03
open Go.Vc Go.RowKit Go.Proofs

end Go.Proofs.R03
end
