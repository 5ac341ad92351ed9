/- Part 7: own lemmas, and the conditions of the functions. -/
import Derived.Test.YtedlnndkamgknaaGreatProg
import Derived.Test.YtedlnndkamgknaaGreatRows
import Derived.Lib.AppendZerosOnto
import Derived.Test.YtedlnndkamgknaaGreatP06
section
/- Lists of steps: clipped, cloned, appended to. -/
namespace Go.Proofs.RT
open Go.Vc Go.RowKit Go.Proofs
theorem grd_nil (a : Addr) (n c : Nat) (w : World) : (eqGuard .eql 32 (.tmp 3) (.const (.slice none 0 0)) (.slice (some a) n c) (.slice none 0 0)).run Tryz.prog w = .ok () w := by kernel_rfl
theorem eq_nil (a : Addr) (n c : Nat) (w : World) : (binOp .eql 32 (.slice (some a) n c) (.slice none 0 0)).run Tryz.prog w = .ok (.bool false) w := by kernel_rfl
theorem grd_nil0 (w : World) : (eqGuard .eql 32 (.tmp 3) (.const (.slice none 0 0)) (.slice none 0 0) (.slice none 0 0)).run Tryz.prog w = .ok () w := by kernel_rfl
theorem eq_nil0 (w : World) : (binOp .eql 32 (.slice none 0 0) (.slice none 0 0)).run Tryz.prog w = .ok (.bool true) w := by kernel_rfl
set_option maxRecDepth 100000 in
theorem clip_any {w : World} {a : Option Addr} {n c : Nat} (h : n ≤ c) : Calls Tryz.prog 141 #[.slice a n c] w fun e w' => e = .returned (.slice a n n) ∧ Below w.heap.size w w' := by
  go_enter Tryz.func141, Tryz.ntmps141
  go_wp2
  exact ⟨rfl, .slice a n n, by kernel_rfl, rfl, .refl _ _⟩
section
variable {w : World}
theorem al_below {o : Obj} : Below w.heap.size w (w.drew.alloc o) := ((Below.refl _ w).alloc (Nat.le_refl _) _).drew
theorem append_clip {a : Option Addr} {l : List Int} {m : Nat} {x : Int} {R : Value → World → Prop} (hc : Cells w a (ints l)) (hl : l.length ≤ 1000) (ha : l = [] → a = none) (hm : w.heap[m]? = some (.cells #[I x] 3 (0, 0)))
    (hR : ∀ a' c' w', Below w.heap.size w w' → Lies [] w.heap.size w'.heap.size w' a' (ints (l ++ [x])) → l.length + 1 ≤ c' → R (.slice a' (l.length + 1) c') w') :
    RunsTo Tryz.prog (Builtin.append_ #[32, 32] 32 #[.slice a l.length l.length, .slice (some ⟨m, 0, none⟩) 1 1]) w R := by
  by_cases h0 : l = []
  · subst h0
    obtain rfl := ha rfl
    have R0 : RowG 3 1 w.heap.size (fun b => b < w.heap.size) none 0 0 [] w := RowG.nil
    refine R0.append (P := Tryz.prog) (bytes := 8) (by kernel_rfl) (by omega) (m := 1) (news := [_]) (Cells.obj (vs := [_]) hm) rfl (List.forall_mem_cons.2 ⟨rfl, by simp⟩) (by omega) (by omega) (Nat.le_refl _) (fun b hb => hb) fun a' c' w' R' S c1 hS => ?_
    have hb : Below w.heap.size w w' := ⟨c1.os, c1.tape, c1.output, c1.size, fun k hk => c1.keep k hk fun hm => (hS k hm).2 hk⟩
    exact hR a' c' w' hb (rowE_lies (.inr R'.row) (Nat.le_refl _)) (row_le R'.row)
  · have hpos : 0 < l.length := List.length_pos_iff.2 h0
    obtain ⟨b1, o1, rfl, _⟩ := hc 0 _ (ints_get (getElem_of_lt hpos))
    obtain ⟨ht, i, z, hi, hz, hs, hby, hzs⟩ := elemB_spec (P := Tryz.prog) (t := 32) (e := 3) (size := 1) (bytes := 8) (by kernel_rfl)
    have hadd : ∀ b o j : Nat, (⟨b, o, none⟩ : Addr).add j = ⟨b, o + j, none⟩ := fun b o j => by unfold Addr.add; split <;> simp_all
    have c2 : Cells w (some ⟨m, 0, none⟩) [I x] := Cells.obj hm
    have hr := run_append_grow (P := Tryz.prog) w 32 32 3 i z ht hi hz ⟨b1, o1, none⟩ l.length l.length (ints l) (by rw [hs]; simp [ints]) (fun j q hq => by rw [hadd]; exact hc.at hq) ⟨m, 0, none⟩ 1 1 [I x] (by rw [hs]; rfl) (fun j q hq => by rw [hadd]; exact c2.at hq) (by omega) (by omega) (growslice_fits (by omega) (by rw [hby]; omega))
    refine ⟨_, _, hr, hR _ _ _ al_below (Lies.new (n := w.heap.size) (bs := []) (fun j q hj => ⟨w.heap.size, 0, rfl, ?_⟩) (.inr fun b o e => by simp only [Option.some.injEq, Addr.mk.injEq, and_true] at e; omega) (by simp)) ?_⟩
    · have hlt := (List.getElem?_eq_some_iff.1 hj).1
      have hh : (w.drew.alloc (.cells ((ints l).toArray ++ [I x].toArray ++ Builtin.zeroCells z.cells (grownCap w (l.length + 1) l.length 3 - (l.length + 1))) 3)).heap[w.heap.size]? = some (.cells ((ints l).toArray ++ [I x].toArray ++ Builtin.zeroCells z.cells (grownCap w (l.length + 1) l.length 3 - (l.length + 1))) 3 (0, 0)) := heap_alloc_new w.drew _
      unfold World.cell?
      simp only [hh, Nat.zero_add]
      rw [Array.getElem?_append_left (by simpa [ints] using hlt)]
      simpa [ints] using hj
    · exact grownCap_ge w (l.length + 1) l.length 3
set_option maxRecDepth 100000 in
theorem clone_any {a : Option Addr} {l : List Int} {c : Nat} (hc : Cells w a (ints l)) (hl : l.length ≤ 1000) (ha : l = [] → a = none ∧ c = 0) : Calls Tryz.prog 140 #[.slice a l.length c] w fun e w' => ∃ a' c', e = .returned (.slice a' l.length c') ∧ Below w.heap.size w w' ∧ Lies [] w.heap.size w'.heap.size w' a' (ints l) := by
  refine vc140 _ _ _ w _ fun w1 hb1 hk1 => ?_
  by_cases h0 : l = []
  · subst h0
    obtain ⟨rfl, rfl⟩ := ha rfl
    refine ⟨.bool true, w1, ?_, true, rfl, .all (.refl _ _), fun _ w3 hb3 _ => ⟨none, 0, rfl, hb3, fun i v hv => by simp [ints] at hv⟩, fun h => (nomatch h)⟩
    rw [Sem.run_bind]
    show (Result.andThen ((eqGuard .eql 32 (.tmp 3) (.const (.slice none 0 0)) (.slice none 0 0) (.slice none 0 0)).run Tryz.prog w1) _) = _
    rw [grd_nil0, Result.andThen_ok]
    exact eq_nil0 w1
  · have hpos : 0 < l.length := List.length_pos_iff.2 h0
    obtain ⟨b1, o1, rfl, _⟩ := hc 0 _ (ints_get (getElem_of_lt hpos))
    refine ⟨.bool false, w1, ?_, false, rfl, .all (.refl _ _), fun h => (nomatch h), fun _ m2 g2 w4 hb4 hk4 hc4 => ?_⟩
    · rw [Sem.run_bind, grd_nil, Result.andThen_ok, eq_nil]
    have R0 : RowE 3 1 w.heap.size [m2] (some ⟨m2, 0, none⟩) 0 0 [] w4 := RowE.lit
    have s4 := hb4.size
    refine append_rowE (P := Tryz.prog) (bytes := 8) (by kernel_rfl) (by omega) R0 (m := l.length) (hc.keep hb4) (by simp [ints]) (fun u hu => by
      obtain ⟨x, _, rfl⟩ := List.mem_map.1 hu
      rfl) (by omega) (by omega) s4 (fun y hy => hk4.own y hy) hpos fun a' c' w5 R5 S c5 hS => ?_
    rw [Nat.zero_add] at *
    have hb5 : Below w.heap.size w w5 := hb4.trans ⟨c5.os, c5.tape, c5.output, c5.size, fun k hk => c5.keep k (by omega) fun hm => by have := (hS k hm).1; omega⟩
    refine ⟨_, _, _, rfl, c5.own (fun y hy => ⟨hk4.own y hy, fun h => (hS y h).2 hy⟩) (by simp) (fun _ => ⟨s4, fun s hs => (hS s hs).1⟩), fun w6 hb6 hk6 => ⟨_, _, rfl, hb6, ?_⟩⟩
    exact rowE_lies (ns := [m2]) (.inr (R5.chg (Chg.kept hk6) (by simp))) (Nat.le_refl _)
end
end Go.Proofs.RT
end
section
/- The search for the best walk. -/
namespace Go.Proofs.RT
open Go.Vc Go.RowKit Go.Proofs
structure Sea where
  goal : Int
  steps : List Int
  minutes : Int
  found : Bool
deriving DecidableEq
def loopF (f : Sea → Int → Option Sea) : Nat → Int → Sea → Option Sea
  | 0, _, s => some s
  | j + 1, n, s => (f s n).bind (loopF f j (n + 1))
def okSt (r : Ru) (s : St) : Prop := ((0 ≤ s.place ∧ s.place ≤ r.T.length) ∧ (0 ≤ s.oil ∧ s.oil ≤ 1000000000)) ∧ (0 ≤ s.run ∧ s.run ≤ 1000000000) ∧ 0 ≤ s.minutes ∧ s.minutes ≤ 1000000000
instance (r : Ru) (s : St) : Decidable (okSt r s) := by unfold okSt; infer_instance
theorem okSt.b {r : Ru} {s : St} (h : okSt r s) : StB r s := ⟨h.1.1, h.1.2, h.2.1, h.2.2⟩
def recF (r : Ru) (wn : Wn) (sea : Sea) (st : St) (l : List Int) : Sea :=
  if st.wound = sea.goal ∧ (homeF r wn st).2 = 0 ∧ (sea.found = false ∨ (homeF r wn st).1.minutes < sea.minutes) then ⟨sea.goal, l, (homeF r wn st).1.minutes, true⟩ else sea
def restedF (l : List Int) : Bool := if 0 < l.length then l.getD (l.length - 1) 0 == -1 else false
def skipF (goal wound : Int) (rested : Bool) (n : Int) : Bool := if n = -1 then rested else if hasF goal n = false then true else hasF wound n
def tryF (r : Ru) (wn : Wn) : Nat → Sea → St → List Int → Option Sea
  | 0, _, _, _ => none
  | k + 1, sea, st, l =>
    if okSt r st then
      if (if sea.found = true then decide (sea.minutes ≤ st.minutes) else false) = true then some sea
      else loopF (fun s n => if skipF s.goal st.wound (restedF l) n = true then some s else if (stepF r wn st n).2 = 0 then tryF r wn k s (stepF r wn st n).1 (l ++ [n]) else some s) (r.T.length + 1) (-1) (recF r wn sea st l)
    else none
theorem lies_push {bs : List Nat} {lo hi : Nat} {w : World} {a : Option Addr} {vs : List Value} (h : Lies [] lo hi w a vs) (hb : ∀ y ∈ bs, y < lo ∨ hi ≤ y) : Lies bs lo hi w a vs := fun i v hv => by
  obtain ⟨b, o, e, ⟨_, g2, g3⟩, hc⟩ := h i v hv
  exact ⟨b, o, e, ⟨fun hm => by have := hb b hm; omega, g2, g3⟩, hc⟩
structure SeaIn (sb : Nat) (av : List Nat) (sea : Sea) (w : World) : Prop where
  ex : ∃ a c, w.heap[sb]? = some (.cells #[I sea.goal, .slice a sea.steps.length c, I sea.minutes, .bool sea.found] 181 (0, 0)) ∧ Lies (sb :: av) 0 w.heap.size w a (ints sea.steps)
theorem SeaIn.lt {sb : Nat} {av : List Nat} {sea : Sea} {w : World} (h : SeaIn sb av sea w) : sb < w.heap.size := by obtain ⟨a, c, h, _⟩ := h.ex; exact lt_of_some h
theorem SeaIn.same {sb : Nat} {av : List Nat} {sea : Sea} {w w' : World} (h : SeaIn sb av sea w) (hs : w.heap.size ≤ w'.heap.size) (hk : ∀ k, k < w.heap.size → k ∉ av → w'.heap[k]? = w.heap[k]?) (hsb : sb ∉ av) : SeaIn sb av sea w' := by
  obtain ⟨a, c, hh, L⟩ := h.ex
  refine ⟨a, c, by rw [hk sb (lt_of_some hh) hsb]; exact hh, fun i v hv => ?_⟩
  obtain ⟨b, o, e, ⟨g1, g2, g3⟩, hc⟩ := L i v hv
  refine ⟨b, o, e, ⟨g1, g2, by omega⟩, ?_⟩
  have := hk b g3 fun hm => g1 (List.mem_cons_of_mem _ hm)
  unfold World.cell? at hc ⊢
  simp only [this]; exact hc
theorem SeaIn.sub {sb : Nat} {av cs : List Nat} {sea : Sea} {w : World} (h : SeaIn sb av sea w) (hs : ∀ y ∈ cs, y ∈ av) : SeaIn sb cs sea w := by
  obtain ⟨a, c, hh, L⟩ := h.ex
  exact ⟨a, c, hh, L.sub fun y hy => by
    rcases List.mem_cons.1 hy with rfl | hy
    · exact List.mem_cons_self
    · exact List.mem_cons_of_mem _ (hs y hy)⟩
theorem SeaIn.push {sb m : Nat} {av : List Nat} {sea : Sea} {w : World} (h : SeaIn sb av sea w) (hm : w.heap.size ≤ m) : SeaIn sb (m :: av) sea w := by
  obtain ⟨a, c, hh, L⟩ := h.ex
  refine ⟨a, c, hh, (L.push (m := m) (.inr hm)).sub fun y hy => ?_⟩
  have hy' : y = sb ∨ y = m ∨ y ∈ av := by simpa using hy
  simp; rcases hy' with h | h | h <;> simp [h]
/-- How things stand in a call of the search: w: where it began; own variables bs. -/
def Sit (w : World) (sb : Nat) (av bs : List Nat) (sea : Sea) (W : World) : Prop := Chg (sb :: bs) w W ∧ SeaIn sb (bs ++ av) sea W
section
variable {w W W' : World} {sb : Nat} {av bs : List Nat} {sea : Sea}
theorem Sit.same (h : Sit w sb av bs sea W) (e1 : W'.os = W.os) (e2 : W'.tape = W.tape) (e3 : W'.output = W.output) (hs : W.heap.size ≤ W'.heap.size) (hk : ∀ k, k < W.heap.size → k ∉ bs → W'.heap[k]? = W.heap[k]?) (hsb : sb ∉ bs ++ av := by simp; omega) : Sit w sb av bs sea W' :=
  ⟨h.1.trans ⟨e1, e2, e3, hs, fun k h1 h2 => hk k h1 fun hm => h2 (List.mem_cons_of_mem _ hm)⟩, h.2.same hs (fun k h1 h2 => hk k h1 fun hm => h2 (List.mem_append_left _ hm)) hsb⟩
theorem Sit.step {S : List Nat} (h : Sit w sb av bs sea W) (hc : Chg S W W') (hS : ∀ y ∈ S, y ∈ bs ∨ W.heap.size ≤ y) (hsb : sb ∉ bs) (hsa : sb ∉ av) : Sit w sb av bs sea W' :=
  h.same hc.os hc.tape hc.output hc.size (fun k h1 h2 => hc.keep k h1 fun hm => by
    rcases hS k hm with h3 | h3
    · exact h2 h3
    · omega) (fun hm => by rcases List.mem_append.1 hm with h1 | h1; exact hsb h1; exact hsa h1)
theorem Sit.push {m : Nat} (h : Sit w sb av bs sea W) (hm : W.heap.size ≤ m) : Sit w sb av (m :: bs) sea W := ⟨h.1.mono fun y hy => .inl (by
  rcases List.mem_cons.1 hy with rfl | hy
  · exact List.mem_cons_self
  · exact List.mem_cons_of_mem _ (List.mem_cons_of_mem _ hy)), h.2.push hm⟩
theorem Sit.pop {m : Nat} (h : Sit w sb av (m :: bs) sea W) (hm : w.heap.size ≤ m) : Sit w sb av bs sea W := ⟨h.1.mono fun y hy => by
  rcases List.mem_cons.1 hy with rfl | hy
  · exact .inl List.mem_cons_self
  · rcases List.mem_cons.1 hy with rfl | hy
    · exact .inr hm
    · exact .inl (List.mem_cons_of_mem _ hy), h.2.sub fun y hy => List.mem_cons_of_mem _ hy⟩
end
def PostTry (sb : Nat) (av : List Nat) (sea : Sea) (w : World) (e : Ending) (w' : World) : Prop := e = .returned (.tuple #[]) ∧ Chg [sb] w w' ∧ SeaIn sb av sea w'
set_option maxRecDepth 100000 in
set_option maxHeartbeats 4000000 in
theorem try_any {r : Ru} {A : Adr} {wn : Wn} {S : List Sl} {w0 : World} {sb : Nat} (hR : RuIn r A.ra A.wa A.va S w0) (hO : RuOk r) (hB : w0.heap.size ≤ sb) : ∀ (k : Nat) (sea : Sea) (st : St) (l : List Int) (sea' : Sea) (la : Option Addr) (lc : Nat) (av : List Nat) (w : World),
    tryF r wn k sea st l = some sea' → l.length + k ≤ 900 → Below w0.heap.size w0 w → SeaIn sb av sea w → (∀ y ∈ av, y < w.heap.size) → sb ∉ av → Lies [sb] 0 w.heap.size w la (ints l) → l.length ≤ lc → (l = [] → la = none ∧ lc = 0) →
    Calls Tryz.prog 77 #[.pointer (some ⟨sb, 0, none⟩), .agg (wkC r A wn st).toArray, .slice la l.length lc] w (PostTry sb av sea' w) := by
  intro k
  induction k with
  | zero => intro sea st l sea' la lc av w h; simp [tryF] at h
  | succ k ih =>
  intro sea st l sea' la lc av w ht hlk hb0 hS hav hsa hL hlc hnil
  have hsb := hS.lt
  have z0 := hb0.size
  have hT := hO.t
  rw [tryF] at ht
  by_cases hok : okSt r st
  rotate_left
  · rw [if_neg hok] at ht; cases ht
  rw [if_pos hok] at ht
  have hB' := hok.b
  -- the steps, at any later world
  have lst : ∀ {bs : List Nat} (W : World), Chg (sb :: bs) w W → (∀ y ∈ bs, w.heap.size ≤ y) → Lies [sb] 0 w.heap.size W la (ints l) := fun {bs} W hc hbs i v hv => by
    obtain ⟨b, o, e, ⟨g1, g2, g3⟩, hcc⟩ := hL i v hv
    refine ⟨b, o, e, ⟨g1, g2, g3⟩, hc.cell (fun hm => ?_) hcc⟩
    rcases List.mem_cons.1 hm with rfl | hm
    · exact g1 (by simp)
    · have := hbs b hm; omega
  have bel : ∀ {bs : List Nat} (W : World), Chg (sb :: bs) w W → (∀ y ∈ bs, w.heap.size ≤ y) → Below w0.heap.size w0 W := fun {bs} W hc hbs => hb0.trans ⟨hc.os, hc.tape, hc.output, hc.size, fun k hk => hc.keep k (by omega) fun hm => by
    rcases List.mem_cons.1 hm with rfl | hm
    · omega
    · have := hbs k hm; omega⟩
  refine vc77 sb 0 _ _ _ _ _ _ _ _ _ _ _ _ _ _ _ _ _ _ _ _ _ _ _ w _ fun m1 g1 => ?_
  have Z0 : Sit w sb av [] sea w := ⟨Chg.refl _ _, hS⟩
  have Z1 : Sit w sb av [m1] sea w := Z0.push g1
  have fin : ∀ {s : Sea} {W : World}, Sit w sb av [m1] s W → PostTry sb av s w (.returned (.tuple #[])) W := fun h => ⟨rfl, h.1.mono fun y hy => by simp at hy ⊢; omega, h.2.sub (fun y hy => by simp [hy])⟩
  have kst : ∀ {s : Sea} {W W' : World}, Sit w sb av [m1] s W → Kept [m1] W W' → Sit w sb av [m1] s W' := fun h hk => h.step (Chg.kept hk) (fun y hy => .inl hy) (by simp; omega) hsa
  obtain ⟨a0, c0, hh0, _⟩ := hS.ex
  refine ⟨fun ls W => match ls with | [.bool t] => t = (if sea.found = true then decide (sea.minutes ≤ st.minutes) else false) ∧ Sit w sb av [m1] sea W | _ => False, ⟨sea.found, cell_obj (vs := [_, _, _, _]) hh0 rfl, .inl hsb, fun hf => ⟨sea.minutes, cell_obj (vs := [_, _, _, _]) hh0 rfl, .inl hsb, fun w2 hk2 _ => ⟨by rw [if_pos hf], kst Z1 hk2⟩⟩, fun hf w3 hk3 => ⟨by rw [if_neg (by simp [hf])], kst Z1 hk3⟩⟩, ?_⟩
  rintro t2 w4 ⟨rfl, S4⟩
  refine ⟨fun h w5 hk5 => ?_, fun h => ?_⟩
  · rw [if_pos h] at ht
    cases ht
    exact fin (kst S4 hk5)
  rw [if_neg (by simp [h])] at ht
  clear h
  obtain ⟨a4, c4, hh4, _⟩ := S4.2.ex
  have q4 := S4.1.size
  refine ⟨sea.goal, cell_obj (vs := [_, _, _, _]) hh4 rfl, .inl hsb, fun _ W => Sit w sb av [m1] (recF r wn sea st l) W, ⟨fun hw => ?_, fun hw w42 hk42 => ?_⟩, ?_⟩
  · intro w7 hk7 m5 w8 e5 e8 w9 hk9
    have q7 := hk7.size; have q9 := hk9.size
    have q8 : w8.heap.size = w7.heap.size + 1 := by rw [e8, alloc_size]
    have om1 := hk7.own m1 (by simp)
    have P7 : Sit w sb av [m5, m1] sea w7 := (kst S4 hk7).push (by omega)
    have hb8 : Below w7.heap.size w7 w8 := by rw [e8]; exact (Below.refl _ w7).alloc (Nat.le_refl _) _
    have P8 := P7.step (S := []) (Chg.of_below hb8) (by simp) (by simp; omega) hsa
    have P9 := P8.step (Chg.kept hk9) (fun y hy => .inl (by simp at hy ⊢; omega)) (by simp; omega) hsa
    have h8 : w8.heap[m5]? = some (.cells #[.slice none 0 0, .slice none 0 0, .slice none 0 0, I 0, I 0, .int .u16 0, I 0, I 0, I 0, I 0, I 0, I 0, I 0, I 0] 173 (0, 0)) := by rw [e8, e5]; exact World.alloc_heap_new w7 _
    have h9 : w9.heap[m5]? = some (.cells [.slice none 0 0, .slice none 0 0, .slice none 0 0, I 0, I 0, .int .u16 0, I 0, I 0, I 0, I 0, I 0, I 0, I 0, I 0].toArray 173 (0, 0)) := by rw [hk9.block m5 (by omega) (by simp; omega), h8]
    clear e8 h8
    refine obj_store (vs := wkC r A wn st) h9 (by kernel_rfl) (by kernel_rfl) (by simp) rfl (by simp; trivial) fun w10 hh10 c10 => ⟨c10.own (fun y hy => ⟨hk9.own y hy, by simp at hy ⊢; omega⟩) (by simp) (by simp), fun w11 hk11 => ?_⟩
    have h10 : WkIn m5 r A wn st w10 := by unfold WkIn; rw [hh10]; rfl
    have h11 := h10.out hk11.chg (by simp; omega)
    have q10 := c10.size; have q11 := hk11.size
    have P10 := P9.step c10 (fun y hy => .inl (by simp at hy ⊢; omega)) (by simp; omega) hsa
    have P11 := P10.step hk11.chg (fun y hy => .inl (by simp at hy ⊢; omega)) (by simp; omega) hsa
    refine (home_any h11 hB' hR hO (bel _ P11.1 (by simp; omega)) (by omega)).mono fun e w12 he => ?_
    obtain ⟨rfl, c12, h12⟩ := he
    have q12 := c12.size
    have P12 := P11.step c12 (fun y hy => .inl (by simp at hy ⊢; omega)) (by simp; omega) hsa
    obtain ⟨a12, cc12, hh12, _⟩ := P12.2.ex
    refine ⟨_, rfl, c12.own (fun y hy => ⟨by simp at hy; omega, by simp at hy ⊢; omega⟩) (by simp) (by simp), fun hz => ⟨sea.found, cell_obj (vs := [_, _, _, _]) hh12 rfl, .inl hsb, fun hf => ⟨fun _ W => Sit w sb av [m1] (recF r wn sea st l) W, fun w14 hk14 => ?_, fun w23 h23 w24 hk24 => kst h23 hk24⟩, fun hf => ⟨_, cell_obj h12 rfl, .inr (by omega), sea.minutes, cell_obj (vs := [_, _, _, _]) hh12 rfl, .inl hsb, fun _ W => Sit w sb av [m1] (recF r wn sea st l) W, ⟨fun hlt w26 hk26 => ?_, fun hge w35 hk35 => ?_⟩, fun w36 h36 w37 hk37 => kst h36 hk37⟩⟩, fun hz => ⟨fun _ W => Sit w sb av [m1] (recF r wn sea st l) W, fun w39 hk39 => ?_, fun w40 h40 w41 hk41 => kst h40 hk41⟩⟩
    · have HC : st.wound = sea.goal ∧ (homeF r wn st).2 = 0 ∧ (sea.found = false ∨ (homeF r wn st).1.minutes < sea.minutes) := ⟨hw, hz, .inl (by simpa using hf)⟩
      have q14 := hk14.size
      have P14 := P12.step hk14.chg (fun y hy => .inl (by simp at hy ⊢; omega)) (by simp; omega) hsa
      refine (clone_any (lst _ P14.1 (by simp; omega)).cells (by omega) hnil).mono fun e w15 he => ?_
      obtain ⟨aa, cc, rfl, hb15, L15⟩ := he
      have q15 := hb15.size
      refine ⟨_, _, _, rfl, hb15, _, cell_obj h12 rfl, .inr (by omega), fun w16 hk16 => ?_⟩
      have q16 := hk16.size
      have P16 : Sit w sb av [m5, m1] sea w16 := P12.same (W' := w16) (hk16.os.trans (hb15.os.trans hk14.os)) (hk16.tape.trans (hb15.tape.trans hk14.tape)) (hk16.output.trans (hb15.output.trans hk14.output)) (by omega) (fun k h1 h2 => by
        have hk1 : k ∉ [m1] := fun hm => h2 (by simp at hm ⊢; omega)
        rw [hk16.block k (by omega) hk1 ⟨_, List.mem_cons_self, Nat.zero_le _, h1⟩, hb15.block k (by omega), hk14.block k h1 hk1 ⟨_, List.mem_cons_self, Nat.zero_le _, h1⟩]) (by simp; exact ⟨by omega, by omega, hsa⟩)
      have L16 : Lies [] w14.heap.size w15.heap.size w16 aa (ints l) := ((L15.push (m := m1) (.inl (by omega))).kin hk16 ⟨_, List.mem_cons_of_mem _ List.mem_cons_self, Nat.le_refl _, Nat.le_refl _⟩).sub (by simp)
      obtain ⟨a0, c0, hh0, _⟩ := P16.2.ex
      refine obj_store (cs := [I sea.goal, .slice a0 sea.steps.length c0, I sea.minutes, .bool sea.found]) (vs := [.slice aa l.length cc]) hh0 (by kernel_rfl) (by kernel_rfl) (by simp) rfl (by simp; trivial) fun w17 hh17 c17 => ⟨c17.own (fun y hy => ⟨by simp at hy; omega, by simp at hy ⊢; omega⟩) (by simp) (by simp), fun w18 hk18 => ?_⟩
      have q17 := c17.size; have q18 := hk18.size
      have hh18 : w18.heap[sb]? = some (.cells [I sea.goal, .slice aa l.length cc, I sea.minutes, .bool sea.found].toArray 181 (0, 0)) := by rw [hk18.chg.keep sb (by omega) (by simp; omega), hh17]; rfl
      refine obj_store (vs := [I (homeF r wn st).1.minutes]) hh18 (by kernel_rfl) (by kernel_rfl) (by simp) rfl (by simp; trivial) fun w19 hh19 c19 => ⟨c19.own (fun y hy => ⟨by simp at hy; omega, by simp at hy ⊢; omega⟩) (by simp) (by simp), fun w20 hk20 => ?_⟩
      have q19 := c19.size; have q20 := hk20.size
      have hh20 : w20.heap[sb]? = some (.cells [I sea.goal, .slice aa l.length cc, I (homeF r wn st).1.minutes, .bool sea.found].toArray 181 (0, 0)) := by rw [hk20.chg.keep sb (by omega) (by simp; omega), hh19]; rfl
      refine obj_store (vs := [.bool true]) hh20 (by kernel_rfl) (by kernel_rfl) (by simp) rfl (by simp; trivial) fun w21 hh21 c21 => ⟨c21.own (fun y hy => ⟨by simp at hy; omega, by simp at hy ⊢; omega⟩) (by simp) (by simp), fun w22 hk22 => ?_⟩
      have q21 := c21.size; have q22 := hk22.size
      have call : Chg [sb, m1] w16 w22 := ((((c17.mono (T := [sb, m1]) (by simp)).trans (hk18.chg.mono (by simp))).trans (c19.mono (by simp))).trans (hk20.chg.mono (by simp))).trans ((c21.mono (by simp)).trans ((Chg.kept hk22).mono (by simp)))
      have hh22 : w22.heap[sb]? = some (.cells #[I sea.goal, .slice aa l.length cc, I (homeF r wn st).1.minutes, .bool true] 181 (0, 0)) := by rw [(Chg.kept hk22).keep sb (by omega) (by simp; omega), hh21]; rfl
      have e1 : recF r wn sea st l = ⟨sea.goal, l, (homeF r wn st).1.minutes, true⟩ := by
        unfold recF
        rw [if_pos HC]
      refine ⟨(P16.1.trans (call.mono (by simp))).mono fun y hy => by simp at hy ⊢; omega, ?_⟩
      rw [e1]
      refine ⟨_, _, hh22, ?_⟩
      refine (lies_push (bs := sb :: ([m1] ++ av)) (L16.out call (by simp; omega)) fun y hy => ?_).to (Nat.zero_le _) (by omega)
      have hy' : y = sb ∨ y = m1 ∨ y ∈ av := by simpa using hy
      rcases hy' with rfl | rfl | hy'
      · exact .inl (by omega)
      · exact .inl (by omega)
      · have := hav y hy'; exact .inl (by omega)
    · have HC : st.wound = sea.goal ∧ (homeF r wn st).2 = 0 ∧ (sea.found = false ∨ (homeF r wn st).1.minutes < sea.minutes) := ⟨hw, hz, .inr hlt⟩
      have q26 := hk26.size
      have P26 := P12.step hk26.chg (fun y hy => .inl (by simp at hy ⊢; omega)) (by simp; omega) hsa
      refine (clone_any (lst _ P26.1 (by simp; omega)).cells (by omega) hnil).mono fun e w27 he => ?_
      obtain ⟨aa, cc, rfl, hb27, L27⟩ := he
      have q27 := hb27.size
      refine ⟨_, _, _, rfl, hb27, _, cell_obj h12 rfl, .inr (by omega), fun w28 hk28 => ?_⟩
      have q28 := hk28.size
      have P28 : Sit w sb av [m5, m1] sea w28 := P12.same (W' := w28) (hk28.os.trans (hb27.os.trans hk26.os)) (hk28.tape.trans (hb27.tape.trans hk26.tape)) (hk28.output.trans (hb27.output.trans hk26.output)) (by omega) (fun k h1 h2 => by
        have hk1 : k ∉ [m1] := fun hm => h2 (by simp at hm ⊢; omega)
        rw [hk28.block k (by omega) hk1 ⟨_, List.mem_cons_self, Nat.zero_le _, h1⟩, hb27.block k (by omega), hk26.block k h1 hk1 ⟨_, List.mem_cons_self, Nat.zero_le _, h1⟩]) (by simp; exact ⟨by omega, by omega, hsa⟩)
      have L28 : Lies [] w26.heap.size w27.heap.size w28 aa (ints l) := ((L27.push (m := m1) (.inl (by omega))).kin hk28 ⟨_, List.mem_cons_of_mem _ List.mem_cons_self, Nat.le_refl _, Nat.le_refl _⟩).sub (by simp)
      obtain ⟨a0, c0, hh0, _⟩ := P28.2.ex
      refine obj_store (cs := [I sea.goal, .slice a0 sea.steps.length c0, I sea.minutes, .bool sea.found]) (vs := [.slice aa l.length cc]) hh0 (by kernel_rfl) (by kernel_rfl) (by simp) rfl (by simp; trivial) fun w29 hh29 c29 => ⟨c29.own (fun y hy => ⟨by simp at hy; omega, by simp at hy ⊢; omega⟩) (by simp) (by simp), fun w30 hk30 => ?_⟩
      have q29 := c29.size; have q30 := hk30.size
      have hh30 : w30.heap[sb]? = some (.cells [I sea.goal, .slice aa l.length cc, I sea.minutes, .bool sea.found].toArray 181 (0, 0)) := by rw [hk30.chg.keep sb (by omega) (by simp; omega), hh29]; rfl
      refine obj_store (vs := [I (homeF r wn st).1.minutes]) hh30 (by kernel_rfl) (by kernel_rfl) (by simp) rfl (by simp; trivial) fun w31 hh31 c31 => ⟨c31.own (fun y hy => ⟨by simp at hy; omega, by simp at hy ⊢; omega⟩) (by simp) (by simp), fun w32 hk32 => ?_⟩
      have q31 := c31.size; have q32 := hk32.size
      have hh32 : w32.heap[sb]? = some (.cells [I sea.goal, .slice aa l.length cc, I (homeF r wn st).1.minutes, .bool sea.found].toArray 181 (0, 0)) := by rw [hk32.chg.keep sb (by omega) (by simp; omega), hh31]; rfl
      refine obj_store (vs := [.bool true]) hh32 (by kernel_rfl) (by kernel_rfl) (by simp) rfl (by simp; trivial) fun w33 hh33 c33 => ⟨c33.own (fun y hy => ⟨by simp at hy; omega, by simp at hy ⊢; omega⟩) (by simp) (by simp), fun w34 hk34 => ?_⟩
      have q33 := c33.size; have q34 := hk34.size
      have call : Chg [sb, m1] w28 w34 := ((((c29.mono (T := [sb, m1]) (by simp)).trans (hk30.chg.mono (by simp))).trans (c31.mono (by simp))).trans (hk32.chg.mono (by simp))).trans ((c33.mono (by simp)).trans ((Chg.kept hk34).mono (by simp)))
      have hh34 : w34.heap[sb]? = some (.cells #[I sea.goal, .slice aa l.length cc, I (homeF r wn st).1.minutes, .bool true] 181 (0, 0)) := by rw [(Chg.kept hk34).keep sb (by omega) (by simp; omega), hh33]; rfl
      have e1 : recF r wn sea st l = ⟨sea.goal, l, (homeF r wn st).1.minutes, true⟩ := by
        unfold recF
        rw [if_pos HC]
      refine ⟨(P28.1.trans (call.mono (by simp))).mono fun y hy => by simp at hy ⊢; omega, ?_⟩
      rw [e1]
      refine ⟨_, _, hh34, ?_⟩
      refine (lies_push (bs := sb :: ([m1] ++ av)) (L28.out call (by simp; omega)) fun y hy => ?_).to (Nat.zero_le _) (by omega)
      have hy' : y = sb ∨ y = m1 ∨ y ∈ av := by simpa using hy
      rcases hy' with rfl | rfl | hy'
      · exact .inl (by omega)
      · exact .inl (by omega)
      · have := hav y hy'; exact .inl (by omega)
    · have e1 : recF r wn sea st l = sea := by
        unfold recF
        rw [if_neg]
        rintro ⟨_, _, h | h⟩
        · rw [h] at hf; cases hf
        · have hge : sea.minutes ≤ (homeF r wn st).1.minutes := hge
          omega
      show Sit w sb av [m1] (recF r wn sea st l) w35
      rw [e1]
      exact (P12.step (Chg.kept hk35) (fun y hy => .inl (by simp at hy ⊢; omega)) (by simp; omega) hsa).pop (by omega)
    · have e1 : recF r wn sea st l = sea := by
        unfold recF
        rw [if_neg]
        rintro ⟨_, h, _⟩
        exact hz h
      show Sit w sb av [m1] (recF r wn sea st l) w39
      rw [e1]
      exact (P12.step (Chg.kept hk39) (fun y hy => .inl (by simp at hy ⊢; omega)) (by simp; omega) hsa).pop (by omega)
  · have e1 : recF r wn sea st l = sea := by
      unfold recF
      rw [if_neg]
      rintro ⟨h, _⟩
      exact hw h
    show Sit w sb av [m1] (recF r wn sea st l) w42
    rw [e1]
    exact kst S4 hk42
  intro w43 S43
  generalize recF r wn sea st l = sea1 at S43 ht
  clear S4 Z1 Z0 hh0 hh4
  refine ⟨fun ls W => match ls with | [.bool t] => t = restedF l ∧ Sit w sb av [m1] sea1 W | _ => False, ⟨fun hp => ?_, fun hp w46 hk46 => ⟨by unfold restedF; rw [if_neg (by omega)], kst S43 hk46⟩⟩, ?_⟩
  · have hp : 0 < l.length := by omega
    obtain ⟨b1, o1, e1, ⟨_, _, lb⟩, hv⟩ := lst _ S43.1 (by simp; omega) (l.length - 1) _ (ints_get (getElem_of_lt (show l.length - 1 < l.length by omega)))
    refine ⟨by omega, b1, o1, e1, by omega, _, cell_at' hv (by omega), .inl lb, fun w45 hk45 => ⟨?_, kst S43 hk45⟩⟩
    unfold restedF
    rw [if_pos hp]
    simp [List.getD_eq_getElem?_getD, getElem_of_lt (show l.length - 1 < l.length by omega)]
  rintro t4 w47 ⟨rfl, S47⟩
  refine ⟨fun ls W => match ls with | [.int _ x] => (-1 ≤ x ∧ x ≤ r.T.length) ∧ ∃ s, loopF (fun s n => if skipF s.goal st.wound (restedF l) n = true then some s else if (stepF r wn st n).2 = 0 then tryF r wn k s (stepF r wn st n).1 (l ++ [n]) else some s) ((r.T.length : Int) - x).toNat x s = some sea' ∧ Sit w sb av [m1] s W | _ => False, fun ls => match ls with | [.int _ x] => ((r.T.length : Int) - x).toNat | _ => 0, fun w49 hk49 => ⟨by omega, sea1, ?_, kst S47 hk49⟩, ?_⟩
  · rw [show ((r.T.length : Int) - (-1)).toNat = r.T.length + 1 by omega]; exact ht
  clear S43 S47 ht
  rintro x w50 ⟨hx, s, hs, S50⟩
  refine ⟨fun hlt => ?_, fun hge w86 hk86 => ?_⟩
  rotate_left
  · rw [show ((r.T.length : Int) - x).toNat = 0 by omega] at hs
    simp only [loopF, Option.some.injEq] at hs
    subst hs
    exact fin (kst S50 hk86)
  rw [show ((r.T.length : Int) - x).toNat = ((r.T.length : Int) - (x + 1)).toNat + 1 by omega] at hs
  simp only [loopF] at hs
  obtain ⟨s2, hb, hs⟩ := Option.bind_eq_some_iff.1 hs
  obtain ⟨a50, c50, hh50, _⟩ := S50.2.ex
  have q50 := S50.1.size
  refine ⟨fun _ W => Sit w sb av [m1] s2 W, ⟨fun ls W => match ls with | [.bool t] => t = skipF s.goal st.wound (restedF l) x ∧ Sit w sb av [m1] s W | _ => False, ⟨fun hx1 => ⟨fun h4 w53 hk53 => ⟨?_, kst S50 hk53⟩, fun h4 => ⟨fun h => absurd hx1 h, fun _ w60 hk60 => ⟨?_, kst S50 hk60⟩⟩⟩, fun hx1 => ⟨fun _ => ⟨s.goal, cell_obj (vs := [_, _, _, _]) hh50 rfl, .inl hsb, fun w61 hk61 => ?_⟩, fun h => absurd h hx1⟩⟩, ?_⟩, fun w84 S84 => ⟨by omega, fun w85 hk85 => ⟨⟨by omega, s2, hs, kst S84 hk85⟩, ?_⟩⟩⟩
  · unfold skipF; rw [if_pos hx1, h4]
  · unfold skipF; rw [if_pos hx1, h4]
  · refine Pure.calls (has_any (by omega)) fun w62 hd62 => ⟨_, rfl, .all hd62, fun h5 w63 hk63 => ⟨?_, ?_⟩, fun h5 w64 hk64 => ?_⟩
    · have h5 : hasF s.goal x = false := by simpa using h5
      unfold skipF; rw [if_neg hx1, if_pos h5]
    · exact kst ((kst S50 hk61).step (S := []) (Chg.of_below hd62) (by simp) (by simp; omega) hsa) hk63
    · have h5 : hasF s.goal x = true := by simpa using h5
      have S64 := kst ((kst S50 hk61).step (S := []) (Chg.of_below hd62) (by simp) (by simp; omega) hsa) hk64
      refine Pure.calls (has_any (by omega)) fun w65 hd65 => ⟨_, rfl, .all hd65, fun w66 hk66 _ => ⟨?_, kst (S64.step (S := []) (Chg.of_below hd65) (by simp) (by simp; omega) hsa) hk66⟩⟩
      unfold skipF; rw [if_neg hx1, if_neg (by simp [h5])]
  · rintro t9 w68 ⟨rfl, S68⟩
    refine ⟨fun h9 w69 hk69 => ?_, fun h9 w70 hk70 m26 w71 e26 e71 w72 hk72 => ?_⟩
    · rw [if_pos h9] at hb
      cases hb
      exact kst S68 hk69
    rw [if_neg (by simp [h9])] at hb
    have q68 := S68.1.size; have q70 := hk70.size; have q72 := hk72.size
    have q71 : w71.heap.size = w70.heap.size + 1 := by rw [e71, alloc_size]
    have om1 := hk70.own m1 (by simp)
    have P70 : Sit w sb av [m26, m1] s w70 := (kst S68 hk70).push (by omega)
    have hb71 : Below w70.heap.size w70 w71 := by rw [e71]; exact (Below.refl _ w70).alloc (Nat.le_refl _) _
    have P71 := P70.step (S := []) (Chg.of_below hb71) (by simp) (by simp; omega) hsa
    have P72 := P71.step (Chg.kept hk72) (fun y hy => .inl (by simp at hy ⊢; omega)) (by simp; omega) hsa
    have h71 : w71.heap[m26]? = some (.cells #[.slice none 0 0, .slice none 0 0, .slice none 0 0, I 0, I 0, .int .u16 0, I 0, I 0, I 0, I 0, I 0, I 0, I 0, I 0] 173 (0, 0)) := by rw [e71, e26]; exact World.alloc_heap_new w70 _
    have h72 : w72.heap[m26]? = some (.cells [.slice none 0 0, .slice none 0 0, .slice none 0 0, I 0, I 0, .int .u16 0, I 0, I 0, I 0, I 0, I 0, I 0, I 0, I 0].toArray 173 (0, 0)) := by rw [hk72.block m26 (by omega) (by simp; omega), h71]
    clear e71 h71
    refine obj_store (vs := wkC r A wn st) h72 (by kernel_rfl) (by kernel_rfl) (by simp) rfl (by simp; trivial) fun w73 hh73 c73 => ⟨c73.own (fun y hy => ⟨hk72.own y hy, by simp at hy ⊢; omega⟩) (by simp) (by simp), fun w74 hk74 => ?_⟩
    have h73 : WkIn m26 r A wn st w73 := by unfold WkIn; rw [hh73]; rfl
    have h74 := h73.out (Chg.kept hk74) (by simp; omega)
    have q73 := c73.size; have q74 := hk74.size
    have P73 := P72.step c73 (fun y hy => .inl (by simp at hy ⊢; omega)) (by simp; omega) hsa
    have P74 := P73.step (Chg.kept hk74) (fun y hy => .inl (by simp at hy ⊢; omega)) (by simp; omega) hsa
    refine (step_any (n := x) h74 hB' hR hO (bel _ P74.1 (by simp; omega)) (by omega)).mono fun e w75 he => ?_
    obtain ⟨rfl, c75, h75⟩ := he
    have q75 := c75.size
    have P75 := P74.step c75 (fun y hy => .inl (by simp at hy ⊢; omega)) (by simp; omega) hsa
    refine ⟨_, rfl, c75.own (fun y hy => ⟨by simp at hy; omega, by simp at hy ⊢; omega⟩) (by simp) (by simp), fun hz w76 hk76 => ?_, fun hz w83 hk83 => ?_⟩
    rotate_left
    · rw [if_neg hz] at hb
      cases hb
      exact (P75.step (Chg.kept hk83) (fun y hy => .inl (by simp at hy ⊢; omega)) (by simp; omega) hsa).pop (by omega)
    rw [if_pos hz] at hb
    have q76 := hk76.size
    refine (clip_any (a := la) hlc).mono fun e w77 he => ?_
    obtain ⟨rfl, hb77⟩ := he
    have q77 := hb77.size
    refine ⟨_, _, _, rfl, hb77, fun m31 g31 g31' w78 hk78 hc78 => ?_⟩
    have q78 := hk78.size
    have om31 := hk78.own m31 (by simp)
    have P78 : Sit w sb av [m31, m26, m1] s w78 := (P75.push (m := m31) g31).same (hk78.os.trans (hb77.os.trans hk76.os)) (hk78.tape.trans (hb77.tape.trans hk76.tape)) (hk78.output.trans (hb77.output.trans hk76.output)) (by omega) (fun j h1 h2 => by
      have hj1 : j ∉ [m31, m1] := fun hm => h2 (by simp at hm ⊢; omega)
      have hj2 : j ∉ [m1] := fun hm => h2 (by simp at hm ⊢; omega)
      rw [hk78.block j (by omega) hj1 ⟨_, List.mem_cons_self, Nat.zero_le _, h1⟩, hb77.block j (by omega), hk76.block j h1 hj2 ⟨_, List.mem_cons_self, Nat.zero_le _, h1⟩]) (by simp; exact ⟨by omega, by omega, by omega, hsa⟩)
    refine append_clip (lst _ P78.1 (by simp; omega)).cells (by omega) (fun h => (hnil h).1) hc78 fun a79 c79 w79 hb79 L79 hc79 => ?_
    have q79 := hb79.size
    refine ⟨_, _, _, rfl, hb79, _, _, _, _, _, _, _, _, _, _, _, _, _, _, _, _, _, _, _, _, cell_obj h75 rfl, cell_obj h75 rfl, cell_obj h75 rfl, cell_obj h75 rfl, cell_obj h75 rfl, cell_obj h75 rfl, cell_obj h75 rfl, cell_obj h75 rfl, cell_obj h75 rfl, cell_obj h75 rfl, cell_obj h75 rfl, cell_obj h75 rfl, cell_obj h75 rfl, cell_obj h75 rfl, .inr (by omega), fun w80 hk80 => ?_⟩
    have q80 := hk80.size
    have P80 : Sit w sb av [m31, m26, m1] s w80 := (P75.push (m := m31) g31).same (hk80.os.trans (hb79.os.trans (hk78.os.trans (hb77.os.trans hk76.os)))) (hk80.tape.trans (hb79.tape.trans (hk78.tape.trans (hb77.tape.trans hk76.tape)))) (hk80.output.trans (hb79.output.trans (hk78.output.trans (hb77.output.trans hk76.output)))) (by omega) (fun j h1 h2 => by
      have hj1 : j ∉ [m31, m1] := fun hm => h2 (by simp at hm ⊢; omega)
      have hj2 : j ∉ [m1] := fun hm => h2 (by simp at hm ⊢; omega)
      rw [hk80.block j (by omega) hj1 ⟨_, List.mem_cons_self, Nat.zero_le _, h1⟩, hb79.block j (by omega), hk78.block j (by omega) hj1 ⟨_, List.mem_cons_self, Nat.zero_le _, h1⟩, hb77.block j (by omega), hk76.block j h1 hj2 ⟨_, List.mem_cons_self, Nat.zero_le _, h1⟩]) (by simp; exact ⟨by omega, by omega, by omega, hsa⟩)
    have L80 : Lies [sb] 0 w80.heap.size w80 a79 (ints (l ++ [x])) := (((L79.push (m := m1) (.inl (by omega))).push (m := m31) (.inl (by omega))).kin hk80 ⟨_, List.mem_cons_of_mem _ List.mem_cons_self, Nat.le_refl _, Nat.le_refl _⟩).sub (cs := []) (by simp) |> fun h => (lies_push (bs := [sb]) h (by simp; omega)).to (Nat.zero_le _) q80
    have P80' : Sit w sb av [m31, m1] s w80 := ⟨P80.1.mono fun y hy => by simp at hy ⊢; omega, P80.2.sub (fun y hy => by simp at hy ⊢; rcases hy with h | h | h <;> simp [h])⟩
    have key := ih s (stepF r wn st x).1 (l ++ [x]) s2 a79 c79 ([m31, m1] ++ av) w80 hb (by simp; omega) (bel _ P80'.1 (by simp; omega)) P80'.2 (fun y hy => by
      have hy' : y = m31 ∨ y = m1 ∨ y ∈ av := by simpa using hy
      rcases hy' with rfl | rfl | hy'
      · omega
      · omega
      · have := hav y hy'; omega) (by simp; exact ⟨by omega, by omega, hsa⟩) L80 (by simpa using hc79) (by simp)
    rw [List.length_append] at key
    refine key.mono fun e w81 he => ?_
    obtain ⟨rfl, c81, h81⟩ := he
    refine ⟨rfl, c81.own (fun y hy => ⟨by simp at hy; omega, by simp at hy ⊢; omega⟩) (by simp) (by simp), fun w82 hk82 _ => ?_⟩
    have P81 : Sit w sb av [m31, m1] s2 w81 := ⟨P80'.1.trans (c81.mono (by simp)), h81⟩
    exact (P81.step (Chg.kept hk82) (fun y hy => .inl hy) (by simp; omega) hsa).pop (by omega)
  · show ((r.T.length : Int) - (x + 1)).toNat < ((r.T.length : Int) - x).toNat
    omega
end Go.Proofs.RT
end
section
/- Walks and the example calls of round. -/
namespace Go.Proofs.RT
open Go.Vc Go.RowKit Go.Proofs
abbrev startSt (r : Ru) : St := ⟨r.T.length, 0, 0, 0, 0⟩
section
variable {w : World} {r : Ru} {ra wa va : Option Addr} {rc wc vc : Nat} {S : List Sl}
theorem isNumber_any {n : Int} (hr : RuOk r) : Calls Tryz.prog 72 #[ruV r ra rc wa wc va vc, I n] w (Pure w (.bool (decide (0 ≤ n ∧ n ≤ (r.V.length : Int) - 1)))) := by
  have := hr.v
  exact vc72 _ _ _ _ _ _ _ _ _ _ _ _ w _ fun m1 _ => ⟨by omega, fun m2 _ w1 _ _ hc1 => Pure.calls (inR_any hc1) fun w2 hd2 => ⟨_, rfl, .all hd2, fun w3 hb3 _ => ⟨rfl, hb3⟩⟩⟩
theorem start_any {n : Nat} (h : RuIn r ra wa va S w) (hn : n < r.V.length) : Calls Tryz.prog 73 #[ruV r ra rc wa wc va vc, I n] w (Pure w (.agg (wkC r ⟨ra, rc, wa, wc, va, vc⟩ r.V[n] (startSt r)).toArray)) := by
  obtain ⟨b, o, e, lb, hv⟩ := flat_at (k := 4) (fun _ => rfl) (by omega) h.v hn
  refine vc73 _ _ _ _ _ _ _ _ _ _ _ _ w _ fun m1 _ m2 _ w1 _ _ => Pure.calls works_any fun w2 hd2 => ⟨_, rfl, hd2, b, o, e, by omega, _, _, _, _, cell_at' (hv 0 _ rfl) (by omega), cell_at' (hv 1 _ rfl) (by omega), cell_at' (hv 2 _ rfl) (by omega), cell_at' (hv 3 _ rfl) (by omega), .inl lb, fun w3 hb3 _ => ⟨rfl, hb3⟩⟩
def stK (r : Ru) (wn : Wn) (l : List Int) (k : Nat) : St := (l.take k).foldl (fun s n => (stepF r wn s n).1) (startSt r)
theorem stK_step {wn : Wn} {l : List Int} {k : Nat} (h : k < l.length) : stK r wn l (k + 1) = (stepF r wn (stK r wn l k) l[k]).1 := by
  unfold stK
  rw [List.take_add_one, getElem_of_lt h, Option.toList, List.foldl_append]
  rfl
set_option maxRecDepth 100000 in
set_option maxHeartbeats 1000000 in
theorem Walk_ok {n : Nat} {l : List Int} {la : Option Addr} {lc : Nat} (h : RuIn r ra wa va S w) (hr : RuOk r) (hn : n < r.V.length) (hL : Cells w la (ints l)) (hl : l.length ≤ 40)
    (hst : ∀ k, (hk : k < l.length) → (stepF r r.V[n] (stK r r.V[n] l k) l[k]).2 = 0) (hB : ∀ k, k ≤ l.length → StB r (stK r r.V[n] l k)) (hh : (homeF r r.V[n] (stK r r.V[n] l l.length)).2 = 0)
    (hm : 0 ≤ (homeF r r.V[n] (stK r r.V[n] l l.length)).1.minutes * r.wage ∧ (homeF r r.V[n] (stK r r.V[n] l l.length)).1.minutes * r.wage ≤ 9223372036854775807) :
    Calls Tryz.prog 33 #[ruV r ra rc wa wc va vc, .agg #[I n, .slice la l.length lc]] w (Pure w (.tuple #[I (homeF r r.V[n] (stK r r.V[n] l l.length)).1.minutes, I ((homeF r r.V[n] (stK r r.V[n] l l.length)).1.minutes * r.wage), I 0, I 0])) := by
  refine vc33 _ _ _ _ _ _ _ _ _ _ _ _ _ _ _ w _ fun m1 g1 m2 g2 w1 hb1 hk1 => ?_
  have o1 := hk1.own m1 (by simp); have o2 := hk1.own m2 (by simp)
  refine Pure.calls (Check_ok (h.keep hb1) hr) fun w2 hd2 => ⟨_, rfl, .all hd2, fun h => absurd rfl h, fun _ w4 hb4 hk4 => ?_⟩
  refine Pure.calls (isNumber_any hr) fun w5 hd5 => ⟨_, rfl, .all hd5, fun h => ?_, fun _ => ⟨fun h => by omega, fun _ w8 hb8 hk8 => ?_⟩⟩
  · rw [decide_eq_true (show (0 : Int) ≤ n ∧ (n : Int) ≤ (r.V.length : Int) - 1 by omega)] at h; cases h
  refine Pure.calls (start_any (h.keep hb8) hn) fun w9 hd9 => ⟨_, _, _, _, _, _, _, _, _, _, _, _, _, _, _, _, _, _, _, _, rfl, .all hd9, fun w10 hb10 hk10 m12 w11 e12 e11 w12 hb12 hk12 => ?_⟩
  have q1 := hb1.size; have q10 := hb10.size; have q12 := hk12.size
  have q11 : w11.heap.size = w10.heap.size + 1 := by rw [e11, alloc_size]
  have h11 : w11.heap[m12]? = some (.cells #[.slice none 0 0, .slice none 0 0, .slice none 0 0, I 0, I 0, .int .u16 0, I 0, I 0, I 0, I 0, I 0, I 0, I 0, I 0] 173 (0, 0)) := by rw [e11, e12]; exact World.alloc_heap_new w10 _
  have p2 := hd2.size; have p4 := hk4.size; have p5 := hd5.size; have p8 := hk8.size; have p9 := hd9.size; have p10 := hk10.size
  have h12 : w12.heap[m12]? = some (.cells [.slice none 0 0, .slice none 0 0, .slice none 0 0, I 0, I 0, .int .u16 0, I 0, I 0, I 0, I 0, I 0, I 0, I 0, I 0].toArray 173 (0, 0)) := by rw [hk12.block m12 (by omega) (by simp; omega), h11]
  clear e11 h11
  refine obj_store (vs := wkC r ⟨ra, rc, wa, wc, va, vc⟩ r.V[n] (startSt r)) h12 (by kernel_rfl) (by kernel_rfl) (by simp) rfl (by simp; trivial) fun w13 hh13 c13 => ?_
  have K13 : WkIn m12 r ⟨ra, rc, wa, wc, va, vc⟩ r.V[n] (startSt r) w13 := by unfold WkIn; rw [hh13]; rfl
  refine ⟨c13.own (fun y hy => ⟨hk12.own y hy, by simp at hy ⊢; omega⟩) (by simp) (fun _ => ⟨by omega, by simp; omega⟩), fun ls w' => match ls with | [_, _, _, _, .int _ x] => (0 ≤ x ∧ x ≤ l.length) ∧ WkIn m12 r ⟨ra, rc, wa, wc, va, vc⟩ r.V[n] (stK r r.V[n] l x.toNat) w' | _ => False, fun ls => match ls with | [_, _, _, _, .int _ x] => (l.length - x).toNat | _ => 0, fun w15 hb15 hk15 => ⟨by omega, K13.out (Chg.kept hk15) (by simp; omega)⟩, ?_⟩
  rintro x13 x14 x15 x16 x w16 hb16 ⟨hx, K16⟩
  refine ⟨fun hlt => ?_, fun hge w21 hb21 hk21 => ?_⟩
  · have hi : x.toNat < l.length := by omega
    obtain ⟨b1, o1', e1, hv⟩ := hL x.toNat _ (ints_get (getElem_of_lt hi))
    refine ⟨b1, o1', e1, by omega, _, cell_at' (cell_keep hb16 hv) (by omega), .inl (cell_lt hv), fun w17 hb17 hk17 => ?_⟩
    have K17 := K16.out (Chg.kept hk17) (by simp; omega)
    refine (step_any (n := l[x.toNat]) (S := S) (w0 := w) K17 (hB _ (by omega)) h hr hb17 (by omega)).mono fun e w18 he => ?_
    obtain ⟨rfl, c18, K18⟩ := he
    have q17 := hb17.size
    have l17 := lt_of_some K17
    refine ⟨_, rfl, c18.own (fun y hy => ⟨hk17.own y hy, by simp at hy ⊢; omega⟩) (by simp) (fun _ => ⟨by omega, by simp; omega⟩), fun hne => absurd (hst _ hi) hne, fun _ => ⟨by omega, fun w20 hb20 hk20 => ⟨⟨by omega, ?_⟩, ?_⟩⟩⟩
    · rw [show (x + 1).toNat = x.toNat + 1 by omega, stK_step hi]
      exact K18.out (Chg.kept hk20) (by simp; omega)
    · show (l.length - (x + 1)).toNat < (l.length - x).toNat
      omega
  · have e : x.toNat = l.length := by omega
    rw [e] at K16
    have K21 := K16.out (Chg.kept hk21) (by simp; omega)
    refine (home_any (S := S) (w0 := w) K21 (hB _ (Nat.le_refl _)) h hr hb21 (by omega)).mono fun e w22 he => ?_
    obtain ⟨rfl, c22, K22⟩ := he
    have q21 := hb21.size
    have l21 := lt_of_some K21
    refine ⟨_, rfl, c22.own (fun y hy => ⟨hk21.own y hy, by simp at hy ⊢; omega⟩) (by simp) (fun _ => ⟨by omega, by simp; omega⟩), fun hne => absurd hh hne, fun _ => ⟨_, cell_obj K22 rfl, .inr (by omega), _, cell_obj K22 rfl, .inr (by omega), by omega, fun w24 hb24 _ => ⟨rfl, hb24⟩⟩⟩
theorem checkTowers_one {t : Int} {la : Option Addr} {lc : Nat} (hL : Cells w la (ints [t])) (hr : RuOk r) (ht : 0 ≤ t ∧ t < r.T.length) (h0 : hasF 0 t = false) : Calls Tryz.prog 76 #[ruV r ra rc wa wc va vc, .slice la 1 lc] w (Pure w (.tuple #[I (withF 0 t), I 0])) := by
  have hT := hr.t
  refine vc76 _ _ _ _ _ _ _ _ _ _ _ _ _ _ w _ fun m1 _ => ⟨fun h => by omega, fun _ => ⟨by omega, fun w2 hb2 _ => ?_⟩⟩
  refine Pure.calls (withinR_any (l := [t]) (hL.keep hb2) (by simp)) fun w3 hd3 => ⟨_, rfl, .all hd3, fun h => ?_, fun _ => ?_⟩
  · rw [List.all_eq_true.2 fun y hy => by rw [List.mem_singleton.1 hy]; exact decide_eq_true (by omega)] at h; cases h
  refine ⟨fun ls _ => match ls with | [.int _ s, _, .int _ x] => (x = 0 ∧ s = 0) ∨ (x = 1 ∧ s = withF 0 t) | _ => False, fun ls => match ls with | [_, _, .int _ x] => (1 - x).toNat | _ => 0, fun w6 _ _ => .inl ⟨rfl, rfl⟩, ?_⟩
  rintro x1 x2 x3 w7 hb7 hI
  refine ⟨fun hlt => ?_, fun hge w14 hb14 _ => ?_⟩
  · rcases hI with ⟨rfl, rfl⟩ | ⟨rfl, _⟩
    rotate_left
    · simp at hlt
    obtain ⟨b1, o1, e1, hv⟩ := hL 0 _ rfl
    refine ⟨b1, o1, e1, by decide, t, cell_at' (cell_keep hb7 hv) (by simp), .inl (cell_lt hv), fun w8 hb8 _ => ?_⟩
    refine Pure.calls (has_any ht.1) fun w9 hd9 => ⟨_, rfl, .all hd9, fun h => ?_, fun _ w11 hb11 _ => ?_⟩
    · rw [h0] at h; cases h
    refine Pure.calls (with_any ht.1) fun w12 hd12 => ⟨_, rfl, .all hd12, by omega, fun w13 _ _ => ⟨.inr ⟨rfl, rfl⟩, by show (1 - ((0 : Int) + 1)).toNat < (1 - (0 : Int)).toNat; decide⟩⟩
  · rcases hI with ⟨rfl, _⟩ | ⟨rfl, rfl⟩
    · simp at hge
    exact ⟨rfl, hb14⟩
set_option maxRecDepth 100000 in
set_option maxHeartbeats 1000000 in
theorem Best_ok {n : Nat} {t : Int} {la : Option Addr} {lc k : Nat} {sea' : Sea} {av : List Nat} (h : RuIn r ra wa va S w) (hr : RuOk r) (hn : n < r.V.length) (hL : Cells w la (ints [t])) (ht : 0 ≤ t ∧ t < r.T.length) (h0 : hasF 0 t = false)
    (htry : tryF r r.V[n] k ⟨withF 0 t, [], 0, false⟩ (startSt r) [] = some sea') (hf : sea'.found = true) (hk : k ≤ 900) (hav : ∀ y ∈ av, y < w.heap.size) :
    Calls Tryz.prog 35 #[ruV r ra rc wa wc va vc, I n, .slice la 1 lc] w fun e w' => ∃ a c, e = .returned (.tuple #[.slice a sea'.steps.length c, I sea'.minutes, I 0]) ∧ Below w.heap.size w w' ∧ Lies av 0 w'.heap.size w' a (ints sea'.steps) := by
  refine vc35 _ _ _ _ _ _ _ _ _ _ _ _ _ _ _ w _ fun m1 g1 w1 hb1 hk1 => ?_
  have o1 := hk1.own m1 (by simp)
  refine Pure.calls (Check_ok (h.keep hb1) hr) fun w2 hd2 => ⟨_, rfl, .all hd2, fun h => absurd rfl h, fun _ w4 hb4 hk4 => ?_⟩
  refine Pure.calls (isNumber_any hr) fun w5 hd5 => ⟨_, rfl, .all hd5, fun h => ?_, fun _ w7 hb7 hk7 => ?_⟩
  · rw [decide_eq_true (show (0 : Int) ≤ n ∧ (n : Int) ≤ (r.V.length : Int) - 1 by omega)] at h; cases h
  refine Pure.calls (checkTowers_one (hL.keep hb7) hr ht h0) fun w8 hd8 => ⟨_, _, rfl, .all hd8, fun h => absurd rfl h, fun _ w10 hb10 hk10 m5 w11 e5 e11 w12 hb12 hk12 => ?_⟩
  have q1 := hb1.size; have p2 := hd2.size; have p4 := hk4.size; have p5 := hd5.size; have p7 := hk7.size; have p8 := hd8.size; have p10 := hk10.size; have p12 := hk12.size
  have q11 : w11.heap.size = w10.heap.size + 1 := by rw [e11, alloc_size]
  have h11 : w11.heap[m5]? = some (.cells #[I (withF 0 t), .slice none 0 0, I 0, .bool false] 181 (0, 0)) := by rw [e11, e5]; exact World.alloc_heap_new w10 _
  clear e11
  have h12 : w12.heap[m5]? = some (.cells #[I (withF 0 t), .slice none 0 0, I 0, .bool false] 181 (0, 0)) := by rw [hk12.block m5 (by omega) (by simp; omega), h11]
  refine Pure.calls (start_any (h.keep hb12) hn) fun w13 hd13 => ⟨_, _, _, _, _, _, _, _, _, _, _, _, _, _, _, _, _, _, _, _, rfl, .all hd13, fun w14 hb14 hk14 => ?_⟩
  have p13 := hd13.size; have p14 := hk14.size
  have h14 : w14.heap[m5]? = some (.cells #[I (withF 0 t), .slice none 0 0, I 0, .bool false] 181 (0, 0)) := by rw [hk14.block m5 (by omega) (by simp; omega), hd13.block m5 (by omega), h12]
  have hS14 : SeaIn m5 (m1 :: av) ⟨withF 0 t, [], 0, false⟩ w14 := ⟨none, 0, h14, fun i v hv => by simp [ints] at hv⟩
  have hav14 : ∀ y ∈ m1 :: av, y < w14.heap.size := fun y hy => by
    rcases List.mem_cons.1 hy with rfl | hy
    · omega
    · have := hav y hy; omega
  have hn5 : m5 ∉ m1 :: av := fun hm => by
    rcases List.mem_cons.1 hm with hm | hm
    · omega
    · have := hav m5 hm; omega
  refine (try_any (A := ⟨ra, rc, wa, wc, va, vc⟩) (w0 := w) (S := S) h hr (by omega) k ⟨withF 0 t, [], 0, false⟩ (startSt r) [] sea' none 0 (m1 :: av) w14 htry (by simpa using hk) hb14 hS14 hav14 hn5 (fun i v hv => by simp [ints] at hv) (Nat.zero_le _) (fun _ => ⟨rfl, rfl⟩)).mono fun e w15 he => ?_
  obtain ⟨rfl, c15, hS15⟩ := he
  obtain ⟨a15, cc15, hh15, L15⟩ := hS15.ex
  have p15 := c15.size
  refine ⟨rfl, c15.own (fun y hy => ⟨hk14.own y hy, by simp at hy ⊢; omega⟩) (by simp) (fun _ => ⟨by omega, by simp; omega⟩), _, cell_obj (vs := [_, _, _, _]) hh15 rfl, .inr (by omega), fun h => ?_, fun _ => ⟨_, _, _, cell_obj (vs := [_, _, _, _]) hh15 rfl, .inr (by omega), _, cell_obj (vs := [_, _, _, _]) hh15 rfl, .inr (by omega), fun w17 hb17 hk17 => ⟨_, _, rfl, hb17, ?_⟩⟩⟩
  · rw [hf] at h; cases h
  · have L17 := (L15.sub (cs := [m1]) (by simp)).chg (Chg.kept hk17)
    have L17' : Lies (m5 :: m1 :: av) 0 w15.heap.size w17 a15 (ints sea'.steps) := fun i v hv => by
      obtain ⟨b, o, e, g, _⟩ := L15 i v hv
      obtain ⟨b', o', e', _, hc'⟩ := L17 i v hv
      rw [e] at e'; cases e'
      exact ⟨b, o, e, g, hc'⟩
    exact (L17'.sub (fun y hy => by simp [hy])).to (Nat.zero_le _) hk17.size
abbrev townR : Ru := ⟨[(10, 20, 1, 5, 8), (5, 15, 2, 3, 2)], [[0, 30, 10], [30, 0, 25], [10, 25, 0]], [(3, 10, 200, 100), (2, 3, 100, 45)], 15, 2⟩
theorem townR_ok : RuOk townR where
  t := by decide
  w := rfl
  v := by decide
  row := fun i hi => by
    have : i = 0 ∨ i = 1 ∨ i = 2 := by simp at hi; omega
    rcases this with rfl | rfl | rfl <;> exact ⟨rfl, by simp, rfl⟩
  tw := fun t ht => by
    have : t = (10, 20, 1, 5, 8) ∨ t = (5, 15, 2, 3, 2) := by simpa using ht
    rcases this with rfl | rfl <;> exact ⟨by decide, by decide, by decide, by decide⟩
  wn := fun t ht => by
    have : t = (3, 10, 200, 100) ∨ t = (2, 3, 100, 45) := by simpa using ht
    rcases this with rfl | rfl <;> exact ⟨by decide, by decide, by decide⟩
  rest := by decide
  wage := by decide
set_option maxRecDepth 100000 in
theorem pubTown_any : Calls Tryz.prog 34 #[] w (PostRu townR w) := by
  refine vc34 w _ fun m1 _ m2 g2 m3 g3 m4 g4 m5 g5 m6 g6 m7 g7 w1 hb1 hk1 h2 h6 h7 h3 h4 h5 => ?_
  have o2 := hk1.own m2 (by simp); have o3 := hk1.own m3 (by simp); have o4 := hk1.own m4 (by simp); have o5 := hk1.own m5 (by simp); have o6 := hk1.own m6 (by simp); have o7 := hk1.own m7 (by simp)
  refine ⟨_, 2, _, 3, _, 2, [(some ⟨m3, 0, none⟩, 3, 3), (some ⟨m4, 0, none⟩, 3, 3), (some ⟨m5, 0, none⟩, 3, 3)], rfl, hb1, fun W hW => ?_⟩
  rw [← hW m2 (by omega) o2] at h2
  rw [← hW m3 (by omega) o3] at h3
  rw [← hW m4 (by omega) o4] at h4
  rw [← hW m5 (by omega) o5] at h5
  rw [← hW m6 (by omega) o6] at h6
  rw [← hW m7 (by omega) o7] at h7
  refine ⟨?_, ?_, rfl, ?_, ?_⟩
  · exact Cells.obj (vs := [I 10, I 20, .int .u16 1, I 5, I 8, I 5, I 15, .int .u16 2, I 3, I 2]) h2
  · exact Cells.obj (vs := [.int .u16 3, I 10, I 200, I 100, .int .u16 2, I 3, I 100, I 45]) h7
  · exact Cells.obj (vs := [_, _, _]) h6
  · intro i hi hi'
    have : i = 0 ∨ i = 1 ∨ i = 2 := by simp at hi; omega
    rcases this with rfl | rfl | rfl
    · exact ⟨rfl, Cells.obj (vs := [I 0, I 30, I 10]) h3⟩
    · exact ⟨rfl, Cells.obj (vs := [I 30, I 0, I 25]) h4⟩
    · exact ⟨rfl, Cells.obj (vs := [I 10, I 25, I 0]) h5⟩
theorem walk_ex0 : (stepF townR (townR.V[0]) (stK townR (townR.V[0]) [0, 1, -1] 0) 0).2 = 0 ∧ (stepF townR (townR.V[0]) (stK townR (townR.V[0]) [0, 1, -1] 1) 1).2 = 0 ∧ (stepF townR (townR.V[0]) (stK townR (townR.V[0]) [0, 1, -1] 2) (-1)).2 = 0 := by decide +kernel
theorem walk_ex : (∀ k, (hk : k < [(0 : Int), 1, -1].length) → (stepF townR (townR.V[0]) (stK townR (townR.V[0]) [0, 1, -1] k) [(0 : Int), 1, -1][k]).2 = 0) := fun k hk => by
  have : k = 0 ∨ k = 1 ∨ k = 2 := by simp at hk; omega
  rcases this with rfl | rfl | rfl
  · exact walk_ex0.1
  · exact walk_ex0.2.1
  · exact walk_ex0.2.2
theorem walk_exB : ∀ k, k ≤ [(0 : Int), 1, -1].length → StB townR (stK townR (townR.V[0]) [0, 1, -1] k) := fun k hk => by
  have key : ∀ k, k ≤ 3 → okSt townR (stK townR (townR.V[0]) [0, 1, -1] k) := fun k hk => by
    have : k = 0 ∨ k = 1 ∨ k = 2 ∨ k = 3 := by omega
    rcases this with rfl | rfl | rfl | rfl <;> decide +kernel
  exact (key k hk).b
theorem walk_exH : (homeF townR (townR.V[0]) (stK townR (townR.V[0]) [0, 1, -1] 3)).2 = 0 ∧ (homeF townR (townR.V[0]) (stK townR (townR.V[0]) [0, 1, -1] 3)).1.minutes = 130 := by decide +kernel
theorem best_ex : tryF townR (townR.V[1]) 5 ⟨withF 0 1, [], 0, false⟩ (startSt townR) [] = some ⟨2, [1, -1], 85, true⟩ := by decide +kernel
set_option maxRecDepth 100000 in
theorem pubRound_any : Calls Tryz.prog 10 #[] w (Pure w (.bool true)) := by
  refine vc10 w _ fun w1 hb1 _ => ?_
  refine pubTown_any.mono fun e w2 he => ?_
  obtain ⟨ra, rc, wa, wc, va, vc, S, rfl, hb2, hR2⟩ := he
  refine ⟨_, _, _, _, _, _, _, _, _, _, _, rfl, .all hb2, fun m8 g8 w3 hb3 hk3 hc3 => ?_⟩
  have hR3 : RuIn townR ra wa va S w3 := hR2 w3 fun k h1 h2 => hk3.block k h2 (by simp; omega)
  have hB := walk_exH
  refine Pure.calls (Walk_ok (n := 0) (l := [0, 1, -1]) (lc := 3) hR3 townR_ok (by decide) (Cells.obj (vs := [I 0, I 1, I (-1)]) hc3) (by decide) walk_ex walk_exB hB.1 (by show 0 ≤ (homeF townR (townR.V[0]) (stK townR (townR.V[0]) [0, 1, -1] 3)).1.minutes * 2 ∧ (homeF townR (townR.V[0]) (stK townR (townR.V[0]) [0, 1, -1] 3)).1.minutes * 2 ≤ _; rw [hB.2]; omega)) fun w4 hd4 => ⟨_, _, _, _, rfl, .all hd4, fun w5 hb5 hk5 => ?_⟩
  refine pubTown_any.mono fun e w6 he => ?_
  obtain ⟨ra', rc', wa', wc', va', vc', S', rfl, hb6, hR6⟩ := he
  refine ⟨_, _, _, _, _, _, _, _, _, _, _, rfl, .all hb6, fun m18 g18 w7 hb7 hk7 hc7 => ?_⟩
  have o8 := hk5.own m8 (by simp)
  have hR7 : RuIn townR ra' wa' va' S' w7 := hR6 w7 fun k h1 h2 => hk7.block k h2 (by simp; omega)
  refine (Best_ok (n := 1) (t := 1) (lc := 1) (k := 5) (sea' := ⟨2, [1, -1], 85, true⟩) (av := [m18, m8]) hR7 townR_ok (by decide) (Cells.obj (vs := [I 1]) hc7) (by decide) (by decide +kernel) best_ex rfl (by omega) (fun y hy => hk7.own y hy)).mono fun e w8 he => ?_
  obtain ⟨a, c, rfl, hb8, L8⟩ := he
  obtain ⟨b, o, rfl, ⟨hn, _, _⟩, hv0⟩ := L8 0 _ rfl
  obtain ⟨b', o', e', _, hv1⟩ := L8 1 _ rfl
  cases e'
  have e130 : (homeF townR (townR.V[0]) (stK townR (townR.V[0]) [0, 1, -1] 3)).1.minutes = 130 := hB.2
  have e130' : (homeF townR (townR.V[0]) (stK townR (townR.V[0]) [0, 1, -1] [(0 : Int), 1, -1].length)).1.minutes = 130 := hB.2
  rw [e130']
  have hn' : b ≠ m18 ∧ b ≠ m8 := by simpa using hn
  refine ⟨_, _, _, _, _, rfl, .all hb8, fun _ => ⟨fun _ => ⟨fun _ => ⟨fun _ => ⟨fun _ => ⟨fun _ => ⟨b, o, rfl, by decide, _, cell_at' hv0 (by simp), .inr hn', fun _ => ⟨b, o, rfl, by decide, _, cell_at' hv1 (by simp), .inr hn', fun w9 hb9 _ => ⟨rfl, hb9⟩⟩, fun h => absurd rfl h⟩, fun h => absurd rfl h⟩, fun h => absurd rfl h⟩, fun h => absurd rfl h⟩, fun h => absurd rfl h⟩, fun h => absurd rfl h⟩, fun h => absurd rfl h⟩
end
end Go.Proofs.RT
end
section
/- The example calls of zone. -/
namespace Go.Proofs.RT
open Go.Vc Go.RowKit Go.Proofs
theorem grd_span (op : BinOp) (x y : Operand) (a0 a1 : Int) (w : World) : (eqGuard op 47 x y (.agg #[I a0, I a1]) (.agg #[I a0, I a1])).run Tryz.prog w = .ok () w := by cases op <;> kernel_rfl
theorem eqr_span (a0 a1 : Int) (w : World) : (Op.equal 47 (.agg #[I a0, I a1]) (.agg #[I a0, I a1])).run Tryz.prog w = .ok true w := by
  have hS : Tryz.prog.underlying 47 = some (.struct (Tryz.prog.fieldsOf 47)) := by kernel_rfl
  show (Op.equalIn (9999 + 1) 47 _ _).run _ _ = _
  have hp : Tryz.prog.stoodInHeld 47 = false := by kernel_rfl
  rw [run_equalIn_agg w 9999 47 _ _ hS hp]
  simp only [Program.fieldsOf, Tryz.underlying47]
  have p0 : (part 3 #[I a0, I a1] 0).run Tryz.prog w = .ok (I a0) w := by kernel_rfl
  have u0 : Tryz.prog.underlying 3 = some (.int .i64) := by kernel_rfl
  have q0 : (Op.equalIn 9999 3 (I a0) (I a0)).run Tryz.prog w = .ok true w := by rw [run_equalIn_int w 9998 3 _ _ _ _ u0]; simp
  have p1 : (part 3 #[I a0, I a1] 1).run Tryz.prog w = .ok (I a1) w := by kernel_rfl
  have u1 : Tryz.prog.underlying 3 = some (.int .i64) := by kernel_rfl
  have q1 : (Op.equalIn 9999 3 (I a1) (I a1)).run Tryz.prog w = .ok true w := by rw [run_equalIn_int w 9998 3 _ _ _ _ u1]; simp
  simp [Op.eqFields, p0, p1, q0, q1, Sem.run_bind, Sem.run_pure]
theorem eql_span {x y : Operand} {a0 a1 : Int} {w : World} {R : Value → World → Prop} (h : R (.bool true) w) : RunsTo Tryz.prog ((eqGuard .eql 47 x y (.agg #[I a0, I a1]) (.agg #[I a0, I a1])) >>= fun _ => binOp .eql 47 (.agg #[I a0, I a1]) (.agg #[I a0, I a1])) w R := by
  refine ⟨_, w, ?_, h⟩
  simp only [Sem.run_bind, grd_span, Result.andThen_ok, binOp, eqr_span, Sem.run_pure]
  try rfl
theorem pubSpan_any (a b : Int) (w : World) : Calls Tryz.prog 12 #[I a, I b] w (Pure w (.agg #[I a, I b])) :=
  vc12 _ _ w _ fun _ _ w1 hb1 _ => ⟨rfl, hb1⟩
end Go.Proofs.RT
end
section
/- Whose day: the plain law. -/
namespace Go.Proofs.RT
open Go.Vc Go.RowKit Go.Proofs
theorem finF_lt {till c : Int} (h : till < c) : finF till c = (-1, 0) := by unfold finF; rw [if_pos h]
theorem finF_ge {till c : Int} (h : c ≤ till) : finF till c = (0, c) := by unfold finF; rw [if_neg (by omega)]
/-- The days. -/
abbrev gapF (g : Int) : Int := 86400 * (2 + g.tmod 6) + 300 * g
def atF : List Int → Int → Int
  | [], a => a
  | g :: l, a => atF l (a + gapF g)
/-- Instants, one after another. -/
def atsF : Int → List Int → List Int
  | _, [] => []
  | a, g :: l => (a + gapF g) :: atsF (a + gapF g) l
end Go.Proofs.RT
end
section
/- The conditions of the functions, printed by program; each is what the generator reckons (kernel_rfl). -/
namespace Go.Proofs
open Go.Vc
end Go.Proofs
end
section
/- Whose day: rows of days. -/
namespace Go.Proofs.RT
open Go.Vc Go.RowKit Go.Proofs
def usedD (a : Option Addr) (ds : List Dy) (b : Nat) : Prop := (ds ≠ [] ∧ ∃ o, a = some ⟨b, o, none⟩) ∨ ∃ d ∈ ds, d.2.1 = some ⟨b, 0, none⟩
structure DaysR (B : Nat) (own : List Nat) (ds : List Dy) (a : Option Addr) (n c : Nat) (W : World) : Prop where
  len : n = ds.length
  row : (ds = [] ∧ (∃ b0, a = some ⟨b0, 0, none⟩) ∧ c = 0) ∨ (ds ≠ [] ∧ Row 34 2 B own a n c (ds.flatMap dayC) W)
  t : ∀ d ∈ ds, ∃ b, d.2.1 = some ⟨b, 0, none⟩ ∧ b ∉ own ∧ W.heap[b]? = some (.cells #[I 0] 3 (0, 0))
section
variable {B : Nat} {own : List Nat} {ds : List Dy} {a : Option Addr} {n c : Nat} {W W' : World}
theorem DaysR.isRow (h : DaysR B own ds a n c W) (hd : ds ≠ []) : Row 34 2 B own a n c (ds.flatMap dayC) W := by
  rcases h.row with ⟨h0, _⟩ | ⟨_, R⟩
  · exact absurd h0 hd
  · exact R
theorem DaysR.lt (h : DaysR B own ds a n c W) {b : Nat} (hu : usedD a ds b) : b < W.heap.size ∧ b ∉ own := by
  rcases hu with ⟨hd, o, ha⟩ | ⟨d, hd, e⟩
  · have R := h.isRow hd
    exact ⟨(R.lt b o ha).2, R.ns b o ha⟩
  · obtain ⟨b', e', h1, h2⟩ := h.t d hd
    rw [e] at e'; cases e'
    exact ⟨lt_of_some h2, h1⟩
theorem DaysR.same {own' : List Nat} (h : DaysR B own ds a n c W) (hk : ∀ b, usedD a ds b → W'.heap[b]? = W.heap[b]?) (ho : ∀ b, usedD a ds b → b ∉ own') : DaysR B own' ds a n c W' := by
  refine ⟨h.len, ?_, fun d hd => ?_⟩
  · rcases h.row with h0 | ⟨h0, R⟩
    · exact .inl h0
    · have R' := R.of (w' := W') fun b o ha => hk b (.inl ⟨h0, o, ha⟩)
      exact .inr ⟨h0, R'.own, fun b o ha => ho b (.inl ⟨h0, o, ha⟩)⟩
  · obtain ⟨b, e, h1, h2⟩ := h.t d hd
    exact ⟨b, e, ho b (.inr ⟨d, hd, e⟩), by rw [hk b (.inr ⟨d, hd, e⟩)]; exact h2⟩
theorem DaysR.days (h : DaysR B own ds a n c W) : DaysIn ds a W := by
  refine ⟨?_, fun d hd => ?_⟩
  · rcases h.row with ⟨rfl, _⟩ | ⟨_, R⟩
    · intro i v hv; simp at hv
    · exact R.cells
  · obtain ⟨b, e, _, h2⟩ := h.t d hd
    rw [e]; exact Cells.obj (vs := [I 0]) h2
/-- One day more. -/
theorem appDay {E : Nat → Prop} {m mt : Nat} {x : Int} {cc : Nat} (h : DaysR B own ds a n c W) (hB : B ≤ W.heap.size) (hn : ds.length ≤ 1000) (hE : ∀ b, usedD a ds b → ¬ E b) (hEl : ∀ b, E b → b < W.heap.size) (hown : ∀ y ∈ own, y < W.heap.size)
    (hm : W.heap[m]? = some (.cells #[I x, .slice (some ⟨mt, 0, none⟩) 1 1] 34 (0, 0))) (ht : W.heap[mt]? = some (.cells #[I 0] 3 (0, 0))) (hto : mt ∉ own) (htE : ¬ E mt) {R : Value → World → Prop}
    (hR : ∀ a' c' W', DaysR B own (ds ++ [(x, some ⟨mt, 0, none⟩, 1)]) a' (n + 1) c' W' → (∀ b, usedD a' (ds ++ [(x, some ⟨mt, 0, none⟩, 1)]) b → ¬ E b) → (∀ b, E b → W'.heap[b]? = W.heap[b]?) → ∀ S, Chg S W W' → (∀ s ∈ S, B ≤ s ∧ s ∉ own) → R (.slice a' (n + 1) c') W') :
    RunsTo Tryz.prog (Builtin.append_ #[28, 28] 28 #[.slice a n c, .slice (some ⟨m, 0, none⟩) 1 cc]) W R := by
  have hlen := h.len
  have news : Cells W (some ⟨m, 0, none⟩) [I x, .slice (some ⟨mt, 0, none⟩) 1 1] := Cells.obj (vs := [_, _]) hm
  rcases h.row with ⟨h0, ⟨b0, rfl⟩, rfl⟩ | ⟨h0, R0⟩
  · subst h0
    have hn0 : n = 0 := hlen
    subst hn0
    have R0 : RowE 34 2 B (List.range W.heap.size) (some ⟨b0, 0, none⟩) 0 0 [] W := RowE.lit
    refine append_rowE (P := Tryz.prog) (bytes := 32) (by kernel_rfl) (by omega) R0 (m := 1) news rfl (List.forall_mem_cons.2 ⟨rfl, List.forall_mem_cons.2 ⟨rfl, by simp⟩⟩) (by omega) (by omega) hB (fun y hy => List.mem_range.1 hy) (by omega) fun a' c' W' R' S hS hs => ?_
    have hge : ∀ s ∈ S, W.heap.size ≤ s := fun s hm => by
      have := (hs s hm).2
      rw [List.mem_range] at this; omega
    have keep : ∀ b, b < W.heap.size → W'.heap[b]? = W.heap[b]? := fun b hb => hS.keep b hb fun hm => by have := hge b hm; omega
    have hgeA : ∀ b o, a' = some ⟨b, o, none⟩ → W.heap.size ≤ b := fun b o e => by
      have := R'.ns b o e
      rw [List.mem_range] at this; omega
    have htl := lt_of_some ht
    refine hR a' c' W' ⟨by simp, .inr ⟨by simp, R'.own, fun b o e hm => by have := hgeA b o e; have := hown b hm; omega⟩, fun d hd => ?_⟩ (fun b hu hb => ?_) (fun b hb => keep b (hEl b hb)) S hS fun s hm => ⟨(hs s hm).1, fun ho => by have := hge s hm; have := hown s ho; omega⟩
    · have hd : d = (x, some ⟨mt, 0, none⟩, 1) := by simpa using hd
      subst hd
      exact ⟨mt, rfl, hto, by rw [keep mt htl]; exact ht⟩
    · have hbl := hEl b hb
      rcases hu with ⟨_, o, e⟩ | ⟨d, hd, e⟩
      · have := hgeA b o e; omega
      · have hd : d = (x, some ⟨mt, 0, none⟩, 1) := by simpa using hd
        subst hd
        have e : (some ⟨mt, 0, none⟩ : Option Addr) = some ⟨b, 0, none⟩ := e
        injection e with e
        injection e with e _
        subst e
        exact htE hb
  · have R1 : Row 34 2 B [] a n c (ds.flatMap dayC) W := R0.less (by simp)
    refine append_same (P := Tryz.prog) (bytes := 32) (by kernel_rfl) (by omega) R1 (m := 1) news rfl (List.forall_mem_cons.2 ⟨rfl, List.forall_mem_cons.2 ⟨rfl, by simp⟩⟩) (by omega) (by omega) hB fun a' c' W' R' same out S hS hs => ?_
    have nE : ∀ b, E b → ∀ o, a ≠ some ⟨b, o, none⟩ := fun b hb o e => hE b (.inl ⟨h0, o, e⟩) hb
    have nO : ∀ b, b ∈ own → ∀ o, a ≠ some ⟨b, o, none⟩ := fun b hb o e => R0.ns b o e hb
    have htl := lt_of_some ht
    refine hR a' c' W' ⟨by simp [hlen], .inr ⟨by simp, by rw [List.flatMap_append]; exact R'.own, fun b o e hm => ?_⟩, fun d hd => ?_⟩ (fun b hu hb => ?_) (fun b hb => same b (hEl b hb) (nE b hb)) S hS fun s hm => ⟨(hs s hm).1, fun ho => ?_⟩
    · have := hown b hm
      rcases out b o e with h1 | ⟨o', h1⟩
      · omega
      · exact nO b hm o' h1
    · rcases List.mem_append.1 hd with hd | hd
      · obtain ⟨b, e, h1, h2⟩ := h.t d hd
        exact ⟨b, e, h1, by rw [same b (lt_of_some h2) (row_ne R1 h2 (by decide))]; exact h2⟩
      · have hd : d = (x, some ⟨mt, 0, none⟩, 1) := by simpa using hd
        subst hd
        exact ⟨mt, rfl, hto, by rw [same mt htl (row_ne R1 ht (by decide))]; exact ht⟩
    · have hbl := hEl b hb
      rcases hu with ⟨_, o, e⟩ | ⟨d, hd, e⟩
      · rcases out b o e with h1 | ⟨o', h1⟩
        · omega
        · exact nE b hb o' h1
      · rcases List.mem_append.1 hd with hd | hd
        · exact hE b (.inr ⟨d, hd, e⟩) hb
        · have hd : d = (x, some ⟨mt, 0, none⟩, 1) := by simpa using hd
          subst hd
          have e : (some ⟨mt, 0, none⟩ : Option Addr) = some ⟨b, 0, none⟩ := e
          injection e with e
          injection e with e _
          subst e
          exact htE hb
    · have := hown s ho
      rcases (hs s hm).2 with h1 | ⟨o, h1⟩
      · omega
      · exact nO s ho o h1
end
end Go.Proofs.RT
end
section
/- Whose day: the law, walked. -/
namespace Go.Proofs.RT
open Go.Vc Go.RowKit Go.Proofs
theorem daysOk_of {ds : List Dy} {L : List Int} (hL : ds.map (·.1) = L) (hp : L.Pairwise (fun x y => x + 1 ≤ y)) (h1 : ∀ x ∈ L, 1 ≤ x ∧ x ≤ 36524) (hlen : ds.length ≤ 400) : DaysOk ds := by
  subst hL
  refine ⟨hlen, fun i hi => ?_⟩
  have hb := h1 ds[i].1 (List.mem_map.2 ⟨_, List.getElem_mem hi, rfl⟩)
  refine ⟨?_, hb.2⟩
  unfold prevD
  split
  · omega
  · have := List.pairwise_iff_getElem.1 hp (i - 1) i (by rw [List.length_map]; omega) (by simpa using hi) (by omega)
    simp only [List.getElem_map] at this
    rw [List.getD_eq_getElem?_getD, getElem_of_lt (show i - 1 < ds.length by omega)]
    exact this
/-- How things stand before a round. -/
structure DInv (w : World) (gaps : List Int) (o : Int) (own : List Nat) (x1 : Int) (a1 : Option Addr) (n1 c1 : Nat) (a2 : Option Addr) (n2 c2 : Nat) (x2 : Int) (W : World) : Prop where
  ex : ∃ ds1 ds2, ds1.map (·.1) = ((atsF 86400 (gaps.take x2.toNat)).map fun x => (x + 0) / 86400) ∧ ds2.map (·.1) = ((atsF 86400 (gaps.take x2.toNat)).map fun x => (x + o) / 86400) ∧ DaysR w.heap.size own ds1 a1 n1 c1 W ∧ DaysR w.heap.size own ds2 a2 n2 c2 W ∧ ∀ b, usedD a1 ds1 b → ¬ usedD a2 ds2 b
  x : (0 ≤ x2 ∧ x2 ≤ gaps.length) ∧ x2 ≤ 12
  at' : x1 = atF (gaps.take x2.toNat) 86400
section
variable {w : World} {gaps : List Int} {o : Int} {own own' : List Nat} {x1 : Int} {a1 a2 : Option Addr} {n1 c1 n2 c2 : Nat} {x2 : Int} {W W' : World}
end
def u8s (l : List Int) : List Value := l.map (Value.int .u8)
end Go.Proofs.RT
end
section
/- The laws' arguments, opened. -/
namespace Go.Proofs.RT
open Go.Vc Go.RowKit Go.Proofs

theorem Tryz.own : ownKnob Tryz.prog.godebug = none := by kernel_rfl
theorem Tryz.laidOut : laidOutB Tryz.prog = true := by kernel_rfl
abbrev Lu : Leaf := .int .u8
theorem leaves_u8s : leaves Tryz.prog 7 23 = some [.sl [Lu]] := by kernel_rfl
theorem agg_u8s : isAggB Tryz.prog 23 = false := by kernel_rfl
section
variable {w : World}
theorem take_u8 {ls : List Leaf} {cs : List Value} (h : LeavesAre w (Lu :: ls) cs) : ∃ x r, cs = .int .u8 x :: r ∧ (0 ≤ x ∧ x ≤ 255) ∧ LeavesAre w ls r := by
  obtain ⟨v, r, rfl, h1, h2⟩ := h.cons'
  obtain ⟨x, rfl, hx⟩ := h1.int'
  exact ⟨x, r, rfl, by simpa [rng, IntKind.min, IntKind.max] using hx, h2⟩
theorem take_u8s {v : Value} (h : LeafIs w (.sl [Lu]) v) : ∃ a c, ∃ l : List Int, v = .slice a l.length c ∧ l.length ≤ maxLen ∧ (∀ x ∈ l, 0 ≤ x ∧ x ≤ 255) ∧ Cells w a (u8s l) := by
  obtain ⟨a, c, l, rfl, h1, h2, h3, h4⟩ := h.sl' (fun b : Int => [Value.int .u8 b]) (fun x => 0 ≤ x ∧ x ≤ 255) fun x hx => by
    obtain ⟨x0, r, rfl, g0, hx⟩ := take_u8 hx
    rw [hx.nil']
    exact ⟨x0, rfl, g0⟩
  refine ⟨a, c, l, rfl, by omega, h4, ?_⟩
  have e : (l.flatMap fun b : Int => [Value.int .u8 b]) = u8s l := by
    clear h h1 h2 h3 h4
    induction l with
    | nil => rfl
    | cons x l ih => rw [List.flatMap_cons, ih]; rfl
  rw [← e]
  exact h3
variable {w : World} {H : Type} {enc : TypeId × Value → H} {base b0 : Nat} {held : Bool} {spare : Nat → Bool} {reach : Reach}
set_option maxRecDepth 100000 in
theorem open_u8s {v : Value} {d : DataW H} {ps : List MemPlace} (hv : Value.okWide Tryz.prog w reach b0 23 v) (hd : DataW.Trod enc Tryz.prog w base spare held 23 v d ps) : ∃ a c, ∃ l : List Int, v = .slice a l.length c ∧ l.length ≤ maxLen ∧ (∀ x ∈ l, 0 ≤ x ∧ x ≤ 255) ∧ Cells w a (u8s l) := take_u8s (Go.Vc.open_one agg_u8s leaves_u8s hv hd)
end
end Go.Proofs.RT
end
section
/- The conditions of the functions, printed by program; each is what the generator reckons (kernel_rfl). -/
namespace Go.Proofs
open Go.Vc
set_option maxRecDepth 100000 in
set_option maxHeartbeats 2000000 in
theorem vc79 (least : Int) (most : Int) (la : Option Addr) (ln : Nat) (lc : Nat) (w : World) (R : Ending → World → Prop) (h : ∀ (m1 : Nat), w.heap.size ≤ m1 → ∀ (m2 : Nat),
    w.heap.size ≤ m2 → ∀ (w1 : World), RowKit.Below w.heap.size w w1 → Kept [m2, m1] w w1 → w1.heap[m1]? = some (Obj.cells #[Value.int IntKind.i64 least] 3) → w1.heap[m2]? = some
    (Obj.cells #[Value.int IntKind.i64 most] 3) → Calls Tryz.prog 60 #[Value.slice la ln lc, Value.func (Fn.func 143) #[] #[Value.pointer (some { block := m1, off := 0 }),
    Value.pointer (some { block := m2, off := 0 })]] w1 fun (e1 : Ending) (w2 : World) => ∃ (t1 : Bool), e1 = Ending.returned (Value.bool t1) ∧ KeepX true w.heap.size [m2, m1] (fun
    _ => False) w1 w2 ∧ ∀ (w3 : World), RowKit.Below w.heap.size w w3 → Kept [m2, m1] w2 w3 → R (Ending.returned (Value.bool !t1)) w3) : Calls Tryz.prog 79 #[Value.int IntKind.i64
    least, Value.int IntKind.i64 most, Value.slice la ln lc] w R := calls_of_vc (pure := true) (wrapAt := []) (muts := []) (esc := []) (args := [SV.pv (PV.one (Lf.int IntKind.i64
    least)), SV.pv (PV.one (Lf.int IntKind.i64 most)), SV.pv (PV.one (Lf.sl la ln lc))]) (vs := [Value.int IntKind.i64 least, Value.int IntKind.i64 most, Value.slice la ln lc])
    Tryz.func79 rfl rfl rfl (Eq.mp (by kernel_rfl) h) 
set_option maxRecDepth 100000 in
set_option maxHeartbeats 2000000 in
theorem vc143 (n : Int) (cap0b : Nat) (cap1b : Nat) (w : World) (R : Ending → World → Prop) (h : ∃ (x1 : Int), w.cell? { block := cap0b, off := 0 } = some (Value.int IntKind.i64
    x1) ∧ (n < x1 → ∀ (w1 : World), RowKit.Below w.heap.size w w1 → Kept [] w w1 → R (Ending.returned (Value.bool true)) w1) ∧ (x1 ≤ n → ∃ (x2 : Int), w.cell?
    { block := cap1b, off := 0 } = some (Value.int IntKind.i64 x2) ∧ ∀ (w2 : World), RowKit.Below w.heap.size w w2 → Kept [] w w2 → R (Ending.returned (Value.bool (decide (x2 <
    n)))) w2)) : Calls Tryz.prog 143 #[Value.int IntKind.i64 n, Value.pointer (some { block := cap0b, off := 0 }), Value.pointer (some { block := cap1b, off := 0 })] w R :=
    calls_of_vc (pure := true) (wrapAt := []) (muts := []) (esc := []) (args := [SV.pv (PV.one (Lf.int IntKind.i64 n)), SV.pv (PV.one (Lf.ptr cap0b 0)), SV.pv (PV.one (Lf.ptr cap1b
    0))]) (vs := [Value.int IntKind.i64 n, Value.pointer (some { block := cap0b, off := 0 }), Value.pointer (some { block := cap1b, off := 0 })]) Tryz.func143 rfl rfl rfl (Eq.mp
    (by kernel_rfl) h) 
set_option maxRecDepth 100000 in
set_option maxHeartbeats 2000000 in
theorem vc142 (s0 : Int) (s1 : Int) (most : Int) (w : World) (R : Ending → World → Prop) (h : ∀ (m1 : Nat), w.heap.size ≤ m1 → ∀ (m2 : Nat), w.heap.size ≤ m2 → ∀ (w1 : World),
    RowKit.Below w.heap.size w w1 → Kept [m2, m1] w w1 → w1.heap[m2]? = some (Obj.cells #[Value.int IntKind.i64 s0, Value.int IntKind.i64 s1] 3) → Calls Tryz.prog 79 #[Value.int
    IntKind.i64 0, Value.int IntKind.i64 most, Value.slice (some { block := m2, off := 0 }) 2 2] w1 fun (e1 : Ending) (w2 : World) => ∃ (t1 : Bool), e1 = Ending.returned
    (Value.bool t1) ∧ KeepX true w.heap.size [m2, m1] (fun _ => False) w1 w2 ∧ (t1 = true → ∀ (w3 : World), RowKit.Below w.heap.size w w3 → Kept [m2, m1] w2 w3 → R (Ending.returned
    (Value.bool (decide (s0 ≤ s1)))) w3) ∧ (t1 = false → ∀ (w4 : World), RowKit.Below w.heap.size w w4 → Kept [m2, m1] w2 w4 → R (Ending.returned (Value.bool false)) w4)) : Calls
    Tryz.prog 142 #[Value.agg #[Value.int IntKind.i64 s0, Value.int IntKind.i64 s1], Value.int IntKind.i64 most] w R := calls_of_vc (pure := true) (wrapAt := []) (muts := []) (esc
    := []) (args := [SV.pv (PV.agg [Lf.int IntKind.i64 s0, Lf.int IntKind.i64 s1]), SV.pv (PV.one (Lf.int IntKind.i64 most))]) (vs := [Value.agg #[Value.int IntKind.i64 s0,
    Value.int IntKind.i64 s1], Value.int IntKind.i64 most]) Tryz.func142 rfl rfl rfl (Eq.mp (by kernel_rfl) h) 
set_option maxRecDepth 100000 in
set_option maxHeartbeats 2000000 in
theorem vc149 (la : Option Addr) (ln : Nat) (lc : Nat) (w : World) (R : Ending → World → Prop) (h : ((↑ln : Int) = 24 → ∀ (w1 : World), RowKit.Below w.heap.size w w1 → Kept [] w w1
    → Calls Tryz.prog 151 #[Value.slice la ln lc, Value.func (Fn.func 204) #[] #[]] w1 fun (e1 : Ending) (w2 : World) => ∃ (t1 : Bool), e1 = Ending.returned (Value.bool t1) ∧ KeepX
    true w.heap.size [] (fun _ => False) w1 w2 ∧ ∀ (w3 : World), RowKit.Below w.heap.size w w3 → Kept [] w2 w3 → R (Ending.returned (Value.bool !t1)) w3) ∧ ((↑ln : Int) ≠ 24 → ∀
    (w4 : World), RowKit.Below w.heap.size w w4 → Kept [] w w4 → R (Ending.returned (Value.bool false)) w4)) : Calls Tryz.prog 149 #[Value.slice la ln lc] w R := calls_of_vc (pure
    := true) (wrapAt := []) (muts := []) (esc := []) (args := [SV.pv (PV.one (Lf.sl la ln lc))]) (vs := [Value.slice la ln lc]) Tryz.func149 rfl rfl rfl (Eq.mp (by kernel_rfl) h) 
set_option maxRecDepth 100000 in
set_option maxHeartbeats 2000000 in
theorem vc204 (s0 : Int) (s1 : Int) (w : World) (R : Ending → World → Prop) (h : ∀ (m1 : Nat), w.heap.size ≤ m1 → ∀ (w1 : World), RowKit.Below w.heap.size w w1 → Kept [m1] w w1 →
    Calls Tryz.prog 142 #[Value.agg #[Value.int IntKind.i64 s0, Value.int IntKind.i64 s1], Value.int IntKind.i64 3000] w1 fun (e1 : Ending) (w2 : World) => ∃ (t1 : Bool), e1 =
    Ending.returned (Value.bool t1) ∧ KeepX true w.heap.size [m1] (fun _ => False) w1 w2 ∧ ∀ (w3 : World), RowKit.Below w.heap.size w w3 → Kept [m1] w2 w3 → R (Ending.returned
    (Value.bool !t1)) w3) : Calls Tryz.prog 204 #[Value.agg #[Value.int IntKind.i64 s0, Value.int IntKind.i64 s1]] w R := calls_of_vc (pure := true) (wrapAt := []) (muts := [])
    (esc := []) (args := [SV.pv (PV.agg [Lf.int IntKind.i64 s0, Lf.int IntKind.i64 s1])]) (vs := [Value.agg #[Value.int IntKind.i64 s0, Value.int IntKind.i64 s1]]) Tryz.func204 rfl
    rfl rfl (Eq.mp (by kernel_rfl) h) 
set_option maxRecDepth 100000 in
set_option maxHeartbeats 2000000 in
theorem vc151 (sa : Option Addr) (sn : Nat) (sc : Nat) (ff : Nat) (fi : List Value) (fc : List Value) (w : World) (R : Ending → World → Prop) (h : ∀ (w1 : World), RowKit.Below
    w.heap.size w w1 → Kept [] w w1 → Calls Tryz.prog 205 #[Value.slice sa sn sc, Value.func (Fn.func ff) fi.toArray fc.toArray] w1 fun (e1 : Ending) (w2 : World) => ∃ (x1 : Int),
    e1 = Ending.returned (Value.int IntKind.i64 x1) ∧ KeepX true w.heap.size [] (fun _ => False) w1 w2 ∧ ∀ (w3 : World), RowKit.Below w.heap.size w w3 → Kept [] w2 w3 → R
    (Ending.returned (Value.bool (decide (0 ≤ x1)))) w3) : Calls Tryz.prog 151 #[Value.slice sa sn sc, Value.func (Fn.func ff) fi.toArray fc.toArray] w R := calls_of_vc (pure :=
    true) (wrapAt := []) (muts := []) (esc := []) (args := [SV.pv (PV.one (Lf.sl sa sn sc)), SV.pv (PV.one (Lf.fv ff fi fc))]) (vs := [Value.slice sa sn sc, Value.func (Fn.func ff)
    fi.toArray fc.toArray]) Tryz.func151 rfl rfl rfl (Eq.mp (by kernel_rfl) h) 
set_option maxRecDepth 100000 in
set_option maxHeartbeats 2000000 in
theorem vc205 (sa : Option Addr) (sn : Nat) (sc : Nat) (ff : Nat) (fi : List Value) (fc : List Value) (w : World) (R : Ending → World → Prop) (h : ∃ (F1 : List Lf → World → Prop),
    ∃ (F2 : List Lf → Nat), (∀ (w2 : World), RowKit.Below w.heap.size w w2 → Kept [] w w2 → F1 [Lf.int IntKind.i64 0, Lf.int IntKind.i64 0] w2) ∧ ∀ (x1 x2 : Int) (w3 : World),
    RowKit.Below w.heap.size w w3 → F1 [Lf.int IntKind.i64 x1, Lf.int IntKind.i64 x2] w3 → (x2 < (↑sn : Int) → ∃ (m1 : Nat), ∃ (m2 : Nat), sa = some { block := m1, off := m2 } ∧ (0
    ≤ x2 ∧ x2 < (↑sn : Int)) ∧ ∃ (x3 : Int), ∃ (x4 : Int), w3.cell? { block := m1, off := m2 + x2.toNat * 2 } = some (Value.int IntKind.i64 x3) ∧ w3.cell?
    { block := m1, off := m2 + x2.toNat * 2 + 1 } = some (Value.int IntKind.i64 x4) ∧ Callable Tryz.prog ff ∧ ∀ (w4 : World), RowKit.Below w.heap.size w w4 → Kept [] w3 w4 → Calls
    Tryz.prog ff (fi ++ [Value.agg #[Value.int IntKind.i64 x3, Value.int IntKind.i64 x4]] ++ fc).toArray w4 fun (e1 : Ending) (w5 : World) => ∃ (t1 : Bool), e1 = Ending.returned
    (Value.bool t1) ∧ KeepX true w.heap.size [] (fun _ => False) w4 w5 ∧ (t1 = true → ∀ (w6 : World), RowKit.Below w.heap.size w w6 → Kept [] w5 w6 → R (Ending.returned (Value.int
    IntKind.i64 x2)) w6) ∧ (t1 = false → (-9223372036854775808 ≤ x2 + 1 ∧ x2 + (1 : Int) ≤ 9223372036854775807) ∧ ∀ (w7 : World), RowKit.Below w.heap.size w w7 → Kept [] w5 w7 → F1
    [Lf.int IntKind.i64 x1, Lf.int IntKind.i64 (x2 + 1)] w7 ∧ F2 [Lf.int IntKind.i64 x1, Lf.int IntKind.i64 (x2 + 1)] < F2 [Lf.int IntKind.i64 x1, Lf.int IntKind.i64 x2])) ∧ ((↑sn
    : Int) ≤ x2 → ∀ (w8 : World), RowKit.Below w.heap.size w w8 → Kept [] w3 w8 → R (Ending.returned (Value.int IntKind.i64 (-1))) w8)) : Calls Tryz.prog 205 #[Value.slice sa sn
    sc, Value.func (Fn.func ff) fi.toArray fc.toArray] w R := calls_of_vc (pure := true) (wrapAt := []) (muts := []) (esc := []) (args := [SV.pv (PV.one (Lf.sl sa sn sc)), SV.pv
    (PV.one (Lf.fv ff fi fc))]) (vs := [Value.slice sa sn sc, Value.func (Fn.func ff) fi.toArray fc.toArray]) Tryz.func205 rfl rfl rfl (Eq.mp (by kernel_rfl) h) 
set_option maxRecDepth 100000 in
set_option maxHeartbeats 2000000 in
theorem vc87 (c0 : Int) (c1a : Option Addr) (c1n : Nat) (c1c : Nat) (w : World) (R : Ending → World → Prop) (h : ∀ (m1 : Nat), w.heap.size ≤ m1 → ∀ (m2 : Nat), w.heap.size ≤ m2 → ∀
    (w1 : World), RowKit.Below w.heap.size w w1 → Kept [m2, m1] w w1 → w1.heap[m2]? = some (Obj.cells #[Value.int IntKind.i64 c0] 3) → Calls Tryz.prog 79 #[Value.int IntKind.i64 1,
    Value.int IntKind.i64 3000, Value.slice (some { block := m2, off := 0 }) 1 1] w1 fun (e1 : Ending) (w2 : World) => ∃ (t1 : Bool), e1 = Ending.returned (Value.bool t1) ∧ KeepX
    true w.heap.size [m2, m1] (fun _ => False) w1 w2 ∧ ((!t1) = true → ∀ (w3 : World), RowKit.Below w.heap.size w w3 → Kept [m2, m1] w2 w3 → R (Ending.returned (Value.int
    IntKind.i64 2)) w3) ∧ ((!t1) = false → ∀ (w4 : World), RowKit.Below w.heap.size w w4 → Kept [m2, m1] w2 w4 → Calls Tryz.prog 149 #[Value.slice c1a c1n c1c] w4 fun (e2 : Ending)
    (w5 : World) => ∃ (t2 : Bool), e2 = Ending.returned (Value.bool t2) ∧ KeepX true w.heap.size [m2, m1] (fun _ => False) w4 w5 ∧ ((!t2) = true → ∀ (w6 : World), RowKit.Below
    w.heap.size w w6 → Kept [m2, m1] w5 w6 → R (Ending.returned (Value.int IntKind.i64 2)) w6) ∧ ((!t2) = false → ∀ (w7 : World), RowKit.Below w.heap.size w w7 → Kept [m2, m1] w5
    w7 → R (Ending.returned (Value.int IntKind.i64 0)) w7))) : Calls Tryz.prog 87 #[Value.agg #[Value.int IntKind.i64 c0, Value.slice c1a c1n c1c]] w R := calls_of_vc (pure :=
    true) (wrapAt := []) (muts := []) (esc := []) (args := [SV.pv (PV.agg [Lf.int IntKind.i64 c0, Lf.sl c1a c1n c1c])]) (vs := [Value.agg #[Value.int IntKind.i64 c0, Value.slice
    c1a c1n c1c]]) Tryz.func87 rfl rfl rfl (Eq.mp (by kernel_rfl) h) 
set_option maxRecDepth 100000 in
set_option maxHeartbeats 2000000 in
theorem vc78 (c0 : Int) (c1a : Option Addr) (c1n : Nat) (c1c : Nat) (la : Option Addr) (ln : Nat) (lc : Nat) (w : World) (R : Ending → World → Prop) (h : ∀ (m1 : Nat), w.heap.size
    ≤ m1 → ∀ (m2 : Nat), w.heap.size ≤ m2 → ∀ (w1 : World), RowKit.Below w.heap.size w w1 → Kept [m2, m1] w w1 → Calls Tryz.prog 87 #[Value.agg #[Value.int IntKind.i64 c0,
    Value.slice c1a c1n c1c]] w1 fun (e1 : Ending) (w2 : World) => ∃ (x1 : Int), e1 = Ending.returned (Value.int IntKind.i64 x1) ∧ KeepX true w.heap.size [m2, m1] (fun _ => False)
    w1 w2 ∧ (x1 ≠ 0 → ∀ (w3 : World), RowKit.Below w.heap.size w w3 → Kept [m2, m1] w2 w3 → R (Ending.returned (Value.tuple #[Value.agg #[Value.int IntKind.i64 0, Value.slice none
    0 0, Value.slice none 0 0], Value.int IntKind.i64 2])) w3) ∧ (x1 = 0 → (10 < (↑ln : Int) → ∀ (w4 : World), RowKit.Below w.heap.size w w4 → Kept [m2, m1] w2 w4 → R
    (Ending.returned (Value.tuple #[Value.agg #[Value.int IntKind.i64 0, Value.slice none 0 0, Value.slice none 0 0], Value.int IntKind.i64 5])) w4) ∧ ((↑ln : Int) ≤ 10 → ∀ (m4 :
    Nat), w2.heap.size ≤ m4 → ∃ (F1 : List Lf → World → Prop), ∃ (F2 : List Lf → Nat), (∀ (w6 : World), RowKit.Below w.heap.size w w6 → Kept [m4, m2, m1] w2 w6 → F1 [Lf.int
    IntKind.i64 0, Lf.int IntKind.i64 0, Lf.int IntKind.i64 0, Lf.sl none 0 0, Lf.sl none 0 0, Lf.int IntKind.i64 0, Lf.int IntKind.i64 0] w6) ∧ ∀ (x2 x3 x4 : Int) (a1 : Option
    Addr) (m5 m6 : Nat) (a2 : Option Addr) (m7 m8 : Nat) (x5 x6 : Int) (w7 : World), RowKit.Below w.heap.size w w7 → F1 [Lf.int IntKind.i64 x2, Lf.int IntKind.i64 x3, Lf.int
    IntKind.i64 x4, Lf.sl a1 m5 m6, Lf.sl a2 m7 m8, Lf.int IntKind.i64 x5, Lf.int IntKind.i64 x6] w7 → (x3 < (↑ln : Int) → ∃ (m9 : Nat), ∃ (m10 : Nat), la = some
    { block := m9, off := m10 } ∧ (0 ≤ x3 ∧ x3 < (↑ln : Int)) ∧ ∃ (x7 : Int), ∃ (x8 : Int), ∃ (x9 : Int), ∃ (x10 : Int), w7.cell? { block := m9, off := m10 + x3.toNat * 4 } = some
    (Value.int IntKind.i64 x7) ∧ w7.cell? { block := m9, off := m10 + x3.toNat * 4 + 1 } = some (Value.int IntKind.i64 x8) ∧ w7.cell?
    { block := m9, off := m10 + x3.toNat * 4 + 1 + 1 } = some (Value.int IntKind.i64 x9) ∧ w7.cell? { block := m9, off := m10 + x3.toNat * 4 + 1 + 1 + 1 } = some (Value.int
    IntKind.i64 x10) ∧ (m9 < w.heap.size ∨ m9 ≠ m4 ∧ m9 ≠ m2 ∧ m9 ≠ m1) ∧ ∀ (m11 : Nat), w7.heap.size ≤ m11 → ∀ (w8 : World), RowKit.Below w.heap.size w w8 → Kept [m11, m4, m2, m1]
    w7 w8 → Calls Tryz.prog 142 #[Value.agg #[Value.int IntKind.i64 x7, Value.int IntKind.i64 x8], Value.int IntKind.i64 2000] w8 fun (e2 : Ending) (w9 : World) => ∃ (t1 : Bool),
    e2 = Ending.returned (Value.bool t1) ∧ KeepX true w.heap.size [m11, m4, m2, m1] (fun _ => False) w8 w9 ∧ ((!t1) = true → ∀ (w10 : World), RowKit.Below w.heap.size w w10 → Kept
    [m11, m4, m2, m1] w9 w10 → R (Ending.returned (Value.tuple #[Value.agg #[Value.int IntKind.i64 x4, Value.slice a1 m5 m6, Value.slice a2 m7 m8], Value.int IntKind.i64 2])) w10)
    ∧ ((!t1) = false → ∀ (w11 : World), RowKit.Below w.heap.size w w11 → Kept [m11, m4, m2, m1] w9 w11 → Calls Tryz.prog 142 #[Value.agg #[Value.int IntKind.i64 x9, Value.int
    IntKind.i64 x10], Value.int IntKind.i64 3000] w11 fun (e3 : Ending) (w12 : World) => ∃ (t2 : Bool), e3 = Ending.returned (Value.bool t2) ∧ KeepX true w.heap.size [m11, m4, m2,
    m1] (fun _ => False) w11 w12 ∧ ((!t2) = true → ∀ (w13 : World), RowKit.Below w.heap.size w w13 → Kept [m11, m4, m2, m1] w12 w13 → R (Ending.returned (Value.tuple #[Value.agg
    #[Value.int IntKind.i64 x4, Value.slice a1 m5 m6, Value.slice a2 m7 m8], Value.int IntKind.i64 2])) w13) ∧ ((!t2) = false → (x7 < x5 → ∀ (w14 : World), RowKit.Below w.heap.size
    w w14 → Kept [m11, m4, m2, m1] w12 w14 → R (Ending.returned (Value.tuple #[Value.agg #[Value.int IntKind.i64 x4, Value.slice a1 m5 m6, Value.slice a2 m7 m8], Value.int
    IntKind.i64 2])) w14) ∧ (x5 ≤ x7 → (x8 < x6 → ∀ (w15 : World), RowKit.Below w.heap.size w w15 → Kept [m11, m4, m2, m1] w12 w15 → R (Ending.returned (Value.tuple #[Value.agg
    #[Value.int IntKind.i64 x4, Value.slice a1 m5 m6, Value.slice a2 m7 m8], Value.int IntKind.i64 2])) w15) ∧ (x6 ≤ x8 → (-9223372036854775808 ≤ x3 + 1 ∧ x3 + (1 : Int) ≤
    9223372036854775807) ∧ ∀ (w16 : World), RowKit.Below w.heap.size w w16 → Kept [m11, m4, m2, m1] w12 w16 → F1 [Lf.int IntKind.i64 x2, Lf.int IntKind.i64 (x3 + 1), Lf.int
    IntKind.i64 x4, Lf.sl a1 m5 m6, Lf.sl a2 m7 m8, Lf.int IntKind.i64 x7, Lf.int IntKind.i64 x8] w16 ∧ F2 [Lf.int IntKind.i64 x2, Lf.int IntKind.i64 (x3 + 1), Lf.int IntKind.i64
    x4, Lf.sl a1 m5 m6, Lf.sl a2 m7 m8, Lf.int IntKind.i64 x7, Lf.int IntKind.i64 x8] < F2 [Lf.int IntKind.i64 x2, Lf.int IntKind.i64 x3, Lf.int IntKind.i64 x4, Lf.sl a1 m5 m6,
    Lf.sl a2 m7 m8, Lf.int IntKind.i64 x5, Lf.int IntKind.i64 x6]))))) ∧ ((↑ln : Int) ≤ x3 → ∀ (w17 : World), RowKit.Below w.heap.size w w17 → Kept [m4, m2, m1] w7 w17 → R
    (Ending.returned (Value.tuple #[Value.agg #[Value.int IntKind.i64 c0, Value.slice c1a c1n c1c, Value.slice la ln lc], Value.int IntKind.i64 0])) w17)))) : Calls Tryz.prog 78
    #[Value.agg #[Value.int IntKind.i64 c0, Value.slice c1a c1n c1c], Value.slice la ln lc] w R := calls_of_vc (pure := true) (wrapAt := []) (muts := [4, 6]) (esc := []) (args :=
    [SV.pv (PV.agg [Lf.int IntKind.i64 c0, Lf.sl c1a c1n c1c]), SV.pv (PV.one (Lf.sl la ln lc))]) (vs := [Value.agg #[Value.int IntKind.i64 c0, Value.slice c1a c1n c1c],
    Value.slice la ln lc]) Tryz.func78 rfl rfl rfl (Eq.mp (by kernel_rfl) h) 
set_option maxRecDepth 100000 in
set_option maxHeartbeats 2000000 in
theorem vc36 (c0 : Int) (c1a : Option Addr) (c1n : Nat) (c1c : Nat) (start : Int) (la : Option Addr) (ln : Nat) (lc : Nat) (hour : Int) (w : World) (R : Ending → World → Prop) (h :
    ∀ (m1 : Nat), w.heap.size ≤ m1 → ∀ (w1 : World), RowKit.Below w.heap.size w w1 → Kept [m1] w w1 → Calls Tryz.prog 78 #[Value.agg #[Value.int IntKind.i64 c0, Value.slice c1a c1n
    c1c], Value.slice la ln lc] w1 fun (e1 : Ending) (w2 : World) => ∃ (x1 : Int), ∃ (a1 : Option Addr), ∃ (m2 : Nat), ∃ (m3 : Nat), ∃ (a2 : Option Addr), ∃ (m4 : Nat), ∃ (m5 :
    Nat), ∃ (x2 : Int), e1 = Ending.returned (Value.tuple #[Value.agg #[Value.int IntKind.i64 x1, Value.slice a1 m2 m3, Value.slice a2 m4 m5], Value.int IntKind.i64 x2]) ∧ KeepX
    true w.heap.size [m1] (fun _ => False) w1 w2 ∧ ∀ (m7 : Nat), w2.heap.size ≤ m7 → (x2 ≠ 0 → ∀ (w3 : World), RowKit.Below w.heap.size w w3 → Kept [m7, m1] w2 w3 → R
    (Ending.returned (Value.tuple #[Value.pointer none, Value.int IntKind.i64 x2])) w3) ∧ (x2 = 0 → ∀ (m8 : Nat), w2.heap.size ≤ m8 → ∀ (w4 : World), RowKit.Below w.heap.size w w4
    → Kept [m8, m7, m1] w2 w4 → w4.heap[m8]? = some (Obj.cells #[Value.int IntKind.i64 start] 3) → Calls Tryz.prog 79 #[Value.int IntKind.i64 0, Value.int IntKind.i64 c0,
    Value.slice (some { block := m8, off := 0 }) 1 1] w4 fun (e2 : Ending) (w5 : World) => ∃ (t1 : Bool), e2 = Ending.returned (Value.bool t1) ∧ KeepX true w.heap.size [m8, m7, m1]
    (fun _ => False) w4 w5 ∧ ((!t1) = true → ((!t1) = true → ∀ (w6 : World), RowKit.Below w.heap.size w w6 → Kept [m8, m7, m1] w5 w6 → R (Ending.returned (Value.tuple
    #[Value.pointer none, Value.int IntKind.i64 3])) w6) ∧ ((!t1) = false → ∀ (w7 : World), RowKit.Below w.heap.size w w7 → Kept [m8, m7, m1] w5 w7 → ∀ (m11 : Nat) (w8 : World),
    m11 = w7.heap.size → w8 = w7.alloc (Obj.cells #[Value.int IntKind.i64 start, Value.int IntKind.i64 start] 47) → ∀ (w9 : World), RowKit.Below w.heap.size w w9 → Kept [m8, m7,
    m1] w8 w9 → Calls Tryz.prog 80 #[Value.agg #[Value.int IntKind.i64 x1, Value.slice a1 m2 m3, Value.slice a2 m4 m5], Value.slice (some { block := m11, off := 0 }) 1 1] w9 fun
    (e3 : Ending) (w10 : World) => ∃ (a3 : Option Addr), e3 = Ending.returned (Value.pointer a3) ∧ KeepX true w.heap.size [m8, m7, m1] (fun _ => False) w9 w10 ∧ ∀ (w11 : World),
    RowKit.Below w.heap.size w w11 → Kept [m8, m7, m1] w10 w11 → R (Ending.returned (Value.tuple #[Value.pointer a3, Value.int IntKind.i64 0])) w11)) ∧ ((!t1) = false → ∀ (m13 :
    Nat), w5.heap.size ≤ m13 → ∀ (w12 : World), RowKit.Below w.heap.size w w12 → Kept [m13, m8, m7, m1] w5 w12 → w12.heap[m13]? = some (Obj.cells #[Value.int IntKind.i64 hour] 3) →
    Calls Tryz.prog 79 #[Value.int IntKind.i64 0, Value.int IntKind.i64 2000, Value.slice (some { block := m13, off := 0 }) 1 1] w12 fun (e4 : Ending) (w13 : World) => ∃ (t2 :
    Bool), e4 = Ending.returned (Value.bool t2) ∧ KeepX true w.heap.size [m13, m8, m7, m1] (fun _ => False) w12 w13 ∧ ((!t2) = true → ∀ (w14 : World), RowKit.Below w.heap.size w
    w14 → Kept [m13, m8, m7, m1] w13 w14 → R (Ending.returned (Value.tuple #[Value.pointer none, Value.int IntKind.i64 3])) w14) ∧ ((!t2) = false → ∀ (w15 : World), RowKit.Below
    w.heap.size w w15 → Kept [m13, m8, m7, m1] w13 w15 → ∀ (m16 : Nat) (w16 : World), m16 = w15.heap.size → w16 = w15.alloc (Obj.cells #[Value.int IntKind.i64 start, Value.int
    IntKind.i64 start] 47) → ∀ (w17 : World), RowKit.Below w.heap.size w w17 → Kept [m13, m8, m7, m1] w16 w17 → Calls Tryz.prog 80 #[Value.agg #[Value.int IntKind.i64 x1,
    Value.slice a1 m2 m3, Value.slice a2 m4 m5], Value.slice (some { block := m16, off := 0 }) 1 1] w17 fun (e5 : Ending) (w18 : World) => ∃ (a4 : Option Addr), e5 =
    Ending.returned (Value.pointer a4) ∧ KeepX true w.heap.size [m13, m8, m7, m1] (fun _ => False) w17 w18 ∧ ∀ (w19 : World), RowKit.Below w.heap.size w w19 → Kept [m13, m8, m7,
    m1] w18 w19 → R (Ending.returned (Value.tuple #[Value.pointer a4, Value.int IntKind.i64 0])) w19)))) : Calls Tryz.prog 36 #[Value.agg #[Value.int IntKind.i64 c0, Value.slice
    c1a c1n c1c], Value.int IntKind.i64 start, Value.slice la ln lc, Value.int IntKind.i64 hour] w R := calls_of_vc (pure := true) (wrapAt := []) (muts := []) (esc := [37]) (args
    := [SV.pv (PV.agg [Lf.int IntKind.i64 c0, Lf.sl c1a c1n c1c]), SV.pv (PV.one (Lf.int IntKind.i64 start)), SV.pv (PV.one (Lf.sl la ln lc)), SV.pv (PV.one (Lf.int IntKind.i64
    hour))]) (vs := [Value.agg #[Value.int IntKind.i64 c0, Value.slice c1a c1n c1c], Value.int IntKind.i64 start, Value.slice la ln lc, Value.int IntKind.i64 hour]) Tryz.func36 rfl
    rfl rfl (Eq.mp (by kernel_rfl) h) 
set_option maxRecDepth 100000 in
set_option maxHeartbeats 2000000 in
theorem vc37 (db : Nat) (dof : Nat) (till : Int) (w : World) (R : Ending → World → Prop) (h : ∀ (m1 : Nat), w.heap.size ≤ m1 → ∀ (m2 : Nat), w.heap.size ≤ m2 → ∀ (w1 : World),
    RowKit.Below w.heap.size w w1 → Kept [m2, m1] w w1 → w1.heap[m1]? = some (Obj.cells #[Value.pointer (some { block := db, off := dof })] 117) → w1.heap[m2]? = some (Obj.cells
    #[Value.int IntKind.i64 till] 3) → R (Ending.returned (Value.func (Fn.func 81) #[] #[Value.pointer (some { block := m1, off := 0 }), Value.pointer (some
    { block := m2, off := 0 })])) w1) : Calls Tryz.prog 37 #[Value.pointer (some { block := db, off := dof }), Value.int IntKind.i64 till] w R := calls_of_vc (pure := true) (wrapAt
    := []) (muts := []) (esc := []) (args := [SV.pv (PV.one (Lf.ptr db dof)), SV.pv (PV.one (Lf.int IntKind.i64 till))]) (vs := [Value.pointer (some { block := db, off := dof }),
    Value.int IntKind.i64 till]) Tryz.func37 rfl rfl rfl (Eq.mp (by kernel_rfl) h) 
set_option maxRecDepth 100000 in
set_option maxHeartbeats 2000000 in
theorem vc81 (yield : Value) (cap0b : Nat) (cap1b : Nat) (w : World) (R : Ending → World → Prop) (h : ∃ (F1 : Nat → List Lf → World → Prop), (∀ (w2 : World), Kept [] w w2 → ∃ (m2 :
    Nat), F1 m2 [] w2) ∧ ∀ (m3 : Nat) (w3 : World), F1 m3 [] w3 → ∃ (a1 : Option Addr), w3.cell? { block := cap0b, off := 0 } = some (Value.pointer a1) ∧ ∃ (m4 : Nat), ∃ (m5 :
    Nat), a1 = some { block := m4, off := m5 } ∧ True ∧ ∃ (x1 : Int), w3.cell? { block := m4, off := m5 + 4 } = some (Value.int IntKind.i64 x1) ∧ ∃ (x2 : Int), w3.cell?
    { block := cap1b, off := 0 } = some (Value.int IntKind.i64 x2) ∧ (x1 < x2 → ∃ (a2 : Option Addr), w3.cell? { block := cap0b, off := 0 } = some (Value.pointer a2) ∧ ∀ (w4 :
    World), KeptIn [(0, w3.heap.size)] [] w3 w4 → Calls Tryz.prog 39 #[Value.pointer a2] w4 fun (e1 : Ending) (w5 : World) => ∃ (a3 : Option Addr), ∃ (m6 : Nat), ∃ (m7 : Nat), e1 =
    Ending.returned (Value.slice a3 m6 m7) ∧ KeepX false w.heap.size [] (fun _ => False) w4 w5 ∧ (0 < (↑m6 : Int) → ∃ (a4 : Option Addr), w5.cell? { block := cap0b, off := 0 } =
    some (Value.pointer a4) ∧ ∃ (m9 : Nat), ∃ (m10 : Nat), a4 = some { block := m9, off := m10 } ∧ True ∧ ∃ (x3 : Int), w5.cell? { block := m9, off := m10 + 4 } = some (Value.int
    IntKind.i64 x3) ∧ ∀ (w6 : World), KeptIn [(0, w5.heap.size)] [] w5 w6 → ∃ (m11 : Nat), yield = Value.func (Fn.yield m11) #[] #[] ∧ YieldAt
    { fn := fun (m12 : Nat) => True, alive := false } 0 Tryz.prog m11 #[Value.int IntKind.i64 x3] w6 fun (e2 : Ending) (w7 : World) => ∃ (t1 : Bool), e2 = Ending.returned
    (Value.bool t1) ∧ KeepX false w.heap.size [] (fun _ => False) w6 w7 ∧ (t1 = true → ∀ (w8 : World), Kept [] w7 w8 → ∃ (m14 : Nat), m14 < m3 ∧ F1 m14 [] w8) ∧ (t1 = false → ∀ (w9
    : World), Kept [] w7 w9 → R (Ending.returned (Value.tuple #[])) w9)) ∧ ((↑m6 : Int) ≤ 0 → ∀ (w10 : World), Kept [] w5 w10 → R (Ending.returned (Value.tuple #[])) w10)) ∧ (x2 ≤
    x1 → ∀ (w11 : World), Kept [] w3 w11 → R (Ending.returned (Value.tuple #[])) w11)) : Calls Tryz.prog 81 #[yield, Value.pointer (some { block := cap0b, off := 0 }),
    Value.pointer (some { block := cap1b, off := 0 })] w R := calls_of_vcj (pure := false) (wrapAt := []) (muts := []) (esc := []) (joins := [(4000000, [])]) (args := [SV.pv
    (PV.one (Lf.val yield)), SV.pv (PV.one (Lf.ptr cap0b 0)), SV.pv (PV.one (Lf.ptr cap1b 0))]) (vs := [yield, Value.pointer (some { block := cap0b, off := 0 }), Value.pointer
    (some { block := cap1b, off := 0 })]) Tryz.func81 rfl rfl rfl (Eq.mp (by kernel_rfl) h) 
set_option maxRecDepth 100000 in
set_option maxHeartbeats 2000000 in
theorem vc39 (db : Nat) (dof : Nat) (w : World) (R : Ending → World → Prop) (h : ∃ (a1 : Option Addr), ∃ (m1 : Nat), ∃ (m2 : Nat), w.cell? { block := db, off := dof + 3 } = some
    (Value.slice a1 m1 m2) ∧ ∀ (w1 : World), RowKit.Below w.heap.size w w1 → Kept [] w w1 → Calls Tryz.prog 86 #[Value.slice a1 m1 m2] w1 fun (e1 : Ending) (w2 : World) => ∃ (a2 :
    Option Addr), ∃ (m3 : Nat), ∃ (m4 : Nat), e1 = Ending.returned (Value.slice a2 m3 m4) ∧ KeepX true w.heap.size [] (fun _ => False) w1 w2 ∧ ∀ (w3 : World), RowKit.Below
    w.heap.size w w3 → Kept [] w2 w3 → R (Ending.returned (Value.slice a2 m3 m4)) w3) : Calls Tryz.prog 39 #[Value.pointer (some { block := db, off := dof })] w R := calls_of_vc
    (pure := true) (wrapAt := []) (muts := []) (esc := []) (args := [SV.pv (PV.one (Lf.ptr db dof))]) (vs := [Value.pointer (some { block := db, off := dof })]) Tryz.func39 rfl rfl
    rfl (Eq.mp (by kernel_rfl) h) 
set_option maxRecDepth 100000 in
set_option maxHeartbeats 2000000 in
theorem vc80 (c0 : Int) (c1a : Option Addr) (c1n : Nat) (c1c : Nat) (c2a : Option Addr) (c2n : Nat) (c2c : Nat) (lefta : Option Addr) (leftn : Nat) (leftc : Nat) (w : World) (R :
    Ending → World → Prop) (h : ∀ (m1 : Nat), w.heap.size ≤ m1 → (-9223372036854775808 ≤ (↑c2n : Int) + 1 ∧ (↑c2n : Int) + (1 : Int) ≤ 9223372036854775807) ∧ ∀ (w1 : World),
    RowKit.Below w.heap.size w w1 → KeptIn [(0, w.heap.size)] [m1] w w1 → RunsTo Tryz.prog (Instr.makeSlice 189 (Value.int IntKind.i64 ((↑c2n : Int) + 1)) (Value.int IntKind.i64
    ((↑c2n : Int) + 1))) w1 fun (v1 : Value) (w2 : World) => ∃ (a1 : Option Addr), ∃ (m2 : Nat), ∃ (m3 : Nat), v1 = Value.slice a1 m2 m3 ∧ KeepX true w.heap.size [m1] (fun _ =>
    False) w1 w2 ∧ ∀ (m5 : Nat), w2.heap.size ≤ m5 → ∃ (m6 : Nat), ∃ (m7 : Nat), a1 = some { block := m6, off := m7 } ∧ ((0 : Int) ≤ 0 ∧ 0 < (↑m2 : Int)) ∧ ∀ (w3 : World),
    RowKit.Below w.heap.size w w3 → Kept [m5, m1] w2 w3 → RunsTo Tryz.prog ((Instr.storeAt 122 (Value.pointer (some { block := m6, off := m7 + Int.toNat 0 * 1 })) (Value.slice
    lefta leftn leftc)) >>= fun _ => pure (Value.tuple #[])) w3 fun (v2 : Value) (w4 : World) => KeepX true w.heap.size [m5, m1] (fun _ => False) w3 w4 ∧ ∀ (w5 : World),
    RowKit.Below w.heap.size w w5 → Kept [m5, m1] w4 w5 → w5.heap[m5]? = some (Obj.cells #[Value.int IntKind.i64 c0, Value.slice c1a c1n c1c, Value.slice c2a c2n c2c, Value.slice
    a1 m2 m3, Value.int IntKind.i64 0, Value.bool false] 191) → Calls Tryz.prog 85 #[Value.pointer (some { block := m5, off := 0 })] w5 fun (e1 : Ending) (w6 : World) => e1 =
    Ending.returned (Value.tuple #[]) ∧ KeepX true w.heap.size [m5, m1] (fun _ => False) w5 w6 ∧ ∀ (w7 : World), RowKit.Below w.heap.size w w7 → Kept [m5, m1] w6 w7 → w7.heap[m5]?
    = some (Obj.cells #[Value.int IntKind.i64 c0, Value.slice c1a c1n c1c, Value.slice c2a c2n c2c, Value.slice a1 m2 m3, Value.int IntKind.i64 0, Value.bool false] 191) → R
    (Ending.returned (Value.pointer (some { block := m5, off := 0 }))) w7) : Calls Tryz.prog 80 #[Value.agg #[Value.int IntKind.i64 c0, Value.slice c1a c1n c1c, Value.slice c2a c2n
    c2c], Value.slice lefta leftn leftc] w R := calls_of_vc (pure := true) (wrapAt := []) (muts := []) (esc := []) (args := [SV.pv (PV.agg [Lf.int IntKind.i64 c0, Lf.sl c1a c1n
    c1c, Lf.sl c2a c2n c2c]), SV.pv (PV.one (Lf.sl lefta leftn leftc))]) (vs := [Value.agg #[Value.int IntKind.i64 c0, Value.slice c1a c1n c1c, Value.slice c2a c2n c2c],
    Value.slice lefta leftn leftc]) Tryz.func80 rfl rfl rfl (Eq.mp (by kernel_rfl) h) 
set_option maxRecDepth 100000 in
set_option maxHeartbeats 2000000 in
theorem vc82 (c0 : Int) (c1a : Option Addr) (c1n : Nat) (c1c : Nat) (c2a : Option Addr) (c2n : Nat) (c2c : Nat) (hour : Int) (w : World) (R : Ending → World → Prop) (h : ∀ (m1 :
    Nat), w.heap.size ≤ m1 → ∀ (m2 : Nat), w.heap.size ≤ m2 → (24 : Int) ≠ 0 ∧ ∃ (m3 : Nat), ∃ (m4 : Nat), c1a = some { block := m3, off := m4 } ∧ (0 ≤ hour.tmod 24 ∧ hour.tmod 24
    < (↑c1n : Int)) ∧ ∃ (x1 : Int), ∃ (x2 : Int), w.cell? { block := m3, off := m4 + (hour.tmod 24).toNat * 2 } = some (Value.int IntKind.i64 x1) ∧ w.cell?
    { block := m3, off := m4 + (hour.tmod 24).toNat * 2 + 1 } = some (Value.int IntKind.i64 x2) ∧ (m3 < w.heap.size ∨ m3 ≠ m2 ∧ m3 ≠ m1) ∧ ∀ (w1 : World), RowKit.Below w.heap.size
    w w1 → Kept [m2, m1] w w1 → R (Ending.returned (Value.agg #[Value.int IntKind.i64 x1, Value.int IntKind.i64 x2])) w1) : Calls Tryz.prog 82 #[Value.agg #[Value.int IntKind.i64
    c0, Value.slice c1a c1n c1c, Value.slice c2a c2n c2c], Value.int IntKind.i64 hour] w R := calls_of_vc (pure := true) (wrapAt := []) (muts := []) (esc := []) (args := [SV.pv
    (PV.agg [Lf.int IntKind.i64 c0, Lf.sl c1a c1n c1c, Lf.sl c2a c2n c2c]), SV.pv (PV.one (Lf.int IntKind.i64 hour))]) (vs := [Value.agg #[Value.int IntKind.i64 c0, Value.slice c1a
    c1n c1c, Value.slice c2a c2n c2c], Value.int IntKind.i64 hour]) Tryz.func82 rfl rfl rfl (Eq.mp (by kernel_rfl) h) 
set_option maxRecDepth 100000 in
set_option maxHeartbeats 2000000 in
theorem vc83 (sa : Option Addr) (sn : Nat) (sc : Nat) (p1by0 : Int) (p1by1 : Int) (w : World) (R : Ending → World → Prop) (h : ∀ (m1 : Nat), w.heap.size ≤ m1 → (0 < (↑sn : Int) → ∃
    (m2 : Nat), ∃ (m3 : Nat), sa = some { block := m2, off := m3 } ∧ ((0 : Int) ≤ 0 ∧ 0 < (↑sn : Int)) ∧ ∃ (x1 : Int), w.cell? { block := m2, off := m3 + Int.toNat 0 * 2 + 0 } =
    some (Value.int IntKind.i64 x1) ∧ (m2 < w.heap.size ∨ m2 ≠ m1) ∧ ∀ (w1 : World), RowKit.Below w.heap.size w w1 → Kept [m1] w w1 → R (Ending.returned (Value.bool (decide (x1 <
    p1by1)))) w1) ∧ ((↑sn : Int) ≤ 0 → ∀ (w2 : World), RowKit.Below w.heap.size w w2 → Kept [m1] w w2 → R (Ending.returned (Value.bool false)) w2)) : Calls Tryz.prog 83
    #[Value.slice sa sn sc, Value.agg #[Value.int IntKind.i64 p1by0, Value.int IntKind.i64 p1by1]] w R := calls_of_vc (pure := true) (wrapAt := []) (muts := []) (esc := []) (args
    := [SV.pv (PV.one (Lf.sl sa sn sc)), SV.pv (PV.agg [Lf.int IntKind.i64 p1by0, Lf.int IntKind.i64 p1by1])]) (vs := [Value.slice sa sn sc, Value.agg #[Value.int IntKind.i64
    p1by0, Value.int IntKind.i64 p1by1]]) Tryz.func83 rfl rfl rfl (Eq.mp (by kernel_rfl) h) 
set_option maxRecDepth 100000 in
set_option maxHeartbeats 2000000 in
theorem vc84 (sa : Option Addr) (sn : Nat) (sc : Nat) (p1by0 : Int) (p1by1 : Int) (w : World) (R : Ending → World → Prop) (h : ∀ (m1 : Nat), w.heap.size ≤ m1 → ∀ (w1 : World),
    RowKit.Below w.heap.size w w1 → Kept [m1] w w1 → w1.heap[m1]? = some (Obj.cells #[Value.int IntKind.i64 p1by0, Value.int IntKind.i64 p1by1] 47) → Calls Tryz.prog 144
    #[Value.slice sa sn sc, Value.func (Fn.func 145) #[] #[Value.pointer (some { block := m1, off := 0 })]] w1 fun (e1 : Ending) (w2 : World) => ∃ (a1 : Option Addr), ∃ (m3 : Nat),
    ∃ (m4 : Nat), e1 = Ending.returned (Value.slice a1 m3 m4) ∧ KeepX true w.heap.size [m1] (fun _ => False) w1 w2 ∧ ∀ (w3 : World), RowKit.Below w.heap.size w w3 → Kept [m1] w2 w3
    → R (Ending.returned (Value.slice a1 m3 m4)) w3) : Calls Tryz.prog 84 #[Value.slice sa sn sc, Value.agg #[Value.int IntKind.i64 p1by0, Value.int IntKind.i64 p1by1]] w R :=
    calls_of_vc (pure := true) (wrapAt := []) (muts := []) (esc := []) (args := [SV.pv (PV.one (Lf.sl sa sn sc)), SV.pv (PV.agg [Lf.int IntKind.i64 p1by0, Lf.int IntKind.i64
    p1by1])]) (vs := [Value.slice sa sn sc, Value.agg #[Value.int IntKind.i64 p1by0, Value.int IntKind.i64 p1by1]]) Tryz.func84 rfl rfl rfl (Eq.mp (by kernel_rfl) h) 
set_option maxRecDepth 100000 in
set_option maxHeartbeats 2000000 in
theorem vc86 (setsa : Option Addr) (setsn : Nat) (setsc : Nat) (w : World) (R : Ending → World → Prop) (h : ∀ (w1 : World), RowKit.Below w.heap.size w w1 → Kept [] w w1 → Calls
    Tryz.prog 147 #[Value.slice setsa setsn setsc] w1 fun (e1 : Ending) (w2 : World) => ∃ (a1 : Option Addr), ∃ (m1 : Nat), ∃ (m2 : Nat), e1 = Ending.returned (Value.slice a1 m1
    m2) ∧ KeepX true w.heap.size [] (fun _ => False) w1 w2 ∧ ∀ (w3 : World), RowKit.Below w.heap.size w w3 → Kept [] w2 w3 → Calls Tryz.prog 148 #[Value.slice a1 m1 m2] w3 fun (e2
    : Ending) (w4 : World) => ∃ (a2 : Option Addr), ∃ (m4 : Nat), ∃ (m5 : Nat), e2 = Ending.returned (Value.slice a2 m4 m5) ∧ KeepX true w.heap.size [] (fun _ => False) w3 w4 ∧ ∀
    (w5 : World), RowKit.Below w.heap.size w w5 → Kept [] w4 w5 → R (Ending.returned (Value.slice a2 m4 m5)) w5) : Calls Tryz.prog 86 #[Value.slice setsa setsn setsc] w R :=
    calls_of_vc (pure := true) (wrapAt := []) (muts := []) (esc := []) (args := [SV.pv (PV.one (Lf.sl setsa setsn setsc))]) (vs := [Value.slice setsa setsn setsc]) Tryz.func86 rfl
    rfl rfl (Eq.mp (by kernel_rfl) h) 
set_option maxRecDepth 100000 in
set_option maxHeartbeats 2000000 in
theorem vc144 (sa : Option Addr) (sn : Nat) (sc : Nat) (p1tof : Nat) (p1toi : List Value) (p1toc : List Value) (w : World) (R : Ending → World → Prop) (h : ∃ (F1 : List Lf → World
    → Prop), ∃ (F2 : List Lf → Nat), (∀ (w2 : World), RowKit.Below w.heap.size w w2 → Kept [] w w2 → F1 [Lf.sl none 0 0, Lf.int IntKind.i64 0] w2) ∧ ∀ (a1 : Option Addr) (m1 m2 :
    Nat) (x1 : Int) (w3 : World), RowKit.Below w.heap.size w w3 → F1 [Lf.sl a1 m1 m2, Lf.int IntKind.i64 x1] w3 → (x1 < (↑sn : Int) → ∃ (m3 : Nat), ∃ (m4 : Nat), sa = some
    { block := m3, off := m4 } ∧ (0 ≤ x1 ∧ x1 < (↑sn : Int)) ∧ ∃ (x2 : Int), ∃ (x3 : Int), w3.cell? { block := m3, off := m4 + x1.toNat * 2 } = some (Value.int IntKind.i64 x2) ∧
    w3.cell? { block := m3, off := m4 + x1.toNat * 2 + 1 } = some (Value.int IntKind.i64 x3) ∧ ∀ (m5 : Nat), w3.heap.size ≤ m5 → Callable Tryz.prog p1tof ∧ ∀ (w4 : World),
    RowKit.Below w.heap.size w w4 → Kept [m5] w3 w4 → Calls Tryz.prog p1tof (p1toi ++ [Value.agg #[Value.int IntKind.i64 x2, Value.int IntKind.i64 x3]] ++ p1toc).toArray w4 fun (e1
    : Ending) (w5 : World) => ∃ (x4 : Int), ∃ (x5 : Int), ∃ (t1 : Bool), e1 = Ending.returned (Value.tuple #[Value.agg #[Value.int IntKind.i64 x4, Value.int IntKind.i64 x5],
    Value.bool t1]) ∧ KeepX true w.heap.size [m5] (fun _ => False) w4 w5 ∧ ∀ (m7 : Nat), w5.heap.size ≤ m7 → (t1 = true → ∀ (m8 : Nat), w5.heap.size ≤ m8 → ∀ (w6 : World),
    RowKit.Below w.heap.size w w6 → Kept [m8, m7, m5] w5 w6 → w6.heap[m8]? = some (Obj.cells #[Value.int IntKind.i64 x4, Value.int IntKind.i64 x5] 47) → RunsTo Tryz.prog
    (Builtin.append_ #[122, 122] 122 #[Value.slice a1 m1 m2, Value.slice (some { block := m8, off := 0 }) 1 1]) w6 fun (v1 : Value) (w7 : World) => ∃ (a2 : Option Addr), ∃ (m10 :
    Nat), ∃ (m11 : Nat), v1 = Value.slice a2 m10 m11 ∧ KeepX true w.heap.size [m8, m7, m5] (fun _ => False) w6 w7 ∧ (-9223372036854775808 ≤ x1 + 1 ∧ x1 + (1 : Int) ≤
    9223372036854775807) ∧ ∀ (w8 : World), RowKit.Below w.heap.size w w8 → Kept [m8, m7, m5] w7 w8 → F1 [Lf.sl a2 m10 m11, Lf.int IntKind.i64 (x1 + 1)] w8 ∧ F2 [Lf.sl a2 m10 m11,
    Lf.int IntKind.i64 (x1 + 1)] < F2 [Lf.sl a1 m1 m2, Lf.int IntKind.i64 x1]) ∧ (t1 = false → (-9223372036854775808 ≤ x1 + 1 ∧ x1 + (1 : Int) ≤ 9223372036854775807) ∧ ∀ (w9 :
    World), RowKit.Below w.heap.size w w9 → Kept [m7, m5] w5 w9 → F1 [Lf.sl a1 m1 m2, Lf.int IntKind.i64 (x1 + 1)] w9 ∧ F2 [Lf.sl a1 m1 m2, Lf.int IntKind.i64 (x1 + 1)] < F2 [Lf.sl
    a1 m1 m2, Lf.int IntKind.i64 x1])) ∧ ((↑sn : Int) ≤ x1 → ∀ (w10 : World), RowKit.Below w.heap.size w w10 → Kept [] w3 w10 → Calls Tryz.prog 148 #[Value.slice a1 m1 m2] w10 fun
    (e2 : Ending) (w11 : World) => ∃ (a3 : Option Addr), ∃ (m13 : Nat), ∃ (m14 : Nat), e2 = Ending.returned (Value.slice a3 m13 m14) ∧ KeepX true w.heap.size [] (fun _ => False)
    w10 w11 ∧ ∀ (w12 : World), RowKit.Below w.heap.size w w12 → Kept [] w11 w12 → R (Ending.returned (Value.slice a3 m13 m14)) w12)) : Calls Tryz.prog 144 #[Value.slice sa sn sc,
    Value.func (Fn.func p1tof) p1toi.toArray p1toc.toArray] w R := calls_of_vc (pure := true) (wrapAt := []) (muts := []) (esc := []) (args := [SV.pv (PV.one (Lf.sl sa sn sc)),
    SV.pv (PV.one (Lf.fv p1tof p1toi p1toc))]) (vs := [Value.slice sa sn sc, Value.func (Fn.func p1tof) p1toi.toArray p1toc.toArray]) Tryz.func144 rfl rfl rfl (Eq.mp (by
    kernel_rfl) h) 
set_option maxRecDepth 100000 in
set_option maxHeartbeats 2000000 in
theorem vc145 (x0 : Int) (x1 : Int) (cap0b : Nat) (w : World) (R : Ending → World → Prop) (h : ∀ (m1 : Nat), w.heap.size ≤ m1 → ∀ (m2 : Nat), w.heap.size ≤ m2 → ∃ (x1_1 : Int),
    w.cell? { block := cap0b, off := 0 + 1 } = some (Value.int IntKind.i64 x1_1) ∧ (cap0b < w.heap.size ∨ cap0b ≠ m2 ∧ cap0b ≠ m1) ∧ (-9223372036854775808 ≤ x0 - x1_1 ∧ x0 - x1_1 ≤
    9223372036854775807) ∧ ∃ (x2 : Int), w.cell? { block := cap0b, off := 0 + 0 } = some (Value.int IntKind.i64 x2) ∧ (cap0b < w.heap.size ∨ cap0b ≠ m2 ∧ cap0b ≠ m1) ∧
    (-9223372036854775808 ≤ x1 - x2 ∧ x1 - x2 ≤ 9223372036854775807) ∧ (cap0b < w.heap.size ∨ cap0b ≠ m2) ∧ ∃ (x3 : Int), w.cell? { block := cap0b, off := 0 + 0 } = some (Value.int
    IntKind.i64 x3) ∧ (cap0b < w.heap.size ∨ cap0b ≠ m2 ∧ cap0b ≠ m1) ∧ ∀ (w1 : World), RowKit.Below w.heap.size w w1 → Kept [m2, m1] w w1 → R (Ending.returned (Value.tuple
    #[Value.agg #[Value.int IntKind.i64 (max 0 (x0 - x1_1)), Value.int IntKind.i64 (x1 - x2)], Value.bool (decide (x3 ≤ x1))])) w1) : Calls Tryz.prog 145 #[Value.agg #[Value.int
    IntKind.i64 x0, Value.int IntKind.i64 x1], Value.pointer (some { block := cap0b, off := 0 })] w R := calls_of_vc (pure := true) (wrapAt := []) (muts := []) (esc := []) (args :=
    [SV.pv (PV.agg [Lf.int IntKind.i64 x0, Lf.int IntKind.i64 x1]), SV.pv (PV.one (Lf.ptr cap0b 0))]) (vs := [Value.agg #[Value.int IntKind.i64 x0, Value.int IntKind.i64 x1],
    Value.pointer (some { block := cap0b, off := 0 })]) Tryz.func145 rfl rfl rfl (Eq.mp (by kernel_rfl) h) 
set_option maxRecDepth 100000 in
set_option maxHeartbeats 2000000 in
theorem vc146 (sa : Option Addr) (sn : Nat) (sc : Nat) (p1by0 : Int) (p1by1 : Int) (line : Int) (w : World) (R : Ending → World → Prop) (h : ∀ (m1 : Nat), w.heap.size ≤ m1 → ∀ (m2
    : Nat), w.heap.size ≤ m2 → ∀ (w1 : World), RowKit.Below w.heap.size w w1 → Kept [m2, m1] w w1 → w1.heap[m2]? = some (Obj.cells #[Value.int IntKind.i64 line] 3) → w1.heap[m1]? =
    some (Obj.cells #[Value.int IntKind.i64 p1by0, Value.int IntKind.i64 p1by1] 47) → Calls Tryz.prog 144 #[Value.slice sa sn sc, Value.func (Fn.func 199) #[] #[Value.pointer (some
    { block := m2, off := 0 }), Value.pointer (some { block := m1, off := 0 })]] w1 fun (e1 : Ending) (w2 : World) => ∃ (a1 : Option Addr), ∃ (m5 : Nat), ∃ (m6 : Nat), e1 =
    Ending.returned (Value.slice a1 m5 m6) ∧ KeepX true w.heap.size [m2, m1] (fun _ => False) w1 w2 ∧ ∀ (w3 : World), RowKit.Below w.heap.size w w3 → Kept [m2, m1] w2 w3 → R
    (Ending.returned (Value.slice a1 m5 m6)) w3) : Calls Tryz.prog 146 #[Value.slice sa sn sc, Value.agg #[Value.int IntKind.i64 p1by0, Value.int IntKind.i64 p1by1], Value.int
    IntKind.i64 line] w R := calls_of_vc (pure := true) (wrapAt := []) (muts := []) (esc := []) (args := [SV.pv (PV.one (Lf.sl sa sn sc)), SV.pv (PV.agg [Lf.int IntKind.i64 p1by0,
    Lf.int IntKind.i64 p1by1]), SV.pv (PV.one (Lf.int IntKind.i64 line))]) (vs := [Value.slice sa sn sc, Value.agg #[Value.int IntKind.i64 p1by0, Value.int IntKind.i64 p1by1],
    Value.int IntKind.i64 line]) Tryz.func146 rfl rfl rfl (Eq.mp (by kernel_rfl) h) 
set_option maxRecDepth 100000 in
set_option maxHeartbeats 2000000 in
theorem vc199 (x0 : Int) (x1 : Int) (cap0b : Nat) (cap1b : Nat) (w : World) (R : Ending → World → Prop) (h : ∀ (m1 : Nat), w.heap.size ≤ m1 → ∀ (m2 : Nat), w.heap.size ≤ m2 → ∃
    (x1_1 : Int), w.cell? { block := cap0b, off := 0 } = some (Value.int IntKind.i64 x1_1) ∧ (cap0b < w.heap.size ∨ cap0b ≠ m2 ∧ cap0b ≠ m1) ∧ ∃ (x2 : Int), w.cell?
    { block := cap1b, off := 0 + 0 } = some (Value.int IntKind.i64 x2) ∧ (cap1b < w.heap.size ∨ cap1b ≠ m2 ∧ cap1b ≠ m1) ∧ (-9223372036854775808 ≤ x0 + x2 ∧ x0 + x2 ≤
    9223372036854775807) ∧ ∃ (x3 : Int), w.cell? { block := cap0b, off := 0 } = some (Value.int IntKind.i64 x3) ∧ (cap0b < w.heap.size ∨ cap0b ≠ m2 ∧ cap0b ≠ m1) ∧ ∃ (x4 : Int),
    w.cell? { block := cap1b, off := 0 + 1 } = some (Value.int IntKind.i64 x4) ∧ (cap1b < w.heap.size ∨ cap1b ≠ m2 ∧ cap1b ≠ m1) ∧ (-9223372036854775808 ≤ x1 + x4 ∧ x1 + x4 ≤
    9223372036854775807) ∧ ∀ (w1 : World), RowKit.Below w.heap.size w w1 → Kept [m2, m1] w w1 → R (Ending.returned (Value.tuple #[Value.agg #[Value.int IntKind.i64 (min x1_1 (x0 +
    x2)), Value.int IntKind.i64 (min x3 (x1 + x4))], Value.bool true])) w1) : Calls Tryz.prog 199 #[Value.agg #[Value.int IntKind.i64 x0, Value.int IntKind.i64 x1], Value.pointer
    (some { block := cap0b, off := 0 }), Value.pointer (some { block := cap1b, off := 0 })] w R := calls_of_vc (pure := true) (wrapAt := []) (muts := []) (esc := []) (args :=
    [SV.pv (PV.agg [Lf.int IntKind.i64 x0, Lf.int IntKind.i64 x1]), SV.pv (PV.one (Lf.ptr cap0b 0)), SV.pv (PV.one (Lf.ptr cap1b 0))]) (vs := [Value.agg #[Value.int IntKind.i64 x0,
    Value.int IntKind.i64 x1], Value.pointer (some { block := cap0b, off := 0 }), Value.pointer (some { block := cap1b, off := 0 })]) Tryz.func199 rfl rfl rfl (Eq.mp (by
    kernel_rfl) h) 
set_option maxRecDepth 100000 in
set_option maxHeartbeats 2000000 in
theorem vc147 (slicesa : Option Addr) (slicesn : Nat) (slicesc : Nat) (w : World) (R : Ending → World → Prop) (h : ∃ (F1 : List Lf → World → Prop), ∃ (F2 : List Lf → Nat), (∀ (w2 :
    World), RowKit.Below w.heap.size w w2 → Kept [] w w2 → F1 [Lf.int IntKind.i64 0, Lf.int IntKind.i64 0] w2) ∧ ∀ (x1 x2 : Int) (w3 : World), RowKit.Below w.heap.size w w3 → F1
    [Lf.int IntKind.i64 x1, Lf.int IntKind.i64 x2] w3 → (x2 < (↑slicesn : Int) → ∃ (m1 : Nat), ∃ (m2 : Nat), slicesa = some { block := m1, off := m2 } ∧ (0 ≤ x2 ∧ x2 < (↑slicesn :
    Int)) ∧ ∃ (a1 : Option Addr), ∃ (m3 : Nat), ∃ (m4 : Nat), w3.cell? { block := m1, off := m2 + x2.toNat * 1 } = some (Value.slice a1 m3 m4) ∧ (-9223372036854775808 ≤ x1 + (↑m3 :
    Int) ∧ x1 + (↑m3 : Int) ≤ 9223372036854775807) ∧ (x1 + (↑m3 : Int) < 0 → ∀ (w4 : World), RowKit.Below w.heap.size w w4 → Kept [] w3 w4 → RunsTo Tryz.prog (Instr.makeInterface 9
    (Value.string { data := #[108, 101, 110, 32, 111, 117, 116, 32, 111, 102, 32, 114, 97, 110, 103, 101] })) w4 fun (v1 : Value) (w5 : World) => ∃ (v2 : Value), v1 = v2 ∧ KeepX
    true w.heap.size [] (fun _ => False) w4 w5 ∧ Unsup "an operation that is not plain") ∧ (0 ≤ x1 + (↑m3 : Int) → (-9223372036854775808 ≤ x2 + 1 ∧ x2 + (1 : Int) ≤
    9223372036854775807) ∧ ∀ (w6 : World), RowKit.Below w.heap.size w w6 → Kept [] w3 w6 → F1 [Lf.int IntKind.i64 (x1 + (↑m3 : Int)), Lf.int IntKind.i64 (x2 + 1)] w6 ∧ F2 [Lf.int
    IntKind.i64 (x1 + (↑m3 : Int)), Lf.int IntKind.i64 (x2 + 1)] < F2 [Lf.int IntKind.i64 x1, Lf.int IntKind.i64 x2])) ∧ ((↑slicesn : Int) ≤ x2 → ∀ (w7 : World), RowKit.Below
    w.heap.size w w7 → Kept [] w3 w7 → Calls Tryz.prog 200 #[Value.slice none 0 0, Value.int IntKind.i64 x1] w7 fun (e1 : Ending) (w8 : World) => ∃ (a2 : Option Addr), ∃ (m6 :
    Nat), ∃ (m7 : Nat), e1 = Ending.returned (Value.slice a2 m6 m7) ∧ KeepX true w.heap.size [] (fun _ => False) w7 w8 ∧ ∃ (F3 : List Lf → World → Prop), ∃ (F4 : List Lf → Nat), (∀
    (w10 : World), RowKit.Below w.heap.size w w10 → Kept [] w8 w10 → F3 [Lf.sl a2 m6 m7, Lf.int IntKind.i64 0] w10) ∧ ∀ (a3 : Option Addr) (m9 m10 : Nat) (x3 : Int) (w11 : World),
    RowKit.Below w.heap.size w w11 → F3 [Lf.sl a3 m9 m10, Lf.int IntKind.i64 x3] w11 → (x3 < (↑slicesn : Int) → ∃ (m11 : Nat), ∃ (m12 : Nat), slicesa = some
    { block := m11, off := m12 } ∧ (0 ≤ x3 ∧ x3 < (↑slicesn : Int)) ∧ ∃ (a4 : Option Addr), ∃ (m13 : Nat), ∃ (m14 : Nat), w11.cell? { block := m11, off := m12 + x3.toNat * 1 } =
    some (Value.slice a4 m13 m14) ∧ ∀ (w12 : World), RowKit.Below w.heap.size w w12 → Kept [] w11 w12 → RunsTo Tryz.prog (Builtin.append_ #[122, 122] 122 #[Value.slice a3 m9 m10,
    Value.slice a4 m13 m14]) w12 fun (v3 : Value) (w13 : World) => ∃ (a5 : Option Addr), ∃ (m15 : Nat), ∃ (m16 : Nat), v3 = Value.slice a5 m15 m16 ∧ KeepX true w.heap.size [] (fun
    _ => False) w12 w13 ∧ (-9223372036854775808 ≤ x3 + 1 ∧ x3 + (1 : Int) ≤ 9223372036854775807) ∧ ∀ (w14 : World), RowKit.Below w.heap.size w w14 → Kept [] w13 w14 → F3 [Lf.sl a5
    m15 m16, Lf.int IntKind.i64 (x3 + 1)] w14 ∧ F4 [Lf.sl a5 m15 m16, Lf.int IntKind.i64 (x3 + 1)] < F4 [Lf.sl a3 m9 m10, Lf.int IntKind.i64 x3]) ∧ ((↑slicesn : Int) ≤ x3 → ∀ (w15
    : World), RowKit.Below w.heap.size w w15 → Kept [] w11 w15 → R (Ending.returned (Value.slice a3 m9 m10)) w15))) : Calls Tryz.prog 147 #[Value.slice slicesa slicesn slicesc] w R
    := calls_of_vc (pure := true) (wrapAt := []) (muts := []) (esc := []) (args := [SV.pv (PV.one (Lf.sl slicesa slicesn slicesc))]) (vs := [Value.slice slicesa slicesn slicesc])
    Tryz.func147 rfl rfl rfl (Eq.mp (by kernel_rfl) h) 
set_option maxRecDepth 100000 in
set_option maxHeartbeats 2000000 in
theorem vc200 (sa : Option Addr) (sn : Nat) (sc : Nat) (n : Int) (w : World) (R : Ending → World → Prop) (h : (n < 0 → ∀ (w1 : World), RowKit.Below w.heap.size w w1 → Kept [] w w1
    → RunsTo Tryz.prog (Instr.makeInterface 9 (Value.string { data := #[99, 97, 110, 110, 111, 116, 32, 98, 101, 32, 110, 101, 103, 97, 116, 105, 118, 101] })) w1 fun (v1 : Value)
    (w2 : World) => ∃ (v2 : Value), v1 = v2 ∧ KeepX true w.heap.size [] (fun _ => False) w1 w2 ∧ Unsup "an operation that is not plain") ∧ (0 ≤ n → ∀ (w3 : World), RowKit.Below
    w.heap.size w w3 → Kept [] w w3 → RunsTo Tryz.prog (Builtin.cap_ #[122] 3 #[Value.slice sa sn sc]) w3 fun (v3 : Value) (w4 : World) => ∃ (x1 : Int), v3 = Value.int IntKind.i64
    x1 ∧ KeepX true w.heap.size [] (fun _ => False) w3 w4 ∧ (-9223372036854775808 ≤ x1 - (↑sn : Int) ∧ x1 - (↑sn : Int) ≤ 9223372036854775807) ∧ (-9223372036854775808 ≤ n - (x1 -
    (↑sn : Int)) ∧ n - (x1 - (↑sn : Int)) ≤ 9223372036854775807) ∧ (0 < n - (x1 - (↑sn : Int)) → ∀ (w5 : World), RowKit.Below w.heap.size w w5 → Kept [] w4 w5 → RunsTo Tryz.prog
    (Builtin.cap_ #[122] 3 #[Value.slice sa sn sc]) w5 fun (v4 : Value) (w6 : World) => ∃ (x2 : Int), v4 = Value.int IntKind.i64 x2 ∧ KeepX true w.heap.size [] (fun _ => False) w5
    w6 ∧ (((0 : Int) ≤ 0 ∧ 0 ≤ x2) ∧ x2 ≤ (↑sc : Int)) ∧ ∀ (w7 : World), RowKit.Below w.heap.size w w7 → Kept [] w6 w7 → RunsTo Tryz.prog (Builtin.append_ #[122, 3] 122
    #[Value.slice (subA sa sc (Int.toNat 0) 2) (x2.toNat - Int.toNat 0) (sc - Int.toNat 0), Value.int IntKind.i64 (n - (x1 - (↑sn : Int)))]) w7 fun (v5 : Value) (w8 : World) => ∃
    (a1 : Option Addr), ∃ (m4 : Nat), ∃ (m5 : Nat), v5 = Value.slice a1 m4 m5 ∧ KeepX true w.heap.size [] (fun _ => False) w7 w8 ∧ (((0 : Int) ≤ 0 ∧ 0 ≤ (↑sn : Int)) ∧ (↑sn : Int)
    ≤ (↑m5 : Int)) ∧ ∀ (w9 : World), RowKit.Below w.heap.size w w9 → Kept [] w8 w9 → R (Ending.returned (Value.slice (subA a1 m5 (Int.toNat 0) 2) ((↑sn : Int).toNat - Int.toNat 0)
    (m5 - Int.toNat 0))) w9) ∧ (n - (x1 - (↑sn : Int)) ≤ 0 → ∀ (w10 : World), RowKit.Below w.heap.size w w10 → Kept [] w4 w10 → R (Ending.returned (Value.slice sa sn sc)) w10))) :
    Calls Tryz.prog 200 #[Value.slice sa sn sc, Value.int IntKind.i64 n] w R := calls_of_vc (pure := true) (wrapAt := []) (muts := []) (esc := []) (args := [SV.pv (PV.one (Lf.sl sa
    sn sc)), SV.pv (PV.one (Lf.int IntKind.i64 n))]) (vs := [Value.slice sa sn sc, Value.int IntKind.i64 n]) Tryz.func200 rfl rfl rfl (Eq.mp (by kernel_rfl) h) 
set_option maxRecDepth 100000 in
set_option maxHeartbeats 2000000 in
theorem vc201 (sa : Option Addr) (sn : Nat) (sc : Nat) (w : World) (R : Ending → World → Prop) (h : ∀ (w1 : World), RowKit.Below w.heap.size w w1 → Kept [] w w1 → RunsTo Tryz.prog
    ((eqGuard BinOp.eql 122 (Operand.tmp 3) (Operand.const (Value.slice none 0 0)) (Value.slice sa sn sc) (Value.slice none 0 0)) >>= fun _ => binOp BinOp.eql 122 (Value.slice sa
    sn sc) (Value.slice none 0 0)) w1 fun (v1 : Value) (w2 : World) => ∃ (t1 : Bool), v1 = Value.bool t1 ∧ KeepX true w.heap.size [] (fun _ => False) w1 w2 ∧ (t1 = true → ∀ (w3 :
    World), RowKit.Below w.heap.size w w3 → Kept [] w2 w3 → R (Ending.returned (Value.slice none 0 0)) w3) ∧ (t1 = false → ∀ (m2 : Nat), w2.heap.size ≤ m2 → ∀ (w4 : World),
    RowKit.Below w.heap.size w w4 → Kept [m2] w2 w4 → w4.heap[m2]? = some (Obj.cells #[] 47) → RunsTo Tryz.prog (Builtin.append_ #[122, 122] 122 #[Value.slice (some
    { block := m2, off := 0 }) 0 0, Value.slice sa sn sc]) w4 fun (v2 : Value) (w5 : World) => ∃ (a1 : Option Addr), ∃ (m4 : Nat), ∃ (m5 : Nat), v2 = Value.slice a1 m4 m5 ∧ KeepX
    true w.heap.size [m2] (fun _ => False) w4 w5 ∧ ∀ (w6 : World), RowKit.Below w.heap.size w w6 → Kept [m2] w5 w6 → R (Ending.returned (Value.slice a1 m4 m5)) w6)) : Calls
    Tryz.prog 201 #[Value.slice sa sn sc] w R := calls_of_vc (pure := true) (wrapAt := []) (muts := []) (esc := []) (args := [SV.pv (PV.one (Lf.sl sa sn sc))]) (vs := [Value.slice
    sa sn sc]) Tryz.func201 rfl rfl rfl (Eq.mp (by kernel_rfl) h) 
set_option maxRecDepth 100000 in
set_option maxHeartbeats 2000000 in
theorem vc202 (xa : Option Addr) (xn : Nat) (xc : Nat) (cmpf : Nat) (cmpi : List Value) (cmpc : List Value) (w : World) (R : Ending → World → Prop) (h : (0 ≤ (↑xn : Int) ∧ (↑xn :
    Int) ≤ 18446744073709551615) ∧ ∀ (w1 : World), RowKit.Below w.heap.size w w1 → Kept [] w w1 → Calls Tryz.prog 107 #[Value.int IntKind.u64 (↑xn : Int)] w1 fun (e1 : Ending) (w2
    : World) => ∃ (x1 : Int), e1 = Ending.returned (Value.int IntKind.i64 x1) ∧ KeepX true w.heap.size [] (fun _ => False) w1 w2 ∧ ∀ (w3 : World), RowKit.Below w.heap.size w w3 →
    Kept [] w2 w3 → Calls Tryz.prog 197 #[Value.slice xa xn xc, Value.int IntKind.i64 0, Value.int IntKind.i64 (↑xn : Int), Value.int IntKind.i64 x1, Value.func (Fn.func cmpf)
    cmpi.toArray cmpc.toArray] w3 fun (e2 : Ending) (w4 : World) => e2 = Ending.returned (Value.tuple #[]) ∧ KeepX true w.heap.size [] (fun _ => False) w3 w4 ∧ ∀ (w5 : World),
    RowKit.Below w.heap.size w w5 → Kept [] w4 w5 → R (Ending.returned (Value.tuple #[])) w5) : Calls Tryz.prog 202 #[Value.slice xa xn xc, Value.func (Fn.func cmpf) cmpi.toArray
    cmpc.toArray] w R := calls_of_vc (pure := true) (wrapAt := []) (muts := []) (esc := []) (args := [SV.pv (PV.one (Lf.sl xa xn xc)), SV.pv (PV.one (Lf.fv cmpf cmpi cmpc))]) (vs
    := [Value.slice xa xn xc, Value.func (Fn.func cmpf) cmpi.toArray cmpc.toArray]) Tryz.func202 rfl rfl rfl (Eq.mp (by kernel_rfl) h) 
set_option maxRecDepth 100000 in
set_option maxHeartbeats 2000000 in
theorem vc148 (sa : Option Addr) (sn : Nat) (sc : Nat) (w : World) (R : Ending → World → Prop) (h : ∀ (w1 : World), RowKit.Below w.heap.size w w1 → Kept [] w w1 → Calls Tryz.prog
    201 #[Value.slice sa sn sc] w1 fun (e1 : Ending) (w2 : World) => ∃ (a1 : Option Addr), ∃ (m1 : Nat), ∃ (m2 : Nat), e1 = Ending.returned (Value.slice a1 m1 m2) ∧ KeepX true
    w.heap.size [] (fun _ => False) w1 w2 ∧ ∀ (w3 : World), RowKit.Below w.heap.size w w3 → Kept [] w2 w3 → Calls Tryz.prog 202 #[Value.slice a1 m1 m2, Value.func (Fn.func 203) #[]
    #[]] w3 fun (e2 : Ending) (w4 : World) => e2 = Ending.returned (Value.tuple #[]) ∧ KeepX true w.heap.size [] (fun _ => False) w3 w4 ∧ ∃ (F1 : List Lf → World → Prop), ∃ (F2 :
    List Lf → Nat), (∀ (w6 : World), RowKit.Below w.heap.size w w6 → Kept [] w4 w6 → F1 [Lf.sl none 0 0, Lf.int IntKind.i64 0] w6) ∧ ∀ (a2 : Option Addr) (m5 m6 : Nat) (x1 : Int)
    (w7 : World), RowKit.Below w.heap.size w w7 → F1 [Lf.sl a2 m5 m6, Lf.int IntKind.i64 x1] w7 → (x1 < (↑m1 : Int) → ∃ (m7 : Nat), ∃ (m8 : Nat), a1 = some
    { block := m7, off := m8 } ∧ (0 ≤ x1 ∧ x1 < (↑m1 : Int)) ∧ ∃ (x2 : Int), ∃ (x3 : Int), w7.cell? { block := m7, off := m8 + x1.toNat * 2 } = some (Value.int IntKind.i64 x2) ∧
    w7.cell? { block := m7, off := m8 + x1.toNat * 2 + 1 } = some (Value.int IntKind.i64 x3) ∧ ∀ (m9 : Nat), w7.heap.size ≤ m9 → (-9223372036854775808 ≤ (↑m5 : Int) - 1 ∧ (↑m5 :
    Int) - (1 : Int) ≤ 9223372036854775807) ∧ (0 ≤ (↑m5 : Int) - 1 → ∃ (m10 : Nat), ∃ (m11 : Nat), a2 = some { block := m10, off := m11 } ∧ (0 ≤ (↑m5 : Int) - 1 ∧ (↑m5 : Int) - 1 <
    (↑m5 : Int)) ∧ ∃ (x4 : Int), w7.cell? { block := m10, off := m11 + ((↑m5 : Int) - 1).toNat * 2 + 1 } = some (Value.int IntKind.i64 x4) ∧ (m10 < w.heap.size ∨ m10 ≠ m9) ∧
    (-9223372036854775808 ≤ x4 + 1 ∧ x4 + (1 : Int) ≤ 9223372036854775807) ∧ (x2 ≤ x4 + 1 → ∃ (m12 : Nat), ∃ (m13 : Nat), a2 = some { block := m12, off := m13 } ∧ (0 ≤ (↑m5 : Int)
    - 1 ∧ (↑m5 : Int) - 1 < (↑m5 : Int)) ∧ ∃ (x5 : Int), w7.cell? { block := m12, off := m13 + ((↑m5 : Int) - 1).toNat * 2 + 1 } = some (Value.int IntKind.i64 x5) ∧ (m12 <
    w.heap.size ∨ m12 ≠ m9) ∧ ∃ (m14 : Nat), ∃ (m15 : Nat), a2 = some { block := m14, off := m15 } ∧ (0 ≤ (↑m5 : Int) - 1 ∧ (↑m5 : Int) - 1 < (↑m5 : Int)) ∧ ∀ (w8 : World),
    RowKit.Below w.heap.size w w8 → KeptIn [(0, w7.heap.size)] [m9] w7 w8 → RunsTo Tryz.prog ((Instr.storeAt 3 (Value.pointer (some
    { block := m14, off := m15 + ((↑m5 : Int) - 1).toNat * 2 + 1 })) (Value.int IntKind.i64 (max x5 x3))) >>= fun _ => pure (Value.tuple #[])) w8 fun (v1 : Value) (w9 : World) =>
    KeepX true w.heap.size [m9] (fun _ => False) w8 w9 ∧ (-9223372036854775808 ≤ x1 + 1 ∧ x1 + (1 : Int) ≤ 9223372036854775807) ∧ ∀ (w10 : World), RowKit.Below w.heap.size w w10 →
    Kept [m9] w9 w10 → F1 [Lf.sl a2 m5 m6, Lf.int IntKind.i64 (x1 + 1)] w10 ∧ F2 [Lf.sl a2 m5 m6, Lf.int IntKind.i64 (x1 + 1)] < F2 [Lf.sl a2 m5 m6, Lf.int IntKind.i64 x1]) ∧ (x4 +
    1 < x2 → ∀ (m17 : Nat), w7.heap.size ≤ m17 → ∀ (w11 : World), RowKit.Below w.heap.size w w11 → Kept [m17, m9] w7 w11 → w11.heap[m17]? = some (Obj.cells #[Value.int IntKind.i64
    x2, Value.int IntKind.i64 x3] 47) → RunsTo Tryz.prog (Builtin.append_ #[122, 122] 122 #[Value.slice a2 m5 m6, Value.slice (some { block := m17, off := 0 }) 1 1]) w11 fun (v2 :
    Value) (w12 : World) => ∃ (a3 : Option Addr), ∃ (m19 : Nat), ∃ (m20 : Nat), v2 = Value.slice a3 m19 m20 ∧ KeepX true w.heap.size [m17, m9] (fun _ => False) w11 w12 ∧
    (-9223372036854775808 ≤ x1 + 1 ∧ x1 + (1 : Int) ≤ 9223372036854775807) ∧ ∀ (w13 : World), RowKit.Below w.heap.size w w13 → Kept [m17, m9] w12 w13 → F1 [Lf.sl a3 m19 m20, Lf.int
    IntKind.i64 (x1 + 1)] w13 ∧ F2 [Lf.sl a3 m19 m20, Lf.int IntKind.i64 (x1 + 1)] < F2 [Lf.sl a2 m5 m6, Lf.int IntKind.i64 x1])) ∧ ((↑m5 : Int) - (1 : Int) < 0 → ∀ (m22 : Nat),
    w7.heap.size ≤ m22 → ∀ (w14 : World), RowKit.Below w.heap.size w w14 → Kept [m22, m9] w7 w14 → w14.heap[m22]? = some (Obj.cells #[Value.int IntKind.i64 x2, Value.int
    IntKind.i64 x3] 47) → RunsTo Tryz.prog (Builtin.append_ #[122, 122] 122 #[Value.slice a2 m5 m6, Value.slice (some { block := m22, off := 0 }) 1 1]) w14 fun (v3 : Value) (w15 :
    World) => ∃ (a4 : Option Addr), ∃ (m24 : Nat), ∃ (m25 : Nat), v3 = Value.slice a4 m24 m25 ∧ KeepX true w.heap.size [m22, m9] (fun _ => False) w14 w15 ∧ (-9223372036854775808 ≤
    x1 + 1 ∧ x1 + (1 : Int) ≤ 9223372036854775807) ∧ ∀ (w16 : World), RowKit.Below w.heap.size w w16 → Kept [m22, m9] w15 w16 → F1 [Lf.sl a4 m24 m25, Lf.int IntKind.i64 (x1 + 1)]
    w16 ∧ F2 [Lf.sl a4 m24 m25, Lf.int IntKind.i64 (x1 + 1)] < F2 [Lf.sl a2 m5 m6, Lf.int IntKind.i64 x1])) ∧ ((↑m1 : Int) ≤ x1 → ∀ (w17 : World), RowKit.Below w.heap.size w w17 →
    Kept [] w7 w17 → R (Ending.returned (Value.slice a2 m5 m6)) w17)) : Calls Tryz.prog 148 #[Value.slice sa sn sc] w R := calls_of_vc (pure := true) (wrapAt := []) (muts := [])
    (esc := []) (args := [SV.pv (PV.one (Lf.sl sa sn sc))]) (vs := [Value.slice sa sn sc]) Tryz.func148 rfl rfl rfl (Eq.mp (by kernel_rfl) h) 
end Go.Proofs
end
section
/- The conditions of the functions, printed by program; each is what the generator reckons (kernel_rfl). -/
namespace Go.Proofs
open Go.Vc
set_option maxRecDepth 100000 in
set_option maxHeartbeats 2000000 in
theorem vc13 (c0 : Int) (c1a : Option Addr) (c1n : Nat) (c1c : Nat) (start : Int) (la : Option Addr) (ln : Nat) (lc : Nat) (till : Int) (w : World) (R : Ending → World → Prop) (h :
    ∀ (m1 : Nat), w.heap.size ≤ m1 → ∀ (m2 : Nat), w.heap.size ≤ m2 → ∀ (w1 : World), RowKit.Below w.heap.size w w1 → Kept [m2, m1] w w1 → Calls Tryz.prog 36 #[Value.agg
    #[Value.int IntKind.i64 c0, Value.slice c1a c1n c1c], Value.int IntKind.i64 start, Value.slice la ln lc, Value.int IntKind.i64 till] w1 fun (e1 : Ending) (w2 : World) => ∃ (a1
    : Option Addr), ∃ (x1 : Int), e1 = Ending.returned (Value.tuple #[Value.pointer a1, Value.int IntKind.i64 x1]) ∧ KeepX true w.heap.size [m2, m1] (fun _ => False) w1 w2 ∧ ∀ (m4
    : Nat), w2.heap.size ≤ m4 → (x1 ≠ 0 → ∀ (w3 : World), RowKit.Below w.heap.size w w3 → Kept [m4, m2, m1] w2 w3 → R (Ending.returned (Value.tuple #[Value.agg #[Value.int
    IntKind.i64 0, Value.int IntKind.i64 0], Value.int IntKind.i64 x1])) w3) ∧ (x1 = 0 → ∀ (w4 : World), RowKit.Below w.heap.size w w4 → Kept [m4, m2, m1] w2 w4 → Calls Tryz.prog
    37 #[Value.pointer a1, Value.int IntKind.i64 till] w4 fun (e2 : Ending) (w5 : World) => ∃ (v1 : Value), e2 = Ending.returned v1 ∧ KeepX true w.heap.size [m4, m2, m1] (fun _ =>
    False) w4 w5 ∧ ∃ (y1 : List Value), v1 = Value.func (Fn.func 81) #[] y1.toArray ∧ ∃ (m6 : Nat), ∃ (F1 : Nat → List Value → World → Prop), ∃ (F3 : (Nat → Prop) → List Lf → Nat →
    World → Prop), ∃ (F4 : Nat → World → Prop), IterK Tryz.prog 81 [] y1 m6 F1 F4 ∧ (∀ (w9 : World), RowKit.Below w.heap.size w w9 → Kept [m4, m2, m1] w5 w9 → w9.heap[m2]? = some
    (Obj.cells #[Value.int IntKind.i64 till, Value.int IntKind.i64 till] 47) → F3 (fun _ => False) [Lf.int IntKind.i64 till, Lf.int IntKind.i64 till] 0 w9) ∧ ∀ (x2 x3 : Int) (m13 :
    Nat) (F5 F6 : Nat → Prop) (w10 w11 : World), F3 F5 [Lf.int IntKind.i64 x2, Lf.int IntKind.i64 x3] m13 w10 → CalmFrom w.heap.size w10 w11 → (∀ (m16 : Nat), F5 m16 → F6 m16) → (∀
    (m17 : Nat), F6 m17 → F5 m17 ∨ w10.heap.size ≤ m17) → (∀ (m18 : Nat), F6 m18 → w.heap.size ≤ m18 ∧ m18 < w11.heap.size) → RowKit.Below w.heap.size w w11 → F4 m13 w11 ∧ (∀ (y5 :
    List Value), m13 < m6 → F1 m13 y5 w11 → ∃ (x4 : Int), y5 = [Value.int IntKind.i64 x4] ∧ ∀ (m19 : Nat) (w12 w13 : World), RowKit.Below w.heap.size w w13 → Kept [m4, m2, m1] w11
    w13 → ∀ (w14 : World), CalmFrom w.heap.size w13 w14 → ∀ (w15 w16 : World), RowKit.Below w.heap.size w w16 → Kept [m4, m2, m1] w14 w16 → Calls Tryz.prog 38 #[Value.pointer a1]
    w16 fun (e3 : Ending) (w17 : World) => ∃ (t1 : Bool), e3 = Ending.returned (Value.bool t1) ∧ KeepX true w.heap.size [m4, m2, m1] F6 w16 w17 ∧ (t1 = true → ∀ (w18 : World),
    RowKit.Below w.heap.size w w18 → Kept [m4, m2, m1] w17 w18 → Calls Tryz.prog 39 #[Value.pointer a1] w18 fun (e4 : Ending) (w19 : World) => ∃ (a2 : Option Addr), ∃ (m20 : Nat),
    ∃ (m21 : Nat), e4 = Ending.returned (Value.slice a2 m20 m21) ∧ KeepX true w.heap.size [m4, m2, m1] F6 w18 w19 ∧ ((↑m20 : Int) = 0 → ∀ (w20 : World), RowKit.Below w.heap.size w
    w20 → Kept [m4, m2, m1] w19 w20 → F3 F6 [Lf.int IntKind.i64 (min x2 x4), Lf.int IntKind.i64 x4] (m13 + 1) w20) ∧ ((↑m20 : Int) ≠ 0 → ∀ (w21 : World), RowKit.Below w.heap.size w
    w21 → Kept [m4, m2, m1] w19 w21 → F3 F6 [Lf.int IntKind.i64 (min x2 x4), Lf.int IntKind.i64 x3] (m13 + 1) w21)) ∧ (t1 = false → ∀ (w22 : World), RowKit.Below w.heap.size w w22
    → Kept [m4, m2, m1] w17 w22 → Calls Tryz.prog 39 #[Value.pointer a1] w22 fun (e5 : Ending) (w23 : World) => ∃ (a3 : Option Addr), ∃ (m22 : Nat), ∃ (m23 : Nat), e5 =
    Ending.returned (Value.slice a3 m22 m23) ∧ KeepX true w.heap.size [m4, m2, m1] F6 w22 w23 ∧ ((↑m22 : Int) = 0 → ∀ (w24 : World), RowKit.Below w.heap.size w w24 → Kept [m4, m2,
    m1] w23 w24 → F3 F6 [Lf.int IntKind.i64 x2, Lf.int IntKind.i64 x4] (m13 + 1) w24) ∧ ((↑m22 : Int) ≠ 0 → ∀ (w25 : World), RowKit.Below w.heap.size w w25 → Kept [m4, m2, m1] w23
    w25 → F3 F6 [Lf.int IntKind.i64 x2, Lf.int IntKind.i64 x3] (m13 + 1) w25))) ∧ (m13 = m6 → ∀ (w26 : World), RowKit.Below w.heap.size w w26 → Kept [m4, m2, m1] w11 w26 → ∀ (w27 :
    World), CalmFrom w.heap.size w26 w27 → R (Ending.returned (Value.tuple #[Value.agg #[Value.int IntKind.i64 x2, Value.int IntKind.i64 x3], Value.int IntKind.i64 0])) w27))) :
    Calls Tryz.prog 13 #[Value.agg #[Value.int IntKind.i64 c0, Value.slice c1a c1n c1c], Value.int IntKind.i64 start, Value.slice la ln lc, Value.int IntKind.i64 till] w R :=
    calls_of_vcj (pure := true) (wrapAt := []) (muts := [8]) (esc := []) (joins := [(6000081, []), (13000000, [])]) (args := [SV.pv (PV.agg [Lf.int IntKind.i64 c0, Lf.sl c1a c1n
    c1c]), SV.pv (PV.one (Lf.int IntKind.i64 start)), SV.pv (PV.one (Lf.sl la ln lc)), SV.pv (PV.one (Lf.int IntKind.i64 till))]) (vs := [Value.agg #[Value.int IntKind.i64 c0,
    Value.slice c1a c1n c1c], Value.int IntKind.i64 start, Value.slice la ln lc, Value.int IntKind.i64 till]) Tryz.func13 rfl rfl rfl (Eq.mp (by kernel_rfl) h) 
set_option maxRecDepth 100000 in
set_option maxHeartbeats 2000000 in
theorem vc40 (c0 : Int) (c1a : Option Addr) (c1n : Nat) (c1c : Nat) (start : Int) (p2from : Int) (w : World) (R : Ending → World → Prop) (h : ∀ (m1 : Nat), w.heap.size ≤ m1 → ∀ (m2
    : Nat), w.heap.size ≤ m2 → ∀ (w1 : World), RowKit.Below w.heap.size w w1 → Kept [m2, m1] w w1 → Calls Tryz.prog 87 #[Value.agg #[Value.int IntKind.i64 c0, Value.slice c1a c1n
    c1c]] w1 fun (e1 : Ending) (w2 : World) => ∃ (x1 : Int), e1 = Ending.returned (Value.int IntKind.i64 x1) ∧ KeepX true w.heap.size [m2, m1] (fun _ => False) w1 w2 ∧ (x1 ≠ 0 → ∀
    (w3 : World), RowKit.Below w.heap.size w w3 → Kept [m2, m1] w2 w3 → R (Ending.returned (Value.tuple #[Value.agg #[Value.int IntKind.i64 0, Value.int IntKind.i64 0], Value.int
    IntKind.i64 2])) w3) ∧ (x1 = 0 → ∀ (m4 : Nat), w2.heap.size ≤ m4 → ∀ (w4 : World), RowKit.Below w.heap.size w w4 → Kept [m4, m2, m1] w2 w4 → w4.heap[m4]? = some (Obj.cells
    #[Value.int IntKind.i64 start] 3) → Calls Tryz.prog 79 #[Value.int IntKind.i64 0, Value.int IntKind.i64 c0, Value.slice (some { block := m4, off := 0 }) 1 1] w4 fun (e2 :
    Ending) (w5 : World) => ∃ (t1 : Bool), e2 = Ending.returned (Value.bool t1) ∧ KeepX true w.heap.size [m4, m2, m1] (fun _ => False) w4 w5 ∧ ((!t1) = true → ((!t1) = true → ∀ (w6
    : World), RowKit.Below w.heap.size w w6 → Kept [m4, m2, m1] w5 w6 → R (Ending.returned (Value.tuple #[Value.agg #[Value.int IntKind.i64 0, Value.int IntKind.i64 0], Value.int
    IntKind.i64 3])) w6) ∧ ((!t1) = false → ∀ (m7 : Nat), w5.heap.size ≤ m7 → ∀ (w7 : World), RowKit.Below w.heap.size w w7 → KeptIn [(0, w5.heap.size)] [m4, m7, m2, m1] w5 w7 →
    Calls Tryz.prog 88 #[Value.agg #[Value.int IntKind.i64 c0, Value.slice c1a c1n c1c, Value.slice none 0 0], Value.int IntKind.i64 start, Value.int IntKind.i64 p2from, Value.func
    (Fn.func 89) #[] #[]] w7 fun (e3 : Ending) (w8 : World) => ∃ (x2 : Int), e3 = Ending.returned (Value.int IntKind.i64 x2) ∧ KeepX true w.heap.size [m4, m7, m2, m1] (fun _ =>
    False) w7 w8 ∧ ∀ (w9 : World), RowKit.Below w.heap.size w w9 → KeptIn [(0, w8.heap.size)] [m4, m7, m2, m1] w8 w9 → Calls Tryz.prog 88 #[Value.agg #[Value.int IntKind.i64 c0,
    Value.slice c1a c1n c1c, Value.slice none 0 0], Value.int IntKind.i64 start, Value.int IntKind.i64 p2from, Value.func (Fn.func 90) #[] #[]] w9 fun (e4 : Ending) (w10 : World)
    => ∃ (x3 : Int), e4 = Ending.returned (Value.int IntKind.i64 x3) ∧ KeepX true w.heap.size [m4, m7, m2, m1] (fun _ => False) w9 w10 ∧ ∀ (w11 : World), RowKit.Below w.heap.size w
    w11 → Kept [m4, m7, m2, m1] w10 w11 → R (Ending.returned (Value.tuple #[Value.agg #[Value.int IntKind.i64 x2, Value.int IntKind.i64 x3], Value.int IntKind.i64 0])) w11)) ∧
    ((!t1) = false → ∀ (m10 : Nat), w5.heap.size ≤ m10 → ∀ (w12 : World), RowKit.Below w.heap.size w w12 → Kept [m10, m4, m2, m1] w5 w12 → w12.heap[m10]? = some (Obj.cells
    #[Value.int IntKind.i64 p2from] 3) → Calls Tryz.prog 79 #[Value.int IntKind.i64 0, Value.int IntKind.i64 2000, Value.slice (some { block := m10, off := 0 }) 1 1] w12 fun (e5 :
    Ending) (w13 : World) => ∃ (t2 : Bool), e5 = Ending.returned (Value.bool t2) ∧ KeepX true w.heap.size [m10, m4, m2, m1] (fun _ => False) w12 w13 ∧ ((!t2) = true → ∀ (w14 :
    World), RowKit.Below w.heap.size w w14 → Kept [m10, m4, m2, m1] w13 w14 → R (Ending.returned (Value.tuple #[Value.agg #[Value.int IntKind.i64 0, Value.int IntKind.i64 0],
    Value.int IntKind.i64 3])) w14) ∧ ((!t2) = false → ∀ (m13 : Nat), w13.heap.size ≤ m13 → ∀ (w15 : World), RowKit.Below w.heap.size w w15 → KeptIn [(0, w13.heap.size)] [m10, m4,
    m13, m2, m1] w13 w15 → Calls Tryz.prog 88 #[Value.agg #[Value.int IntKind.i64 c0, Value.slice c1a c1n c1c, Value.slice none 0 0], Value.int IntKind.i64 start, Value.int
    IntKind.i64 p2from, Value.func (Fn.func 89) #[] #[]] w15 fun (e6 : Ending) (w16 : World) => ∃ (x4 : Int), e6 = Ending.returned (Value.int IntKind.i64 x4) ∧ KeepX true
    w.heap.size [m10, m4, m13, m2, m1] (fun _ => False) w15 w16 ∧ ∀ (w17 : World), RowKit.Below w.heap.size w w17 → KeptIn [(0, w16.heap.size)] [m10, m4, m13, m2, m1] w16 w17 →
    Calls Tryz.prog 88 #[Value.agg #[Value.int IntKind.i64 c0, Value.slice c1a c1n c1c, Value.slice none 0 0], Value.int IntKind.i64 start, Value.int IntKind.i64 p2from, Value.func
    (Fn.func 90) #[] #[]] w17 fun (e7 : Ending) (w18 : World) => ∃ (x5 : Int), e7 = Ending.returned (Value.int IntKind.i64 x5) ∧ KeepX true w.heap.size [m10, m4, m13, m2, m1] (fun
    _ => False) w17 w18 ∧ ∀ (w19 : World), RowKit.Below w.heap.size w w19 → Kept [m10, m4, m13, m2, m1] w18 w19 → R (Ending.returned (Value.tuple #[Value.agg #[Value.int
    IntKind.i64 x4, Value.int IntKind.i64 x5], Value.int IntKind.i64 0])) w19)))) : Calls Tryz.prog 40 #[Value.agg #[Value.int IntKind.i64 c0, Value.slice c1a c1n c1c], Value.int
    IntKind.i64 start, Value.int IntKind.i64 p2from] w R := calls_of_vc (pure := true) (wrapAt := []) (muts := []) (esc := []) (args := [SV.pv (PV.agg [Lf.int IntKind.i64 c0, Lf.sl
    c1a c1n c1c]), SV.pv (PV.one (Lf.int IntKind.i64 start)), SV.pv (PV.one (Lf.int IntKind.i64 p2from))]) (vs := [Value.agg #[Value.int IntKind.i64 c0, Value.slice c1a c1n c1c],
    Value.int IntKind.i64 start, Value.int IntKind.i64 p2from]) Tryz.func40 rfl rfl rfl (Eq.mp (by kernel_rfl) h) 
set_option maxRecDepth 100000 in
set_option maxHeartbeats 2000000 in
theorem vc88 (c0 : Int) (c1a : Option Addr) (c1n : Nat) (c1c : Nat) (c2a : Option Addr) (c2n : Nat) (c2c : Nat) (left : Int) (p2from : Int) (p3endf : Nat) (p3endi : List Value)
    (p3endc : List Value) (w : World) (R : Ending → World → Prop) (h : ∀ (m1 : Nat), w.heap.size ≤ m1 → ∃ (F1 : List Lf → World → Prop), ∃ (F2 : List Lf → Nat), (∀ (w2 : World),
    RowKit.Below w.heap.size w w2 → Kept [m1] w w2 → F1 [Lf.int IntKind.i64 left, Lf.int IntKind.i64 p2from] w2) ∧ ∀ (x1 x2 : Int) (w3 : World), RowKit.Below w.heap.size w w3 → F1
    [Lf.int IntKind.i64 x1, Lf.int IntKind.i64 x2] w3 → (x2 < 2000 → ∀ (w4 : World), RowKit.Below w.heap.size w w4 → Kept [m1] w3 w4 → Calls Tryz.prog 82 #[Value.agg #[Value.int
    IntKind.i64 c0, Value.slice c1a c1n c1c, Value.slice c2a c2n c2c], Value.int IntKind.i64 x2] w4 fun (e1 : Ending) (w5 : World) => ∃ (x3 : Int), ∃ (x4 : Int), e1 =
    Ending.returned (Value.agg #[Value.int IntKind.i64 x3, Value.int IntKind.i64 x4]) ∧ KeepX true w.heap.size [m1] (fun _ => False) w4 w5 ∧ Callable Tryz.prog p3endf ∧ ∀ (w6 :
    World), RowKit.Below w.heap.size w w6 → Kept [m1] w5 w6 → Calls Tryz.prog p3endf (p3endi ++ [Value.agg #[Value.int IntKind.i64 x3, Value.int IntKind.i64 x4]] ++ p3endc).toArray
    w6 fun (e2 : Ending) (w7 : World) => ∃ (x5 : Int), e2 = Ending.returned (Value.int IntKind.i64 x5) ∧ KeepX true w.heap.size [m1] (fun _ => False) w6 w7 ∧ (x5 ≤ x1 → ∀ (w8 :
    World), RowKit.Below w.heap.size w w8 → Kept [m1] w7 w8 → Calls Tryz.prog 82 #[Value.agg #[Value.int IntKind.i64 c0, Value.slice c1a c1n c1c, Value.slice c2a c2n c2c],
    Value.int IntKind.i64 x2] w8 fun (e3 : Ending) (w9 : World) => ∃ (x6 : Int), ∃ (x7 : Int), e3 = Ending.returned (Value.agg #[Value.int IntKind.i64 x6, Value.int IntKind.i64
    x7]) ∧ KeepX true w.heap.size [m1] (fun _ => False) w8 w9 ∧ Callable Tryz.prog p3endf ∧ ∀ (w10 : World), RowKit.Below w.heap.size w w10 → Kept [m1] w9 w10 → Calls Tryz.prog
    p3endf (p3endi ++ [Value.agg #[Value.int IntKind.i64 x6, Value.int IntKind.i64 x7]] ++ p3endc).toArray w10 fun (e4 : Ending) (w11 : World) => ∃ (x8 : Int), e4 = Ending.returned
    (Value.int IntKind.i64 x8) ∧ KeepX true w.heap.size [m1] (fun _ => False) w10 w11 ∧ (-9223372036854775808 ≤ x1 - x8 ∧ x1 - x8 ≤ 9223372036854775807) ∧ (-9223372036854775808 ≤
    x2 + 1 ∧ x2 + (1 : Int) ≤ 9223372036854775807) ∧ ∀ (w12 : World), RowKit.Below w.heap.size w w12 → Kept [m1] w11 w12 → F1 [Lf.int IntKind.i64 (x1 - x8), Lf.int IntKind.i64 (x2
    + 1)] w12 ∧ F2 [Lf.int IntKind.i64 (x1 - x8), Lf.int IntKind.i64 (x2 + 1)] < F2 [Lf.int IntKind.i64 x1, Lf.int IntKind.i64 x2]) ∧ (x1 < x5 → ∀ (w13 : World), RowKit.Below
    w.heap.size w w13 → Kept [m1] w7 w13 → R (Ending.returned (Value.int IntKind.i64 x2)) w13)) ∧ (2000 ≤ x2 → ∀ (w14 : World), RowKit.Below w.heap.size w w14 → Kept [m1] w3 w14 →
    R (Ending.returned (Value.int IntKind.i64 x2)) w14)) : Calls Tryz.prog 88 #[Value.agg #[Value.int IntKind.i64 c0, Value.slice c1a c1n c1c, Value.slice c2a c2n c2c], Value.int
    IntKind.i64 left, Value.int IntKind.i64 p2from, Value.func (Fn.func p3endf) p3endi.toArray p3endc.toArray] w R := calls_of_vc (pure := true) (wrapAt := []) (muts := []) (esc :=
    []) (args := [SV.pv (PV.agg [Lf.int IntKind.i64 c0, Lf.sl c1a c1n c1c, Lf.sl c2a c2n c2c]), SV.pv (PV.one (Lf.int IntKind.i64 left)), SV.pv (PV.one (Lf.int IntKind.i64
    p2from)), SV.pv (PV.one (Lf.fv p3endf p3endi p3endc))]) (vs := [Value.agg #[Value.int IntKind.i64 c0, Value.slice c1a c1n c1c, Value.slice c2a c2n c2c], Value.int IntKind.i64
    left, Value.int IntKind.i64 p2from, Value.func (Fn.func p3endf) p3endi.toArray p3endc.toArray]) Tryz.func88 rfl rfl rfl (Eq.mp (by kernel_rfl) h) 
set_option maxRecDepth 100000 in
set_option maxHeartbeats 2000000 in
theorem vc89 (s0 : Int) (s1 : Int) (w : World) (R : Ending → World → Prop) (h : ∀ (m1 : Nat), w.heap.size ≤ m1 → ∀ (w1 : World), RowKit.Below w.heap.size w w1 → Kept [m1] w w1 → R
    (Ending.returned (Value.int IntKind.i64 s1)) w1) : Calls Tryz.prog 89 #[Value.agg #[Value.int IntKind.i64 s0, Value.int IntKind.i64 s1]] w R := calls_of_vc (pure := true)
    (wrapAt := []) (muts := []) (esc := []) (args := [SV.pv (PV.agg [Lf.int IntKind.i64 s0, Lf.int IntKind.i64 s1])]) (vs := [Value.agg #[Value.int IntKind.i64 s0, Value.int
    IntKind.i64 s1]]) Tryz.func89 rfl rfl rfl (Eq.mp (by kernel_rfl) h) 
set_option maxRecDepth 100000 in
set_option maxHeartbeats 2000000 in
theorem vc90 (s0 : Int) (s1 : Int) (w : World) (R : Ending → World → Prop) (h : ∀ (m1 : Nat), w.heap.size ≤ m1 → ∀ (w1 : World), RowKit.Below w.heap.size w w1 → Kept [m1] w w1 → R
    (Ending.returned (Value.int IntKind.i64 s0)) w1) : Calls Tryz.prog 90 #[Value.agg #[Value.int IntKind.i64 s0, Value.int IntKind.i64 s1]] w R := calls_of_vc (pure := true)
    (wrapAt := []) (muts := []) (esc := []) (args := [SV.pv (PV.agg [Lf.int IntKind.i64 s0, Lf.int IntKind.i64 s1])]) (vs := [Value.agg #[Value.int IntKind.i64 s0, Value.int
    IntKind.i64 s1]]) Tryz.func90 rfl rfl rfl (Eq.mp (by kernel_rfl) h) 
set_option maxRecDepth 100000 in
set_option maxHeartbeats 2000000 in
theorem vc14 (s0 : Int) (s1 : Int) (w : World) (R : Ending → World → Prop) (h : ∀ (m1 : Nat), w.heap.size ≤ m1 → ∀ (m2 : Nat), w.heap.size ≤ m2 → ∃ (F1 : List Lf → World → Prop), ∃
    (F2 : List Lf → Nat), (∀ (w2 : World), RowKit.Below w.heap.size w w2 → Kept [m2, m1] w w2 → w2.heap[m2]? = some (Obj.cells #[] 47) → F1 [Lf.sl (some { block := m2, off := 0 })
    0 0, Lf.int IntKind.i64 0] w2) ∧ ∀ (a1 : Option Addr) (m4 m5 : Nat) (x1 : Int) (w3 : World), RowKit.Below w.heap.size w w3 → F1 [Lf.sl a1 m4 m5, Lf.int IntKind.i64 x1] w3 → (x1
    < 24 → ∀ (m6 : Nat), w3.heap.size ≤ m6 → ∀ (w4 : World), RowKit.Below w.heap.size w w4 → Kept [m6, m1] w3 w4 → w4.heap[m6]? = some (Obj.cells #[Value.int IntKind.i64 s0,
    Value.int IntKind.i64 s1] 47) → RunsTo Tryz.prog (Builtin.append_ #[53, 53] 53 #[Value.slice a1 m4 m5, Value.slice (some { block := m6, off := 0 }) 1 1]) w4 fun (v1 : Value)
    (w5 : World) => ∃ (a2 : Option Addr), ∃ (m8 : Nat), ∃ (m9 : Nat), v1 = Value.slice a2 m8 m9 ∧ KeepX true w.heap.size [m6, m1] (fun _ => False) w4 w5 ∧ (-9223372036854775808 ≤
    x1 + 1 ∧ x1 + (1 : Int) ≤ 9223372036854775807) ∧ ∀ (w6 : World), RowKit.Below w.heap.size w w6 → Kept [m6, m1] w5 w6 → F1 [Lf.sl a2 m8 m9, Lf.int IntKind.i64 (x1 + 1)] w6 ∧ F2
    [Lf.sl a2 m8 m9, Lf.int IntKind.i64 (x1 + 1)] < F2 [Lf.sl a1 m4 m5, Lf.int IntKind.i64 x1]) ∧ (24 ≤ x1 → ∀ (w7 : World), RowKit.Below w.heap.size w w7 → Kept [m1] w3 w7 → R
    (Ending.returned (Value.slice a1 m4 m5)) w7)) : Calls Tryz.prog 14 #[Value.agg #[Value.int IntKind.i64 s0, Value.int IntKind.i64 s1]] w R := calls_of_vc (pure := true) (wrapAt
    := []) (muts := []) (esc := []) (args := [SV.pv (PV.agg [Lf.int IntKind.i64 s0, Lf.int IntKind.i64 s1])]) (vs := [Value.agg #[Value.int IntKind.i64 s0, Value.int IntKind.i64
    s1]]) Tryz.func14 rfl rfl rfl (Eq.mp (by kernel_rfl) h) 
set_option maxRecDepth 100000 in
set_option maxHeartbeats 2000000 in
theorem vc15  (w : World) (R : Ending → World → Prop) (h : ∀ (w1 : World), RowKit.Below w.heap.size w w1 → Kept [] w w1 → Calls Tryz.prog 12 #[Value.int IntKind.i64 2, Value.int
    IntKind.i64 2] w1 fun (e1 : Ending) (w2 : World) => ∃ (x1 : Int), ∃ (x2 : Int), e1 = Ending.returned (Value.agg #[Value.int IntKind.i64 x1, Value.int IntKind.i64 x2]) ∧ KeepX
    true w.heap.size [] (fun _ => False) w1 w2 ∧ ∀ (w3 : World), RowKit.Below w.heap.size w w3 → Kept [] w2 w3 → Calls Tryz.prog 14 #[Value.agg #[Value.int IntKind.i64 x1,
    Value.int IntKind.i64 x2]] w3 fun (e2 : Ending) (w4 : World) => ∃ (a1 : Option Addr), ∃ (m2 : Nat), ∃ (m3 : Nat), e2 = Ending.returned (Value.slice a1 m2 m3) ∧ KeepX true
    w.heap.size [] (fun _ => False) w3 w4 ∧ ∀ (m5 : Nat), w4.heap.size ≤ m5 → ∃ (m6 : Nat), ∃ (m7 : Nat), a1 = some { block := m6, off := m7 } ∧ ((0 : Int) ≤ 0 ∧ 0 < (↑m2 : Int)) ∧
    ∀ (w5 : World), RowKit.Below w.heap.size w w5 → Kept [m5] w4 w5 → RunsTo Tryz.prog ((Instr.storeAt 3 (Value.pointer (some { block := m6, off := m7 + Int.toNat 0 * 2 + 1 }))
    (Value.int IntKind.i64 3)) >>= fun _ => pure (Value.tuple #[])) w5 fun (v1 : Value) (w6 : World) => KeepX true w.heap.size [m5] (fun _ => False) w5 w6 ∧ ∀ (w7 : World),
    RowKit.Below w.heap.size w w7 → Kept [m5] w6 w7 → Calls Tryz.prog 40 #[Value.agg #[Value.int IntKind.i64 100, Value.slice a1 m2 m3], Value.int IntKind.i64 10, Value.int
    IntKind.i64 0] w7 fun (e3 : Ending) (w8 : World) => ∃ (x3 : Int), ∃ (x4 : Int), ∃ (x5 : Int), e3 = Ending.returned (Value.tuple #[Value.agg #[Value.int IntKind.i64 x3,
    Value.int IntKind.i64 x4], Value.int IntKind.i64 x5]) ∧ KeepX true w.heap.size [m5] (fun _ => False) w7 w8 ∧ ∀ (m10 : Nat), w8.heap.size ≤ m10 → (x5 = 0 → ∀ (w9 : World),
    RowKit.Below w.heap.size w w9 → KeptIn [(0, w8.heap.size)] [m10, m5] w8 w9 → Calls Tryz.prog 12 #[Value.int IntKind.i64 4, Value.int IntKind.i64 5] w9 fun (e4 : Ending) (w10 :
    World) => ∃ (x6 : Int), ∃ (x7 : Int), e4 = Ending.returned (Value.agg #[Value.int IntKind.i64 x6, Value.int IntKind.i64 x7]) ∧ KeepX true w.heap.size [m10, m5] (fun _ => False)
    w9 w10 ∧ ∀ (w11 : World), RowKit.Below w.heap.size w w11 → KeptIn [(0, w10.heap.size)] [m10, m5] w10 w11 → RunsTo Tryz.prog ((eqGuard BinOp.eql 47 (Operand.tmp 19) (Operand.tmp
    20) (Value.agg #[Value.int IntKind.i64 x3, Value.int IntKind.i64 x4]) (Value.agg #[Value.int IntKind.i64 x6, Value.int IntKind.i64 x7])) >>= fun _ => binOp BinOp.eql 47
    (Value.agg #[Value.int IntKind.i64 x3, Value.int IntKind.i64 x4]) (Value.agg #[Value.int IntKind.i64 x6, Value.int IntKind.i64 x7])) w11 fun (v2 : Value) (w12 : World) => ∃ (t1
    : Bool), v2 = Value.bool t1 ∧ KeepX true w.heap.size [m10, m5] (fun _ => False) w11 w12 ∧ ∀ (w13 : World), RowKit.Below w.heap.size w w13 → Kept [m10, m5] w12 w13 → R
    (Ending.returned (Value.bool t1)) w13) ∧ (x5 ≠ 0 → ∀ (w14 : World), RowKit.Below w.heap.size w w14 → Kept [m10, m5] w8 w14 → R (Ending.returned (Value.bool false)) w14)) :
    Calls Tryz.prog 15 #[] w R := calls_of_vc (pure := true) (wrapAt := []) (muts := []) (esc := []) (args := []) (vs := []) Tryz.func15 rfl rfl rfl (Eq.mp (by kernel_rfl) h) 
set_option maxRecDepth 100000 in
set_option maxHeartbeats 2000000 in
theorem vc11 (p0bya : Option Addr) (p0byn : Nat) (p0byc : Nat) (most : Int) (till : Int) (w : World) (R : Ending → World → Prop) (h : ∀ (m1 : Nat), w.heap.size ≤ m1 → ∃ (F1 : List
    Lf → World → Prop), ∃ (F2 : List Lf → Nat), (∀ (w2 : World), RowKit.Below w.heap.size w w2 → Kept [m1] w w2 → w2.heap[m1]? = some (Obj.cells #[] 34) → F1 [Lf.sl (some
    { block := m1, off := 0 }) 0 0, Lf.int IntKind.i64 0, Lf.int IntKind.i64 0] w2) ∧ ∀ (a1 : Option Addr) (m3 m4 : Nat) (x1 x2 : Int) (w3 : World), RowKit.Below w.heap.size w w3 →
    F1 [Lf.sl a1 m3 m4, Lf.int IntKind.i64 x1, Lf.int IntKind.i64 x2] w3 → (x2 < (↑p0byn : Int) → ((↑m3 : Int) < most → ∃ (m5 : Nat), ∃ (m6 : Nat), p0bya = some
    { block := m5, off := m6 } ∧ (0 ≤ x2 ∧ x2 < (↑p0byn : Int)) ∧ ∃ (x3 : Int), w3.cell? { block := m5, off := m6 + x2.toNat * 1 } = some (Value.int IntKind.u8 x3) ∧
    (-9223372036854775808 ≤ x3 ∧ x3 ≤ 9223372036854775807) ∧ (9 : Int) ≠ 0 ∧ ((-9223372036854775808 : Int) ≤ 1 + x3.tmod 9 ∧ 1 + x3.tmod (9 : Int) ≤ 9223372036854775807) ∧
    (-9223372036854775808 ≤ x1 + (1 + x3.tmod 9) ∧ x1 + (1 + x3.tmod 9) ≤ 9223372036854775807) ∧ (till < x1 + (1 + x3.tmod 9) → ∀ (w4 : World), RowKit.Below w.heap.size w w4 → Kept
    [] w3 w4 → R (Ending.returned (Value.slice a1 m3 m4)) w4) ∧ (x1 + (1 + x3.tmod 9) ≤ till → ∀ (w5 : World), RowKit.Below w.heap.size w w5 → Kept [] w3 w5 → ∀ (m7 : Nat) (w6 :
    World), m7 = w5.heap.size → w6 = w5.alloc (Obj.cells #[Value.int IntKind.i64 0] 3) → ∀ (m8 : Nat), w6.heap.size ≤ m8 → ∀ (w7 : World), RowKit.Below w.heap.size w w7 → Kept [m8]
    w6 w7 → w7.heap[m8]? = some (Obj.cells #[Value.int IntKind.i64 (x1 + (1 + x3.tmod 9)), Value.slice (some { block := m7, off := 0 }) 1 1] 34) → RunsTo Tryz.prog (Builtin.append_
    #[28, 28] 28 #[Value.slice a1 m3 m4, Value.slice (some { block := m8, off := 0 }) 1 1]) w7 fun (v1 : Value) (w8 : World) => ∃ (a2 : Option Addr), ∃ (m10 : Nat), ∃ (m11 : Nat),
    v1 = Value.slice a2 m10 m11 ∧ KeepX true w.heap.size [m8] (fun _ => False) w7 w8 ∧ (-9223372036854775808 ≤ x2 + 1 ∧ x2 + (1 : Int) ≤ 9223372036854775807) ∧ ∀ (w9 : World),
    RowKit.Below w.heap.size w w9 → Kept [m8] w8 w9 → F1 [Lf.sl a2 m10 m11, Lf.int IntKind.i64 (x1 + (1 + x3.tmod 9)), Lf.int IntKind.i64 (x2 + 1)] w9 ∧ F2 [Lf.sl a2 m10 m11,
    Lf.int IntKind.i64 (x1 + (1 + x3.tmod 9)), Lf.int IntKind.i64 (x2 + 1)] < F2 [Lf.sl a1 m3 m4, Lf.int IntKind.i64 x1, Lf.int IntKind.i64 x2])) ∧ (most ≤ (↑m3 : Int) → ∀ (w10 :
    World), RowKit.Below w.heap.size w w10 → Kept [] w3 w10 → R (Ending.returned (Value.slice a1 m3 m4)) w10)) ∧ ((↑p0byn : Int) ≤ x2 → ∀ (w11 : World), RowKit.Below w.heap.size w
    w11 → Kept [] w3 w11 → R (Ending.returned (Value.slice a1 m3 m4)) w11)) : Calls Tryz.prog 11 #[Value.slice p0bya p0byn p0byc, Value.int IntKind.i64 most, Value.int IntKind.i64
    till] w R := calls_of_vc (pure := true) (wrapAt := []) (muts := []) (esc := [37]) (args := [SV.pv (PV.one (Lf.sl p0bya p0byn p0byc)), SV.pv (PV.one (Lf.int IntKind.i64 most)),
    SV.pv (PV.one (Lf.int IntKind.i64 till))]) (vs := [Value.slice p0bya p0byn p0byc, Value.int IntKind.i64 most, Value.int IntKind.i64 till]) Tryz.func11 rfl rfl rfl (Eq.mp (by
    kernel_rfl) h) 
end Go.Proofs
end
section
/- The small functions of drop. -/
namespace Go.Proofs.RT
open Go.Vc Go.RowKit Go.Proofs
section
variable {w : World}
set_option maxRecDepth 100000 in
theorem withinD_any {a b : Int} {la : Option Addr} {c : Nat} {l : List Int} {w : World} (hc : Cells w la (ints l)) (hl : (l.length : Int) ≤ 9223372036854775807) :
    Calls Tryz.prog 79 #[I a, I b, .slice la l.length c] w (Pure w (.bool (l.all fun n => decide (a ≤ n ∧ n ≤ b)))) := by
  refine vc79 _ _ _ _ _ w _ fun m1 h1 m2 h2 w1 hb1 hk1 hc1 hc2 => ?_
  refine Pure.calls (contains_int (fi := []) (p := fun n => decide (n < a) || decide (b < n)) (hc.keep hb1) hl ⟨callOk_run (by rfl), fun x hx w2 hb2 => ?_⟩) fun w2 hb2 => ⟨_, rfl, .all hb2, fun w3 hb3 _ => ⟨?_, hb3⟩⟩
  · have k1 : w2.cell? ⟨m1, 0, none⟩ = some (I a) := cell_keep hb2 (cell_obj (vs := [I a]) hc1 rfl)
    have k2 : w2.cell? ⟨m2, 0, none⟩ = some (I b) := cell_keep hb2 (cell_obj (vs := [I b]) hc2 rfl)
    refine vc143 _ _ _ w2 _ ⟨a, k1, fun hlt w3 hb3 _ => ⟨?_, hb3⟩, fun hge => ⟨b, k2, fun w3 hb3 _ => ⟨?_, hb3⟩⟩⟩
    · simp [hlt]
    · simp [Int.not_lt.2 hge]
  · congr 2
    rw [Bool.eq_iff_iff]
    simp [List.all_eq_true]
theorem inD_any {w : World} {m : Nat} {a b x : Int} (h : w.heap[m]? = some (.cells #[I x] 3 (0, 0))) : Calls Tryz.prog 79 #[I a, I b, .slice (some ⟨m, 0, none⟩) 1 1] w (Pure w (.bool (decide (a ≤ x ∧ x ≤ b)))) := by
  have := withinD_any (l := [x]) (a := a) (b := b) (c := 1) (Cells.obj (vs := [I x]) h) (by simp)
  simpa using this
theorem inD2_any {w : World} {m : Nat} {T : TypeId} {a b x y : Int} (h : w.heap[m]? = some (.cells #[I x, I y] T (0, 0))) : Calls Tryz.prog 79 #[I a, I b, .slice (some ⟨m, 0, none⟩) 2 2] w (Pure w (.bool (decide (a ≤ x ∧ x ≤ b) && decide (a ≤ y ∧ y ≤ b)))) := by
  have := withinD_any (l := [x, y]) (a := a) (b := b) (c := 2) (Cells.obj (vs := [I x, I y]) h) (by simp)
  simpa using this
def spanB (m : Int) (s : Sp) : Bool := decide ((0 ≤ s.1 ∧ s.1 ≤ m) ∧ (0 ≤ s.2 ∧ s.2 ≤ m) ∧ s.1 ≤ s.2)
theorem isSpan_any (s : Sp) (m : Int) (w : World) : Calls Tryz.prog 142 #[.agg #[I s.1, I s.2], I m] w (Pure w (.bool (spanB m s))) := by
  refine vc142 _ _ _ w _ fun m1 g1 m2 g2 w1 hb1 hk1 hc1 => ?_
  refine Pure.calls (inD2_any hc1) fun w2 hd2 => ⟨_, rfl, .all hd2, fun h w3 hb3 _ => ⟨?_, hb3⟩, fun h w3 hb3 _ => ⟨?_, hb3⟩⟩
  · unfold spanB; simp at h ⊢; simp [h]
  · unfold spanB; congr 2; symm; rw [decide_eq_false_iff_not]; rintro ⟨h1, h2, h3⟩
    rw [decide_eq_true h1, decide_eq_true h2] at h; cases h
theorem notSpan_any (s : Sp) (w : World) : Calls Tryz.prog 204 #[.agg #[I s.1, I s.2]] w (Pure w (.bool (!spanB 3000 s))) :=
  vc204 _ _ w _ fun m1 g1 w1 hb1 _ => Pure.calls (isSpan_any s 3000 w1) fun w2 hd2 => ⟨_, rfl, .all hd2, fun w3 hb3 _ => ⟨rfl, hb3⟩⟩
theorem index_sp {a : Option Addr} {c f : Nat} {fi fc : List Value} {p : Sp → Bool} {l : List Sp} {w : World} (hc : Cells w a (spansV l)) (hl : (l.length : Int) ≤ 9223372036854775807)
    (hf : FnOk spv f fi fc p l w.heap.size w) : Calls Tryz.prog 205 #[.slice a l.length c, .func (.func f) fi.toArray fc.toArray] w (Pure w (I (idxOf l p))) := by
  refine vc205 _ _ _ _ _ _ w _ ?_
  refine ⟨fun ls _ => match ls with | [.int _ _, .int _ x] => 0 ≤ x ∧ x ≤ l.length ∧ ∀ i, i < x.toNat → ∀ y, l[i]? = some y → p y = false | _ => False, fun ls => match ls with | [.int _ _, .int _ x] => l.length - x.toNat | _ => 0, fun w1 hb _ => ⟨by omega, by omega, fun i hi => by omega⟩, ?_⟩
  rintro x1 x2 w2 hb2 ⟨h0, hn, hno⟩
  refine ⟨fun hlt => ?_, fun hge w7 hb7 _ => ⟨by rw [idxOf_miss fun j hj => hno j (by omega)], hb7⟩⟩
  have hi : x2.toNat < l.length := by omega
  obtain ⟨b, o, rfl, d0, dv⟩ := flat_at (k := 2) (f := fun s : Sp => [I s.1, I s.2]) (fun _ => rfl) (by omega) hc hi
  refine ⟨b, o, rfl, ⟨h0, hlt⟩, _, _, cell_at' (cell_keep hb2 (dv 0 _ rfl)) (by omega), cell_at' (cell_keep hb2 (dv 1 _ rfl)) (by omega), hf.1, fun w3 hb3 _ => Pure.calls (hf.2 _ (List.getElem_mem hi) w3 hb3) fun w4 hb4 => ⟨p l[x2.toNat], rfl, .all hb4, fun ht w5 hb5 _ => ⟨by rw [idxOf_hit hi hno ht, Int.toNat_of_nonneg h0], hb5⟩, fun ht => ⟨by omega, fun w6 hb6 _ => ⟨⟨by omega, by omega, ?_⟩, ?_⟩⟩⟩⟩
  · rw [show (x2 + 1).toNat = x2.toNat + 1 by omega]
    exact no_step hi hno ht
  · show l.length - (x2 + 1).toNat < l.length - x2.toNat
    omega
theorem contains_sp {a : Option Addr} {c f : Nat} {fi fc : List Value} {p : Sp → Bool} {l : List Sp} {w : World} (hc : Cells w a (spansV l)) (hl : (l.length : Int) ≤ 9223372036854775807)
    (hf : FnOk spv f fi fc p l w.heap.size w) : Calls Tryz.prog 151 #[.slice a l.length c, .func (.func f) fi.toArray fc.toArray] w (Pure w (.bool (l.any p))) :=
  vc151 _ _ _ _ _ _ w _ fun w1 hb1 _ => Pure.calls (index_sp (c := c) (hc.keep hb1) hl (hf.keep hb1)) fun w2 hb2 => ⟨_, rfl, .all hb2, fun w3 hb3 _ => ⟨by rw [idxOf_dec], hb3⟩⟩
structure HoursOk (H : List Sp) : Prop where
  n : H.length = 24
  s : ∀ s ∈ H, spanB 3000 s = true
set_option maxRecDepth 100000 in
theorem areHours_ok {a : Option Addr} {c : Nat} {H : List Sp} (hc : Cells w a (spansV H)) (h : HoursOk H) : Calls Tryz.prog 149 #[.slice a H.length c] w (Pure w (.bool true)) := by
  refine vc149 _ _ _ w _ ⟨fun _ w1 hb1 _ => ?_, fun hn => absurd (by have := h.n; omega) hn⟩
  refine Pure.calls (contains_sp (fi := []) (p := fun s => !spanB 3000 s) (hc.keep hb1) (by rw [h.n]; omega) ⟨callOk_run (by rfl), fun x hx w2 hb2 => notSpan_any x w2⟩) fun w2 hd2 => ⟨_, rfl, .all hd2, fun w3 hb3 _ => ⟨?_, hb3⟩⟩
  congr 2
  rw [Bool.not_eq_eq_eq_not, Bool.not_true, List.any_eq_false]
  intro s hs
  simp [h.s s hs]
theorem CheckD_ok {L : Int} {a : Option Addr} {c : Nat} {H : List Sp} (hL : 1 ≤ L ∧ L ≤ 3000) (hc : Cells w a (spansV H)) (h : HoursOk H) : Calls Tryz.prog 87 #[.agg #[I L, .slice a H.length c]] w (Pure w (I 0)) := by
  refine vc87 _ _ _ _ w _ fun m1 g1 m2 g2 w1 hb1 _ hc1 => ?_
  refine Pure.calls (inD_any hc1) fun w2 hd2 => ⟨_, rfl, .all hd2, fun h => ?_, fun _ w4 hb4 _ => ?_⟩
  · rw [decide_eq_true hL] at h; cases h
  refine Pure.calls (areHours_ok (hc.keep hb4) h) fun w5 hd5 => ⟨_, rfl, .all hd5, fun h => (nomatch h), fun _ w7 hb7 _ => ⟨rfl, hb7⟩⟩
/-- The visits of a clock. -/
abbrev Vs := Sp × Sp
abbrev vsC (v : Vs) : List Value := [I v.1.1, I v.1.2, I v.2.1, I v.2.2]
structure VisitsOk (V : List Vs) : Prop where
  n : V.length ≤ 10
  a : ∀ v ∈ V, spanB 2000 v.1 = true ∧ spanB 3000 v.2 = true
  o : V.Pairwise fun x y => x.1.1 ≤ y.1.1 ∧ x.1.2 ≤ y.1.2
abbrev clkV (L : Int) (a : Option Addr) (n c : Nat) (va : Option Addr) (vn vc : Nat) : Value := .agg #[I L, .slice a n c, .slice va vn vc]
set_option maxRecDepth 100000 in
theorem newClock_ok {L : Int} {a va : Option Addr} {c vc : Nat} {H : List Sp} {V : List Vs} (hL : 1 ≤ L ∧ L ≤ 3000) (hc : Cells w a (spansV H)) (h : HoursOk H) (hv : Cells w va (V.flatMap vsC)) (hV : VisitsOk V) :
    Calls Tryz.prog 78 #[.agg #[I L, .slice a H.length c], .slice va V.length vc] w (Pure w (.tuple #[clkV L a H.length c va V.length vc, I 0])) := by
  have hn := hV.n
  refine vc78 _ _ _ _ _ _ _ w _ fun m1 g1 m2 g2 w1 hb1 hk1 => ?_
  refine Pure.calls (CheckD_ok hL (hc.keep hb1) h) fun w2 hd2 => ⟨_, rfl, .all hd2, fun h => absurd rfl h, fun _ => ⟨fun h => by omega, fun _ => ?_⟩⟩
  intro m4 g4
  refine ⟨fun ls _ => match ls with | [.int _ _, .int _ x, .int _ _, .sl _ _ _, .sl _ _ _, .int _ p, .int _ q] => (0 ≤ x ∧ x ≤ V.length) ∧ (x = 0 → p = 0 ∧ q = 0) ∧ (0 < x → ∃ v, V[x.toNat - 1]? = some v ∧ v.1 = (p, q)) | _ => False, fun ls => match ls with | [.int _ _, .int _ x, _, _, _, _, _] => V.length - x.toNat | _ => 0, fun w5 hb5 _ => ⟨by omega, fun _ => ⟨rfl, rfl⟩, fun h => by omega⟩, ?_⟩
  rintro x2 x3 x4 a1 m5 m6 a2 m7 m8 x5 x6 w7 hb7 ⟨hx, hp0, hp1⟩
  refine ⟨fun hlt => ?_, fun hge w17 hb17 _ => ⟨rfl, hb17⟩⟩
  have hi : x3.toNat < V.length := by omega
  obtain ⟨b, o, rfl, d0, dv⟩ := flat_at (k := 4) (f := vsC) (fun _ => rfl) (by omega) hv hi
  have hva := hV.a _ (List.getElem_mem hi)
  refine ⟨b, o, rfl, ⟨hx.1, hlt⟩, _, _, _, _, cell_at' (cell_keep hb7 (dv 0 _ rfl)) (by omega), cell_at' (cell_keep hb7 (dv 1 _ rfl)) (by omega), cell_at' (cell_keep hb7 (dv 2 _ rfl)) (by omega), cell_at' (cell_keep hb7 (dv 3 _ rfl)) (by omega), ?_⟩
  refine ⟨.inl d0, fun m11 g11 w8 hb8 _ => ?_⟩
  refine Pure.calls (isSpan_any V[x3.toNat].1 2000 w8) fun w9 hd9 => ⟨_, rfl, .all hd9, fun h => ?_, fun _ w11 hb11 _ => ?_⟩
  · rw [hva.1] at h; cases h
  refine Pure.calls (isSpan_any V[x3.toNat].2 3000 w11) fun w12 hd12 => ⟨_, rfl, .all hd12, fun h => ?_, fun _ => ?_⟩
  · rw [hva.2] at h; cases h
  have ord : x5 ≤ V[x3.toNat].1.1 ∧ x6 ≤ V[x3.toNat].1.2 := by
    by_cases h0 : x3 = 0
    · obtain ⟨rfl, rfl⟩ := hp0 h0
      have := hva.1
      unfold spanB at this
      rw [decide_eq_true_iff] at this
      omega
    · obtain ⟨v, hv1, hv2⟩ := hp1 (by omega)
      have hlt1 := (List.getElem?_eq_some_iff.1 hv1).1
      rw [getElem_of_lt hlt1] at hv1
      cases hv1
      have := List.pairwise_iff_getElem.1 hV.o (x3.toNat - 1) x3.toNat hlt1 hi (by omega)
      rw [hv2] at this
      exact this
  refine ⟨fun h => by omega, fun _ => ⟨fun h => by omega, fun _ => ⟨by omega, fun w16 hb16 _ => ⟨⟨by omega, fun h => by omega, fun _ => ⟨_, by rw [show (x3 + 1).toNat - 1 = x3.toNat by omega]; exact getElem_of_lt hi, rfl⟩⟩, ?_⟩⟩⟩⟩
  show V.length - (x3 + 1).toNat < V.length - x3.toNat
  omega
theorem hour_bd {h : Int} (h0 : 0 ≤ h) : h.tmod 24 = h % 24 := Int.tmod_eq_emod_of_nonneg h0
theorem use_any {L h : Int} {a va : Option Addr} {c vn vc : Nat} {H : List Sp} (hc : Cells w a (spansV H)) (hn : H.length = 24) (h0 : 0 ≤ h) :
    Calls Tryz.prog 82 #[clkV L a H.length c va vn vc, I h] w (Pure w (spv (H.getD (h % 24).toNat (0, 0)))) := by
  refine vc82 _ _ _ _ _ _ _ _ w _ fun m1 g1 m2 g2 => ⟨by decide, ?_⟩
  rw [hour_bd h0]
  have hi : (h % 24).toNat < H.length := by omega
  obtain ⟨b, o, rfl, d0, dv⟩ := flat_at (k := 2) (f := fun s : Sp => [I s.1, I s.2]) (fun _ => rfl) (by omega) hc hi
  refine ⟨b, o, rfl, ⟨by omega, by omega⟩, _, _, cell_at' (dv 0 _ rfl) (by omega), cell_at' (dv 1 _ rfl) (by omega), .inl d0, fun w1 hb1 _ => ⟨?_, hb1⟩⟩
  rw [List.getD_eq_getElem?_getD, getElem_of_lt hi]
  rfl
theorem low_any (s : Sp) (w : World) : Calls Tryz.prog 90 #[spv s] w (Pure w (I s.1)) := vc90 _ _ w _ fun _ _ w1 hb1 _ => ⟨rfl, hb1⟩
theorem high_any (s : Sp) (w : World) : Calls Tryz.prog 89 #[spv s] w (Pure w (I s.2)) := vc89 _ _ w _ fun _ _ w1 hb1 _ => ⟨rfl, hb1⟩
end
end Go.Proofs.RT
end
section
/- Sets of at most one number. -/
namespace Go.Proofs.RT
open Go.Vc Go.RowKit Go.Proofs Go.Lib
def pts (l : List Int) : List Value := l.flatMap fun x => [I x, I x]
theorem pts_get {l : List Int} {i : Nat} {x : Int} (h : l[i]? = some x) (j : Nat) (hj : j < 2) : (pts l)[i * 2 + j]? = some (I x) := by
  rw [pts, flat_get (k := 2) (f := fun x : Int => [I x, I x]) (fun _ => rfl) h hj]
  match j, hj with
  | 0, _ => rfl
  | 1, _ => rfl
theorem pts_len (l : List Int) : (pts l).length = l.length * 2 := by
  induction l with
  | nil => rfl
  | cons x l ih => simp [pts] at ih ⊢; omega
/-- A set of numbers. -/
structure SetL (l : List Int) (lo hi : Nat) (w : World) (a : Option Addr) (n c : Nat) : Prop where
  n : n = l.length
  lies : Lies [] lo hi w a (pts l)
  nil : l = [] → a = none ∧ c = 0
def PostSet (l : List Int) (w : World) (e : Ending) (w' : World) : Prop := ∃ a n c, e = .returned (.slice a n c) ∧ Below w.heap.size w w' ∧ SetL l w.heap.size w'.heap.size w' a n c
section
variable {w w' : World} {l : List Int} {lo hi : Nat} {a : Option Addr} {n c : Nat}
theorem SetL.empty : SetL [] lo hi w none 0 0 := ⟨rfl, fun i v h => by simp [pts] at h, fun _ => ⟨rfl, rfl⟩⟩
theorem SetL.to {lo' hi' : Nat} (h : SetL l lo hi w a n c) (h1 : lo' ≤ lo) (h2 : hi ≤ hi') : SetL l lo' hi' w a n c := ⟨h.n, h.lies.to h1 h2, h.nil⟩
theorem SetL.out {S : List Nat} (h : SetL l lo hi w a n c) (hc : Chg S w w') (hs : ∀ x ∈ S, x < lo ∨ hi ≤ x) : SetL l lo hi w' a n c := ⟨h.n, h.lies.out hc hs, h.nil⟩
theorem SetL.below (h : SetL l lo hi w a n c) (hb : Below w.heap.size w w') : SetL l lo hi w' a n c := ⟨h.n, h.lies.below hb, h.nil⟩
theorem SetL.at (h : SetL l lo hi w a n c) {i : Nat} (hi' : i < l.length) : ∃ b o, a = some ⟨b, o, none⟩ ∧ (lo ≤ b ∧ b < hi) ∧ w.cell? ⟨b, o + i * 2, none⟩ = some (I l[i]) ∧ w.cell? ⟨b, o + i * 2 + 1, none⟩ = some (I l[i]) := by
  obtain ⟨b, o, e, ⟨_, q⟩, d0⟩ := h.lies (i * 2 + 0) _ (pts_get (getElem_of_lt hi') 0 (by omega))
  obtain ⟨b', o', e', _, d1⟩ := h.lies (i * 2 + 1) _ (pts_get (getElem_of_lt hi') 1 (by omega))
  rw [e] at e'; cases e'
  exact ⟨b, o, e, q, cell_at' d0 (by omega), cell_at' d1 (by omega)⟩
theorem SetL.ofRow {B : Nat} (h : Row 47 2 B [] a n c (pts l) w) (hn : l = [] → a = none ∧ c = 0) (hl : lo ≤ B) : SetL l lo w.heap.size w a n c :=
  ⟨by have := h.len; rw [pts_len] at this; omega, rowE_lies (.inr h) hl, hn⟩
theorem grdS (a : Addr) (n c : Nat) (w : World) : (eqGuard .eql 122 (.tmp 3) (.const (.slice none 0 0)) (.slice (some a) n c) (.slice none 0 0)).run Tryz.prog w = .ok () w := by kernel_rfl
theorem eqS (a : Addr) (n c : Nat) (w : World) : (binOp .eql 122 (.slice (some a) n c) (.slice none 0 0)).run Tryz.prog w = .ok (.bool false) w := by kernel_rfl
theorem grdS0 (w : World) : (eqGuard .eql 122 (.tmp 3) (.const (.slice none 0 0)) (.slice none 0 0) (.slice none 0 0)).run Tryz.prog w = .ok () w := by kernel_rfl
theorem eqS0 (w : World) : (binOp .eql 122 (.slice none 0 0) (.slice none 0 0)).run Tryz.prog w = .ok (.bool true) w := by kernel_rfl
theorem sortD_one {f : Nat} {fi fc : List Value} (hn : n ≤ 1) : Calls Tryz.prog 202 #[.slice a n c, .func (.func f) fi.toArray fc.toArray] w (Done w) := by
  refine vc202 _ _ _ _ _ _ w _ ⟨by omega, fun w1 hb1 _ => ?_⟩
  refine (len_small (x := (n : Int)) (by omega) w1).mono fun e w2 he => ?_
  obtain ⟨r, rfl, hb2⟩ := he
  refine ⟨_, rfl, .all hb2, fun w3 hb3 hk3 => ?_⟩
  refine (pdqS_one hn).mono fun e w4 he => ?_
  obtain ⟨rfl, hb4⟩ := he
  exact ⟨rfl, .all hb4, fun w5 hb5 _ => ⟨rfl, hb5⟩⟩
theorem app_none {a : Option Addr} {n c : Nat} {R : Value → World → Prop} (hle : n ≤ c) (h : R (.slice a n c) w) : RunsTo Tryz.prog (Builtin.append_ #[122, 122] 122 #[.slice a n c, .slice none 0 0]) w R := by
  obtain ⟨ht, i, z, hi, hz, hs, hby, hzs⟩ := elemB_spec (P := Tryz.prog) (t := 122) (e := 47) (size := 2) (bytes := 16) (by kernel_rfl)
  refine ⟨_, w, ?_, h⟩
  cases a <;> simp [Builtin.append_, run_underlying ht, sizeOf, typeInfo, hi, hle, Builtin.lenOf, Builtin.firstCells, storeCells]

/-- One number more. -/
theorem app_pt {B : Nat} {W : World} {m : Nat} {x : Int} {c' : Nat} (R0 : RowG 47 2 B (fun b => b < W.heap.size) none 0 0 [] W) (hB : B ≤ W.heap.size) (hm : W.heap[m]? = some (.cells #[I x, I x] 47 (0, 0))) {R : Value → World → Prop}
    (hR : ∀ a' c' W', Below W.heap.size W W' → SetL [x] B W'.heap.size W' a' 1 c' → Row 47 2 B [] a' 1 c' (pts [x]) W' → (∀ b o, a' = some ⟨b, o, none⟩ → W.heap.size ≤ b) → R (.slice a' 1 c') W') :
    RunsTo Tryz.prog (Builtin.append_ #[122, 122] 122 #[.slice none 0 0, .slice (some ⟨m, 0, none⟩) 1 c']) W R := by
  refine R0.append (P := Tryz.prog) (bytes := 16) (by kernel_rfl) (by omega) (m := 1) (news := [_, _]) (Cells.obj (vs := [_, _]) hm) rfl (List.forall_mem_cons.2 ⟨rfl, List.forall_mem_cons.2 ⟨rfl, by simp⟩⟩) (by omega) (by omega) hB (fun b hb => hb) fun a' c' W' R' S c1 hS => ?_
  have hb : Below W.heap.size W W' := ⟨c1.os, c1.tape, c1.output, c1.size, fun k hk => c1.keep k hk fun hm => (hS k hm).2 hk⟩
  exact hR a' c' W' hb (SetL.ofRow (l := [x]) R'.row (fun h => by cases h) (Nat.le_refl _)) R'.row fun b o e => by have := R'.av b o e; omega
set_option maxRecDepth 100000 in
theorem cloneD (h : SetL l lo hi w a n c) (hl : l.length ≤ 1) : Calls Tryz.prog 201 #[.slice a n c] w (PostSet l w) := by
  refine vc201 _ _ _ w _ fun w1 hb1 hk1 => ?_
  have hn := h.n
  by_cases h0 : l = []
  · subst h0
    obtain ⟨rfl, rfl⟩ := h.nil rfl
    have hn0 : n = 0 := hn
    subst hn0
    refine ⟨.bool true, w1, ?_, true, rfl, .all (.refl _ _), fun _ w3 hb3 _ => ⟨none, 0, 0, rfl, hb3, .empty⟩, fun h => (nomatch h)⟩
    rw [Sem.run_bind]
    show (Result.andThen ((eqGuard .eql 122 (.tmp 3) (.const (.slice none 0 0)) (.slice none 0 0) (.slice none 0 0)).run Tryz.prog w1) _) = _
    rw [grdS0, Result.andThen_ok]
    exact eqS0 w1
  · have hpos : 0 < l.length := List.length_pos_iff.2 h0
    obtain ⟨b1, o1, rfl, _⟩ := h.at hpos
    refine ⟨.bool false, w1, ?_, false, rfl, .all (.refl _ _), fun h => (nomatch h), fun _ m2 g2 w4 hb4 hk4 hc4 => ?_⟩
    · rw [Sem.run_bind, grdS, Result.andThen_ok, eqS]
    have R0 : RowE 47 2 w.heap.size [m2] (some ⟨m2, 0, none⟩) 0 0 [] w4 := RowE.lit
    have s4 := hb4.size
    refine append_rowE (P := Tryz.prog) (bytes := 16) (by kernel_rfl) (by omega) R0 (m := n) (h.lies.cells.keep hb4) (by rw [pts_len]; omega) (fun u hu => by
      obtain ⟨x, _, hu⟩ := List.mem_flatMap.1 hu
      simp at hu; subst hu; rfl) (by omega) (by omega) s4 (fun y hy => hk4.own y hy) (by omega) fun a' c' w5 R5 S c5 hS => ?_
    rw [Nat.zero_add, List.nil_append] at *
    have hb5 : Below w.heap.size w w5 := hb4.trans ⟨c5.os, c5.tape, c5.output, c5.size, fun k hk => c5.keep k (by omega) fun hm => by have := (hS k hm).1; omega⟩
    refine ⟨_, _, _, rfl, c5.own (fun y hy => ⟨hk4.own y hy, fun h => (hS y h).2 hy⟩) (by simp) (fun _ => ⟨s4, fun s hs => (hS s hs).1⟩), fun w6 hb6 hk6 => ⟨_, _, _, rfl, hb6, ?_⟩⟩
    exact SetL.ofRow ((R5.chg (Chg.kept hk6) (by simp)).less (by simp)) (fun h => absurd h h0) (Nat.le_refl _)
set_option maxRecDepth 100000 in
theorem joinedD (h : SetL l lo hi w a n c) (hl : l.length ≤ 1) : Calls Tryz.prog 148 #[.slice a n c] w (PostSet l w) := by
  refine vc148 _ _ _ w _ fun w1 hb1 hk1 => ?_
  refine (cloneD (h.below hb1 |>.out (S := []) (Chg.refl _ _) (by simp)) hl).mono fun e w2 he => ?_
  obtain ⟨a2, n2, c2, rfl, hb2, h2⟩ := he
  have hn2 := h2.n
  refine ⟨_, _, _, rfl, .all hb2, fun w3 hb3 hk3 => ?_⟩
  refine (sortD_one (fi := []) (fc := []) (by omega)).mono fun e w4 he => ?_
  obtain ⟨rfl, hb4⟩ := he
  have s1 := hb1.size; have s2 := hb2.size; have s3 := hb3.size; have s4 := hb4.size; have q3 := hk3.size
  have h4 : SetL l w1.heap.size w2.heap.size w4 a2 n2 c2 := (h2.out (Chg.kept hk3) (by simp)).below hb4
  refine ⟨rfl, .all hb4, fun ls w' => match ls with | [.sl a' n' c', .int _ i] => (0 ≤ i ∧ i ≤ l.length) ∧ SetL (l.take i.toNat) w.heap.size w'.heap.size w' a' n' c' ∧ SetL l w1.heap.size w2.heap.size w' a2 n2 c2 ∧ w2.heap.size ≤ w'.heap.size | _ => False, fun ls => match ls with | [_, .int _ i] => (l.length - i).toNat | _ => 0, fun w6 hb6 hk6 => ⟨by omega, .empty, h4.out (Chg.kept hk6) (by simp), by have := hk6.size; omega⟩, ?_⟩
  rintro a5 n5 c5 i w7 hb7 ⟨⟨i0, i1⟩, h7, g7, z7⟩
  refine ⟨fun hlt => ?_, fun hge w17 hb17 hk17 => ?_⟩
  rotate_left
  · have e : l.take i.toNat = l := List.take_of_length_le (by omega)
    rw [e] at h7
    exact ⟨_, _, _, rfl, hb17, (h7.out (Chg.kept hk17) (by simp)).to (Nat.le_refl _) hk17.size⟩
  have e0 : i = 0 := by omega
  subst e0
  obtain ⟨x, rfl⟩ : ∃ x, l = [x] := List.length_eq_one_iff.1 (by omega)
  have e5 : n5 = 0 := h7.n
  subst e5
  obtain ⟨rfl, rfl⟩ := h7.nil rfl
  obtain ⟨b, o, rfl, hb', d0, d1⟩ := g7.at (i := 0) (by simp)
  refine ⟨b, o, rfl, by omega, _, _, cell_at' d0 (by simp), cell_at' d1 (by simp), fun m9 g9 => ⟨by omega, fun h => by omega, fun _ m22 g22 w14 hb14 hk14 hc14 => ?_⟩⟩
  have q7 := hb7.size; have q14 := hk14.size
  refine app_pt (B := w.heap.size) RowG.nil (by omega) hc14 fun a8 c8 w15 hb15 h15 _ hge15 => ⟨_, _, _, rfl, .all hb15, by omega, fun w16 hb16 hk16 => ⟨⟨by simp, ?_, ?_, ?_⟩, by simp⟩⟩
  · have o1 := hk14.own m22 (by simp); have o2 := hk14.own m9 (by simp)
    refine ⟨h15.n, fun i v hv => ?_, fun h => by cases h⟩
    obtain ⟨b, o, e, ⟨q1, q2, q3⟩, hc⟩ := h15.lies i v hv
    have := hge15 b o e
    have k16 := hk16.size
    exact ⟨b, o, e, ⟨q1, q2, by omega⟩, (Chg.kept hk16).cell (by simp; omega) hc⟩
  · exact ((g7.out (Chg.kept hk14) (by simp; omega)).below hb15).out (Chg.kept hk16) (by simp; omega)
  · have := hb15.size; have := hk16.size; omega
/-- What a function value makes of a number: another one, or none. -/
def MapD (f : Nat) (fi fc : List Value) (g : Int → Option Int) (l : List Int) (B : Nat) (w0 : World) : Prop :=
  Callable Tryz.prog f ∧ ∀ x ∈ l, ∀ w, Below B w0 w → Calls Tryz.prog f (fi ++ [Value.agg #[I x, I x]] ++ fc).toArray w fun e w' => ∃ y0 y1 t, e = .returned (.tuple #[.agg #[I y0, I y1], .bool t]) ∧ Below w.heap.size w w' ∧ (t = (g x).isSome) ∧ ∀ y, g x = some y → y0 = y ∧ y1 = y
set_option maxRecDepth 100000 in
theorem whereD {f : Nat} {fi fc : List Value} {g : Int → Option Int} (h : SetL l lo hi w a n c) (hl : l.length ≤ 1) (hf : MapD f fi fc g l w.heap.size w) :
    Calls Tryz.prog 144 #[.slice a n c, .func (.func f) fi.toArray fc.toArray] w (PostSet (l.filterMap g) w) := by
  have hn := h.n
  have hl2 : (l.filterMap g).length ≤ 1 := Nat.le_trans (List.length_filterMap_le _ _) hl
  refine vc144 _ _ _ _ _ _ w _ ⟨fun ls w' => match ls with | [.sl a' n' c', .int _ i] => (0 ≤ i ∧ i ≤ l.length) ∧ SetL ((l.take i.toNat).filterMap g) w.heap.size w'.heap.size w' a' n' c' | _ => False, fun ls => match ls with | [_, .int _ i] => (l.length - i).toNat | _ => 0, fun w2 hb2 _ => ⟨by omega, .empty⟩, ?_⟩
  rintro a3 n3 c3 i w3 hb3 ⟨⟨i0, i1⟩, h3⟩
  have q3 := hb3.size
  refine ⟨fun hlt => ?_, fun hge w10 hb10 hk10 => ?_⟩
  rotate_left
  · have e : l.take i.toNat = l := List.take_of_length_le (by omega)
    rw [e] at h3
    have h10 := h3.out (Chg.kept hk10) (S := []) (by simp)
    refine (joinedD h10 hl2).mono fun e w11 he => ?_
    obtain ⟨a11, n11, c11, rfl, hb11, h11⟩ := he
    refine ⟨_, _, _, rfl, .all hb11, fun w12 hb12 hk12 => ⟨_, _, _, rfl, hb12, (h11.out (Chg.kept hk12) (by simp)).to hb10.size hk12.size⟩⟩
  have e0 : i = 0 := by omega
  subst e0
  obtain ⟨x, rfl⟩ : ∃ x, l = [x] := List.length_eq_one_iff.1 (by omega)
  have e5 : n3 = 0 := h3.n
  subst e5
  obtain ⟨rfl, rfl⟩ := h3.nil rfl
  obtain ⟨b, o, rfl, hb', d0, d1⟩ := (h.below hb3).at (i := 0) (by simp)
  refine ⟨b, o, rfl, by omega, _, _, cell_at' d0 (by simp), cell_at' d1 (by simp), fun m5 g5 => ⟨hf.1, fun w4 hb4 hk4 => ?_⟩⟩
  refine (hf.2 x (by simp) w4 hb4).mono fun e w5 he => ?_
  obtain ⟨y0, y1, t, rfl, hb5, ht, hy⟩ := he
  refine ⟨_, _, _, rfl, .all hb5, fun m7 g7 => ⟨fun hT m8 g8 w6 hb6 hk6 hc6 => ?_, fun hF => ⟨by omega, fun w9 hb9 hk9 => ⟨⟨by simp, ?_⟩, by simp⟩⟩⟩⟩
  · cases hg : g x with
    | none => rw [hg] at ht; subst ht; cases hT
    | some y =>
      obtain ⟨rfl, rfl⟩ := hy y hg
      have q6 := hb6.size
      refine app_pt (B := w.heap.size) RowG.nil (by omega) hc6 fun a8 c8 w7 hb7 h7 _ hge7 => ⟨_, _, _, rfl, .all hb7, by omega, fun w8 hb8 hk8 => ⟨⟨by simp, ?_⟩, by simp⟩⟩
      have e : (List.take ((0 : Int) + 1).toNat [x]).filterMap g = [y1] := by simp [hg]
      rw [e]
      have o1 := hk6.own m8 (by simp); have o2 := hk6.own m7 (by simp); have o3 := hk6.own m5 (by simp)
      refine ⟨h7.n, fun i v hv => ?_, fun h => by cases h⟩
      obtain ⟨b, o, e, ⟨q1, q2, q3⟩, hc⟩ := h7.lies i v hv
      have := hge7 b o e
      have k8 := hk8.size
      exact ⟨b, o, e, ⟨q1, q2, by omega⟩, (Chg.kept hk8).cell (by simp; omega) hc⟩
  · cases hg : g x with
    | some y => rw [hg] at ht; subst ht; cases hF
    | none =>
      have e : (List.take ((0 : Int) + 1).toNat [x]).filterMap g = [] := by simp [hg]
      rw [e]
      exact .empty
def usedF (u : Int) (x : Int) : Option Int := if u ≤ x then some (x - u) else none
def woundF (line by' : Int) (x : Int) : Option Int := some (min line (x + by'))
def SetBd (l : List Int) : Prop := ∀ x ∈ l, 0 ≤ x ∧ x ≤ 100000
set_option maxRecDepth 100000 in
theorem usedDr {u : Int} (h : SetL l lo hi w a n c) (hl : l.length ≤ 1) (hb : SetBd l) (hu : 0 ≤ u ∧ u ≤ 3000) : Calls Tryz.prog 84 #[.slice a n c, .agg #[I u, I u]] w (PostSet (l.filterMap (usedF u)) w) := by
  refine vc84 _ _ _ _ _ w _ fun m1 g1 w1 hb1 hk1 hc1 => ?_
  refine (whereD (g := usedF u) (fi := []) (fc := [.pointer (some ⟨m1, 0, none⟩)]) (h.below hb1) hl ⟨callOk_run (by rfl), fun x hx w2 hb2 => ?_⟩).mono fun e w2 he => ?_
  · have k0 : w2.cell? ⟨m1, 0 + 0, none⟩ = some (I u) := cell_keep hb2 (cell_obj (vs := [I u, I u]) hc1 rfl)
    have k1 : w2.cell? ⟨m1, 0 + 1, none⟩ = some (I u) := cell_keep hb2 (cell_obj (vs := [I u, I u]) hc1 rfl)
    have hx' := hb x hx
    have ho := lt_of_some hc1
    have z2 := hb2.size
    refine vc145 _ _ _ w2 _ fun m3 g3 m4 g4 => ⟨_, k1, .inl (by omega), by omega, _, k0, .inl (by omega), by omega, .inl (by omega), _, k0, .inl (by omega), fun w3 hb3 _ => ⟨_, _, _, rfl, hb3, ?_, fun y hy => ?_⟩⟩
    · unfold usedF
      by_cases h : u ≤ x <;> simp [h]
    · unfold usedF at hy
      split at hy
      · cases hy; exact ⟨by omega, rfl⟩
      · cases hy
  · obtain ⟨a2, n2, c2, rfl, hb2, h2⟩ := he
    have o1 := hk1.own m1 (by simp)
    exact ⟨_, _, _, rfl, .all hb2, fun w3 hb3 hk3 => ⟨_, _, _, rfl, hb3, (h2.out (Chg.kept hk3) (by simp; omega)).to hb1.size hk3.size⟩⟩
set_option maxRecDepth 100000 in
theorem woundDr {by' line : Int} (h : SetL l lo hi w a n c) (hl : l.length ≤ 1) (hb : SetBd l) (hu : 0 ≤ by' ∧ by' ≤ 3000) : Calls Tryz.prog 146 #[.slice a n c, .agg #[I by', I by'], I line] w (PostSet (l.filterMap (woundF line by')) w) := by
  refine vc146 _ _ _ _ _ _ w _ fun m1 g1 m2 g2 w1 hb1 hk1 hc2 hc1 => ?_
  refine (whereD (g := woundF line by') (fi := []) (fc := [.pointer (some ⟨m2, 0, none⟩), .pointer (some ⟨m1, 0, none⟩)]) (h.below hb1) hl ⟨callOk_run (by rfl), fun x hx w2 hb2 => ?_⟩).mono fun e w2 he => ?_
  · have k0 : w2.cell? ⟨m1, 0 + 0, none⟩ = some (I by') := cell_keep hb2 (cell_obj (vs := [I by', I by']) hc1 rfl)
    have k1 : w2.cell? ⟨m1, 0 + 1, none⟩ = some (I by') := cell_keep hb2 (cell_obj (vs := [I by', I by']) hc1 rfl)
    have k2 : w2.cell? ⟨m2, 0, none⟩ = some (I line) := cell_keep hb2 (cell_obj (vs := [I line]) hc2 rfl)
    have hx' := hb x hx
    have ho := lt_of_some hc1
    have ho2 := lt_of_some hc2
    have z2 := hb2.size
    refine vc199 _ _ _ _ w2 _ fun m3 g3 m4 g4 => ⟨_, k2, .inl (by omega), _, k0, .inl (by omega), by omega, _, k2, .inl (by omega), _, k1, .inl (by omega), by omega, fun w3 hb3 _ => ⟨_, _, _, rfl, hb3, rfl, fun y hy => ?_⟩⟩
    unfold woundF at hy
    cases hy; exact ⟨rfl, rfl⟩
  · obtain ⟨a2, n2, c2, rfl, hb2, h2⟩ := he
    have o1 := hk1.own m1 (by simp); have o2 := hk1.own m2 (by simp)
    exact ⟨_, _, _, rfl, .all hb2, fun w3 hb3 hk3 => ⟨_, _, _, rfl, hb3, (h2.out (Chg.kept hk3) (by simp; omega)).to hb1.size hk3.size⟩⟩
theorem stopsD {u : Int} (h : SetL l lo hi w a n c) (hl : l.length ≤ 1) : Calls Tryz.prog 83 #[.slice a n c, .agg #[I u, I u]] w (Pure w (.bool (l.any fun x => decide (x < u)))) := by
  have hn := h.n
  refine vc83 _ _ _ _ _ w _ fun m1 g1 => ⟨fun hp => ?_, fun hp w2 hb2 _ => ⟨?_, hb2⟩⟩
  · obtain ⟨x, rfl⟩ : ∃ x, l = [x] := List.length_eq_one_iff.1 (by omega)
    obtain ⟨b, o, rfl, hb', d0, d1⟩ := h.at (i := 0) (by simp)
    exact ⟨b, o, rfl, by omega, x, cell_at' d0 (by simp), .inl (cell_lt d0), fun w1 hb1 _ => ⟨by simp, hb1⟩⟩
  · have : l = [] := List.length_eq_zero_iff.1 (by omega)
    subst this; rfl
theorem run_capS {w : World} {a : Option Addr} {n c : Nat} : (Builtin.cap_ #[122] 3 #[.slice a n c]).run Tryz.prog w = .ok (I c) w := by
  have h1 : (underlying 122).run Tryz.prog w = .ok (.slice 47) w := run_underlying (by kernel_rfl) w
  simp [Builtin.cap_, h1, Sem.run_bind, Sem.run_pure, goInt]
theorem grow0D (w : World) : Calls Tryz.prog 200 #[.slice none 0 0, I 0] w (Pure w (.slice none 0 0)) := by
  refine vc200 _ _ _ _ w _ ⟨fun h => by omega, fun _ w3 hb3 _ => ⟨_, _, run_capS, _, rfl, .all (.refl _ _), by simp, by simp, fun h => by simp at h, fun _ w10 hb10 _ => ⟨rfl, hb10⟩⟩⟩
theorem growD {n : Nat} (hn : 0 < n) (hn2 : n ≤ 1000) (w : World) : Calls Tryz.prog 200 #[.slice none 0 0, I n] w fun e w' => ∃ b c, e = .returned (.slice (some ⟨b, 0, none⟩) 0 c) ∧ Below w.heap.size w w' ∧ Row 47 2 w.heap.size [] (some ⟨b, 0, none⟩) 0 c [] w' := by
  refine vc200 _ _ _ _ w _ ⟨fun h => by omega, fun _ w3 hb3 _ => ⟨_, _, run_capS, _, rfl, .all (.refl _ _), by simp, by simp; omega, fun _ w5 hb5 _ => ?_, fun h => by simp at h; omega⟩⟩
  refine ⟨_, _, run_capS, _, rfl, .all (.refl _ _), by simp, fun w7 hb7 _ => ?_⟩
  obtain ⟨ht, i, z, hi, hz, hs, hby, hzs⟩ := elemB_spec (P := Tryz.prog) (t := 122) (e := 47) (size := 2) (bytes := 16) (by kernel_rfl)
  have hr := run_append_grow_zeros (P := Tryz.prog) w7 122 3 122 47 i z .i64 .i64 ht (by kernel_rfl) hi hz none 0 0 [] (by simp [Builtin.firstCells]) n hn (by omega) (by omega) (by omega) (by rw [hby]; omega) (growslice_fits (by omega) (by rw [hby]; omega))
  have e1 : subA none 0 (Int.toNat 0) 2 = none := rfl
  simp only [e1]
  rw [show (n : Int) - (((0 : Nat) : Int) - ((0 : Nat) : Int)) = (n : Int) by omega]
  refine ⟨_, _, hr, _, _, _, rfl, .all alloc_below, by simp, fun w9 hb9 hk9 => ?_⟩
  have hge := grownCap_ge w7 (0 + n) 0 47
  have hh : (w7.drew.alloc (.cells (([] : List Value).toArray ++ Builtin.zeroCells z.cells n ++ Builtin.zeroCells z.cells (grownCap w7 (0 + n) 0 47 - (0 + n))) 47)).heap[w7.heap.size]? = some (.cells (([] : List Value).toArray ++ Builtin.zeroCells z.cells n ++ Builtin.zeroCells z.cells (grownCap w7 (0 + n) 0 47 - (0 + n))) 47 (0, 0)) := heap_alloc_new w7.drew _
  have h9 := (hk9.block w7.heap.size (lt_of_some hh) (by simp)).trans hh
  refine ⟨w7.heap.size, grownCap w7 (0 + n) 0 47, ?_, hb9, ⟨⟨rfl, .inr ⟨w7.heap.size, grownCap w7 (0 + n) 0 47, _, rfl, hb7.size, h9, Nat.zero_le _, grownCap_le_maxLen w7 (0 + n) 0 47 (Nat.le_trans (show 0 + n ≤ 140737488355328 by omega) maxLen_big), ?_, ?_⟩⟩, by simp⟩⟩
  · have e2 : subA (some (⟨w7.heap.size, 0, none⟩ : Addr)) (grownCap w7 (0 + n) 0 47) (Int.toNat 0) 2 = some ⟨w7.heap.size, 0, none⟩ := by
      unfold subA
      rw [if_neg (by show ¬ grownCap w7 (0 + n) 0 47 = 0; omega)]
      simp [Addr.add]
    rw [e2]
    simp
  · simp only [Array.size_append, List.size_toArray, size_zeroCells, hzs, List.length_nil]; omega
  · simp

/-- Some sets, one after another in a block. -/
structure Sets (O : List (List Int)) (S : List Sl) (lo hi : Nat) (w : World) : Prop where
  n : S.length = O.length
  s : ∀ i (hi' : i < S.length), SetL (O.getD i []) lo hi w S[i].1 S[i].2.1 S[i].2.2
theorem Sets.at {O : List (List Int)} {S : List Sl} (h : Sets O S lo hi w) {i : Nat} (hi' : i < O.length) : ∃ s, S[i]? = some s ∧ SetL O[i] lo hi w s.1 s.2.1 s.2.2 := by
  have hn := h.n
  have := h.s i (by omega)
  rw [List.getD_eq_getElem?_getD, getElem_of_lt hi'] at this
  exact ⟨_, getElem_of_lt (by omega), this⟩
theorem take_join {O : List (List Int)} {i : Nat} (h : i < O.length) : (O.take (i + 1)).flatten = (O.take i).flatten ++ O[i] := by
  rw [List.take_add_one, getElem_of_lt h, Option.toList, List.flatten_append]
  simp
theorem take_join_le (O : List (List Int)) (i : Nat) : (O.take i).flatten.length ≤ O.flatten.length := by
  have : O.flatten = (O.take i).flatten ++ (O.drop i).flatten := by rw [← List.flatten_append, List.take_append_drop]
  rw [this, List.length_append]; omega
set_option maxRecDepth 100000 in
theorem concatD {O : List (List Int)} {S : List Sl} {sa : Option Addr} {sc : Nat} (hs : Cells w sa (S.map slV)) (h : Sets O S lo hi w) (hO : O.flatten.length ≤ 1) (hn : O.length ≤ 1000) :
    Calls Tryz.prog 147 #[.slice sa O.length sc] w (PostSet O.flatten w) := by
  have hN := h.n
  have elem : ∀ (i : Nat) (hi0 : i < O.length), ∃ (b o : Nat) (s : Sl), sa = some ⟨b, o, none⟩ ∧ w.cell? ⟨b, o + i * 1, none⟩ = some (.slice s.1 s.2.1 s.2.2) ∧ SetL O[i] lo hi w s.1 s.2.1 s.2.2 := fun i hi0 => by
    obtain ⟨s, e, hs'⟩ := h.at hi0
    obtain ⟨b, o, e2, hc⟩ := hs i (slV s) (by rw [List.getElem?_map, e]; rfl)
    exact ⟨b, o, s, e2, cell_at' hc (by omega), hs'⟩
  refine vc147 _ _ _ w _ ⟨fun ls _ => match ls with | [.int _ s, .int _ i] => (0 ≤ i ∧ i ≤ O.length) ∧ s = ((O.take i.toNat).flatten.length : Int) | _ => False, fun ls => match ls with | [_, .int _ i] => (O.length - i).toNat | _ => 0, fun w2 _ _ => ⟨by omega, rfl⟩, ?_⟩
  rintro s i w3 hb3 ⟨hi, rfl⟩
  have hle := take_join_le O i.toNat
  refine ⟨fun hlt => ?_, fun hge w7 hb7 hk7 => ?_⟩
  · have hi' : i.toNat < O.length := by omega
    obtain ⟨b, o, s, rfl, hc, hS⟩ := elem i.toNat hi'
    have hj := take_join hi'
    have hle2 := take_join_le O (i.toNat + 1)
    have hsn := hS.n
    rw [hj, List.length_append] at hle2
    refine ⟨b, o, rfl, by omega, _, _, _, cell_keep hb3 hc, by omega, fun h => by omega, fun _ => ⟨by omega, fun w6 hb6 _ => ⟨⟨by omega, ?_⟩, ?_⟩⟩⟩
    · rw [show (i + 1).toNat = i.toNat + 1 by omega, hj, List.length_append, hsn]; omega
    · show (O.length - (i + 1)).toNat < (O.length - i).toNat
      omega
  have e : O.take i.toNat = O := List.take_of_length_le (by omega)
  rw [e]
  have s7 := hb7.size
  have hgrow : Calls Tryz.prog 200 #[.slice none 0 0, I (O.flatten.length : Nat)] w7 fun e w' => ∃ a c, e = .returned (.slice a 0 c) ∧ Below w7.heap.size w7 w' ∧ Row 47 2 w.heap.size [] a 0 c [] w' ∧ (O.flatten = [] → a = none ∧ c = 0) := by
    by_cases h0 : O.flatten = []
    · rw [h0]
      exact (grow0D w7).mono fun e w8 he => ⟨none, 0, he.1, he.2, Row.nil, fun _ => ⟨rfl, rfl⟩⟩
    · refine (growD (List.length_pos_iff.2 h0) (by omega) w7).mono fun e w8 he => ?_
      obtain ⟨b, c, rfl, hb, hR⟩ := he
      exact ⟨_, _, rfl, hb, hR.base s7, fun h => absurd h h0⟩
  refine hgrow.mono fun e w8 he => ?_
  obtain ⟨ga, gc, rfl, hb8, R8, hg0⟩ := he
  refine ⟨_, _, _, rfl, .all hb8, fun ls w' => match ls with | [.sl a n c, .int _ i] => (0 ≤ i ∧ i ≤ O.length) ∧ n = (O.take i.toNat).flatten.length ∧ Row 47 2 w.heap.size [] a n c (pts (O.take i.toNat).flatten) w' ∧ (O.flatten = [] → a = none ∧ c = 0) | _ => False, fun ls => match ls with | [_, .int _ i] => (O.length - i).toNat | _ => 0,
    fun w10 hb10 hk10 => ⟨by omega, rfl, R8.chg (Chg.kept hk10) fun _ h => h, hg0⟩, ?_⟩
  rintro a n c i w11 hb11 ⟨hi, rfl, R11, h0⟩
  have hle := take_join_le O i.toNat
  refine ⟨fun hlt => ?_, fun hge w15 hb15 hk15 => ?_⟩
  rotate_left
  · have e : O.take i.toNat = O := List.take_of_length_le (by omega)
    rw [e] at R11 ⊢
    exact ⟨_, _, _, rfl, hb15, SetL.ofRow (R11.chg (Chg.kept hk15) fun _ h => h) h0 (Nat.le_refl _)⟩
  have hi' : i.toNat < O.length := by omega
  obtain ⟨b, o, s, rfl, hc, hS⟩ := elem i.toNat hi'
  have hj := take_join hi'
  have hle2 := take_join_le O (i.toNat + 1)
  have hsn := hS.n
  refine ⟨b, o, rfl, by omega, _, _, _, cell_keep hb11 hc, fun w12 hb12 hk12 => ?_⟩
  have R12 := R11.chg (Chg.kept hk12) fun _ h => h
  have eN : (i + 1).toNat = i.toNat + 1 := by omega
  by_cases hz : O[i.toNat] = []
  · rw [hz] at hS hj
    obtain ⟨e1, e2⟩ := hS.nil rfl
    have e3 : s.2.1 = 0 := hS.n
    rw [e1, e2, e3]
    rw [List.append_nil] at hj
    refine app_none (row_le R12) ⟨_, _, _, rfl, .all (.refl _ _), by omega, fun w14 hb14 hk14 => ⟨⟨by omega, by rw [eN, hj], ?_, h0⟩, ?_⟩⟩
    · rw [eN, hj]; exact R12.chg (Chg.kept hk14) fun _ h => h
    · show (O.length - (i + 1)).toNat < (O.length - i).toNat
      omega
  · have hpos : 0 < O[i.toNat].length := List.length_pos_iff.2 hz
    obtain ⟨b1, o1, e1, _⟩ := hS.at hpos
    have hcs := hS.lies.cells.keep hb12
    rw [e1] at hcs ⊢
    rw [hj, List.length_append] at hle2
    refine append_row (P := Tryz.prog) (bytes := 16) (by kernel_rfl) (by omega) R12 (m := s.2.1) hcs (by rw [pts_len]; omega) (fun u hu => by
      obtain ⟨x, _, hu⟩ := List.mem_flatMap.1 hu
      simp at hu; subst hu; rfl) (by omega) (by omega) hb12.size (by simp) fun a2 c2 w13 R13 T cT hT => ?_
    refine ⟨_, _, _, rfl, cT.own (by simp) (by simp) (fun _ => ⟨hb12.size, fun b hb => (hT b hb).1⟩), by omega, fun w14 hb14 hk14 => ⟨⟨by omega, by rw [eN, hj, List.length_append]; omega, ?_, fun h => ?_⟩, ?_⟩⟩
    · rw [eN, hj]
      have := R13.chg (Chg.kept hk14) fun _ h => h
      rw [show pts ((O.take i.toNat).flatten ++ O[i.toNat]) = pts (O.take i.toNat).flatten ++ pts O[i.toNat] by simp [pts]]
      exact this
    · have : O[i.toNat] = [] := by
        have h1 : O[i.toNat] ∈ O := List.getElem_mem hi'
        exact List.flatten_eq_nil_iff.1 h _ h1
      exact absurd this hz
    · show (O.length - (i + 1)).toNat < (O.length - i).toNat
      omega
theorem orD {O : List (List Int)} {S : List Sl} {sa : Option Addr} {sc : Nat} (hs : Cells w sa (S.map slV)) (h : Sets O S lo hi w) (hO : O.flatten.length ≤ 1) (hn : O.length ≤ 1000) :
    Calls Tryz.prog 86 #[.slice sa O.length sc] w (PostSet O.flatten w) := by
  refine vc86 _ _ _ w _ fun w1 hb1 _ => ?_
  refine (concatD (lo := lo) (hi := hi) (hs.keep hb1) ⟨h.n, fun i hi => (h.s i hi).below hb1⟩ hO hn).mono fun e w2 he => ?_
  obtain ⟨a2, n2, c2, rfl, hb2, h2⟩ := he
  refine ⟨_, _, _, rfl, .all hb2, fun w3 hb3 hk3 => ?_⟩
  refine (joinedD (h2.out (Chg.kept hk3) (by simp)) hO).mono fun e w4 he => ?_
  obtain ⟨a4, n4, c4, rfl, hb4, h4⟩ := he
  exact ⟨_, _, _, rfl, .all hb4, fun w5 hb5 hk5 => ⟨_, _, _, rfl, hb5, (h4.out (Chg.kept hk5) (by simp)).to hb3.size hk5.size⟩⟩
end
end Go.Proofs.RT
end
section
/- How changes follow one another. -/
namespace Go.Vc
open Go.RowKit
section
variable {S bs : List Nat} {w0 w w' : World}
theorem Chg.kin {n : Nat} {rs : List (Nat × Nat)} (h : Chg S w0 w) (hk : KeptIn ((0, n) :: rs) bs w w') (hn : w0.heap.size ≤ n) (hb : ∀ x ∈ bs, x ∈ S ∨ w0.heap.size ≤ x) : Chg S w0 w' :=
  ⟨hk.os.trans h.os, hk.tape.trans h.tape, hk.output.trans h.output, Nat.le_trans h.size hk.size, fun k hl hs => by
    have h1 := h.size
    rw [hk.block k (by omega) (fun hm => by rcases hb k hm with h | h; exact hs h; omega) ⟨_, List.mem_cons_self, Nat.zero_le _, by omega⟩]
    exact h.keep k hl hs⟩
theorem Chg.bel (h : Chg S w0 w) (hb : Below w.heap.size w w') : Chg S w0 w' := h.trans (Chg.of_below hb)
theorem Chg.kpt (h : Chg S w0 w) (hk : Kept bs w w') (hb : ∀ x ∈ bs, x ∈ S ∨ w0.heap.size ≤ x) : Chg S w0 w' :=
  ⟨hk.os.trans h.os, hk.tape.trans h.tape, hk.output.trans h.output, Nat.le_trans h.size hk.size, fun k hl hs => by
    have h1 := h.size
    rw [hk.block k (by omega) (fun hm => by rcases hb k hm with h | h; exact hs h; omega)]
    exact h.keep k hl hs⟩
theorem Chg.more {T : List Nat} (h : Chg S w0 w) (h' : Chg T w w') (hb : ∀ x ∈ T, x ∈ S ∨ w0.heap.size ≤ x) : Chg S w0 w' :=
  ⟨h'.os.trans h.os, h'.tape.trans h.tape, h'.output.trans h.output, Nat.le_trans h.size h'.size, fun k hl hs => by
    have h1 := h.size
    rw [h'.keep k (by omega) (fun hm => by rcases hb k hm with h | h; exact hs h; omega)]
    exact h.keep k hl hs⟩
end
theorem Lies.moreB {bs' : List Nat} {a : Option Addr} {vs : List Value} {w : World} {bs : List Nat} (h : Lies bs 0 w.heap.size w a vs) (hb : ∀ x ∈ bs', x ∈ bs ∨ w.heap.size ≤ x) : Lies bs' 0 w.heap.size w a vs := fun j v hv => by
  obtain ⟨b, o, e, ⟨q1, q2, q3⟩, hc⟩ := h j v hv
  exact ⟨b, o, e, ⟨fun hm => by rcases hb b hm with h | h; exact q1 h; omega, q2, q3⟩, hc⟩
end Go.Vc
end
section
/- Days and hours: the plain law. -/
namespace Go.Proofs.RT
open Go.Vc Go.RowKit Go.Proofs
/-- A weight that is followed: the hour, the visits that have been, what is left (nothing if it has stopped), by the day on which it stops if it is not wound. -/
structure DropAt (n : Int) (L : List Int) (R : Int × Int) (h : Int) (j : Nat) (c : Int) : Prop where
  hc : h ≤ 24 * c
  h0 : 0 ≤ h
  jl : j ≤ L.length
  next : ∀ i, j ≤ i → ∀ D, L[i]? = some D → h < 24 * D
  past : ∀ i, i < j → ∀ D, L[i]? = some D → 24 * D ≤ h
  res : stopsF n 80 c (L.drop j) = R
  cn : c * 24 - h ≤ n * 24
theorem DropAt.start {n : Int} {L : List Int} (hn : 1 ≤ n) (hL : ∀ D ∈ L, 1 ≤ D) : DropAt n L (stopsF n 80 n L) 0 0 n where
  hc := by omega
  h0 := Int.le_refl _
  jl := Nat.zero_le _
  next := fun i _ D hD => by have := hL D (List.mem_of_getElem? hD); omega
  past := fun i hi => absurd hi (Nat.not_lt_zero _)
  res := rfl
  cn := by omega
/-- An hour without a visit at its end. -/
theorem DropAt.pass {n : Int} {L : List Int} {R : Int × Int} {h : Int} {j : Nat} {c : Int} (H : DropAt n L R h j c) (hh : h < 24 * c) (hv : ∀ D, L[j]? = some D → h + 1 < 24 * D) (hp : L.Pairwise (· < ·)) : DropAt n L R (h + 1) j c where
  hc := by omega
  h0 := by have := H.h0; omega
  jl := H.jl
  next := fun i hi D hD => by
    have hlt := (List.getElem?_eq_some_iff.1 hD).1
    have hj := getElem_of_lt (show j < L.length by omega)
    have := hv _ hj
    by_cases e : i = j
    · subst e; rw [hD] at hj; cases hj; exact this
    · have h2 := List.pairwise_iff_getElem.1 hp j i (by omega) hlt (by omega)
      obtain ⟨_, hDe⟩ := List.getElem?_eq_some_iff.1 hD
      omega
  past := fun i hi D hD => by have := H.past i hi D hD; omega
  res := H.res
  cn := by have := H.cn; omega
/-- An hour with a visit at its end. -/
theorem DropAt.wind {n : Int} {L : List Int} {R : Int × Int} {h : Int} {j : Nat} {c D : Int} (H : DropAt n L R h j c) (hh : h < 24 * c) (hD : L[j]? = some D) (hv : h + 1 = 24 * D) (hp : L.Pairwise (· < ·)) (h80 : D ≤ 80) (hn : 1 ≤ n) : DropAt n L R (h + 1) (j + 1) (D + n) where
  hc := by omega
  h0 := by have := H.h0; omega
  jl := (List.getElem?_eq_some_iff.1 hD).1
  next := fun i hi D' hD' => by
    have hlt := (List.getElem?_eq_some_iff.1 hD').1
    obtain ⟨hlj, hDe⟩ := List.getElem?_eq_some_iff.1 hD
    obtain ⟨_, hDe'⟩ := List.getElem?_eq_some_iff.1 hD'
    have h2 := List.pairwise_iff_getElem.1 hp j i hlj hlt (by omega)
    omega
  past := fun i hi D' hD' => by
    by_cases e : i = j
    · subst e; rw [hD] at hD'; cases hD'; omega
    · have := H.past i (by omega) D' hD'; omega
  res := by
    obtain ⟨hlt, hDe⟩ := List.getElem?_eq_some_iff.1 hD
    have hr := H.res
    rw [List.drop_eq_getElem_cons hlt, hDe] at hr
    rw [stopsF_cons, if_neg (by omega), if_neg (by omega)] at hr
    exact hr
  cn := by omega
/-- It stops. -/
theorem DropAt.stop {n : Int} {L : List Int} {R : Int × Int} {h : Int} {j : Nat} {c : Int} (H : DropAt n L R h j c) (hh : 24 * c ≤ h) : h = 24 * c ∧ R = finF 80 c := by
  have := H.hc
  refine ⟨by omega, ?_⟩
  have hr := H.res
  rw [← hr]
  cases hd : L.drop j with
  | nil => rfl
  | cons D r =>
    have : L[j]? = some D := by
      have := congrArg (·[0]?) hd
      simpa using this
    have := H.next j (Nat.le_refl _) D this
    rw [stopsF_cons, if_pos (by omega)]
theorem fin_or (c : Int) : (80 < c ∧ finF 80 c = (-1, 0)) ∨ (c ≤ 80 ∧ finF 80 c = (0, c)) := by
  by_cases h : 80 < c
  · exact .inl ⟨h, finF_lt h⟩
  · exact .inr ⟨by omega, finF_ge (by omega)⟩
end Go.Proofs.RT
end
section
/- The conditions of the functions, printed by program; each is what the generator reckons (kernel_rfl). -/
namespace Go.Proofs
open Go.Vc
set_option maxRecDepth 100000 in
set_option maxHeartbeats 2000000 in
theorem vc38 (db : Nat) (dof : Nat) (w : World) (R : Ending → World → Prop) (h : ∃ (x1 : Int), ∃ (a1 : Option Addr), ∃ (m1 : Nat), ∃ (m2 : Nat), ∃ (a2 : Option Addr), ∃ (m3 : Nat),
    ∃ (m4 : Nat), w.cell? { block := db, off := dof + 0 } = some (Value.int IntKind.i64 x1) ∧ w.cell? { block := db, off := dof + 0 + 1 } = some (Value.slice a1 m1 m2) ∧ w.cell?
    { block := db, off := dof + 0 + 1 + 1 } = some (Value.slice a2 m3 m4) ∧ ∃ (x2 : Int), w.cell? { block := db, off := dof + 4 } = some (Value.int IntKind.i64 x2) ∧ ∀ (w1 :
    World), KeptIn [(0, w.heap.size)] [] w w1 → Calls Tryz.prog 82 #[Value.agg #[Value.int IntKind.i64 x1, Value.slice a1 m1 m2, Value.slice a2 m3 m4], Value.int IntKind.i64 x2] w1
    fun (e1 : Ending) (w2 : World) => ∃ (x3 : Int), ∃ (x4 : Int), e1 = Ending.returned (Value.agg #[Value.int IntKind.i64 x3, Value.int IntKind.i64 x4]) ∧ RowKit.Below w1.heap.size
    w1 w2 ∧ ∀ (m5 : Nat), w.heap.size ≤ m5 → m5 < w1.heap.size ∨ w2.heap.size ≤ m5 → ∃ (a3 : Option Addr), ∃ (m6 : Nat), ∃ (m7 : Nat), w2.cell? { block := db, off := dof + 3 } =
    some (Value.slice a3 m6 m7) ∧ (db < w.heap.size ∨ db ≠ m5) ∧ ∃ (F1 : List Lf → World → Prop), ∃ (F2 : List Lf → Nat), (∀ (w4 : World), Kept [m5] w2 w4 → F1 [Lf.bool false,
    Lf.int IntKind.i64 0] w4) ∧ ∀ (t1 : Bool) (x5 : Int) (w5 : World), F1 [Lf.bool t1, Lf.int IntKind.i64 x5] w5 → (x5 < (↑m6 : Int) → ∃ (m8 : Nat), ∃ (m9 : Nat), a3 = some
    { block := m8, off := m9 } ∧ (0 ≤ x5 ∧ x5 < (↑m6 : Int)) ∧ ∃ (a4 : Option Addr), ∃ (m10 : Nat), ∃ (m11 : Nat), w5.cell? { block := m8, off := m9 + x5.toNat * 1 } = some
    (Value.slice a4 m10 m11) ∧ (m8 < w.heap.size ∨ m8 ≠ m5) ∧ (t1 = true → ∀ (w6 : World), KeptIn [(0, w5.heap.size)] [m5] w5 w6 → Calls Tryz.prog 84 #[Value.slice a4 m10 m11,
    Value.agg #[Value.int IntKind.i64 x3, Value.int IntKind.i64 x4]] w6 fun (e2 : Ending) (w7 : World) => ∃ (a5 : Option Addr), ∃ (m12 : Nat), ∃ (m13 : Nat), e2 = Ending.returned
    (Value.slice a5 m12 m13) ∧ RowKit.Below w6.heap.size w6 w7 ∧ ∃ (a6 : Option Addr), ∃ (m14 : Nat), ∃ (m15 : Nat), w5.cell? { block := db, off := dof + 3 } = some (Value.slice a6
    m14 m15) ∧ (db < w.heap.size ∨ db ≠ m5) ∧ ∃ (m16 : Nat), ∃ (m17 : Nat), a6 = some { block := m16, off := m17 } ∧ (0 ≤ x5 ∧ x5 < (↑m14 : Int)) ∧ ∀ (w8 : World), KeptIn [(0,
    w5.heap.size), (w6.heap.size, w7.heap.size)] [m5] w7 w8 → RunsTo Tryz.prog ((Instr.storeAt 122 (Value.pointer (some { block := m16, off := m17 + x5.toNat * 1 })) (Value.slice
    a5 m12 m13)) >>= fun _ => pure (Value.tuple #[])) w8 fun (v1 : Value) (w9 : World) => KeepX false w.heap.size [m5] (fun _ => False) w8 w9 ∧ (-9223372036854775808 ≤ x5 + 1 ∧ x5
    + (1 : Int) ≤ 9223372036854775807) ∧ ∀ (w10 : World), Kept [m5] w9 w10 → F1 [Lf.bool true, Lf.int IntKind.i64 (x5 + 1)] w10 ∧ F2 [Lf.bool true, Lf.int IntKind.i64 (x5 + 1)] <
    F2 [Lf.bool t1, Lf.int IntKind.i64 x5]) ∧ (t1 = false → ∀ (w11 : World), Kept [m5] w5 w11 → Calls Tryz.prog 83 #[Value.slice a4 m10 m11, Value.agg #[Value.int IntKind.i64 x3,
    Value.int IntKind.i64 x4]] w11 fun (e3 : Ending) (w12 : World) => ∃ (t2 : Bool), e3 = Ending.returned (Value.bool t2) ∧ KeepX false w.heap.size [m5] (fun _ => False) w11 w12 ∧
    ∀ (w13 : World), KeptIn [(0, w12.heap.size)] [m5] w12 w13 → Calls Tryz.prog 84 #[Value.slice a4 m10 m11, Value.agg #[Value.int IntKind.i64 x3, Value.int IntKind.i64 x4]] w13
    fun (e4 : Ending) (w14 : World) => ∃ (a7 : Option Addr), ∃ (m20 : Nat), ∃ (m21 : Nat), e4 = Ending.returned (Value.slice a7 m20 m21) ∧ RowKit.Below w13.heap.size w13 w14 ∧ ∃
    (a8 : Option Addr), ∃ (m22 : Nat), ∃ (m23 : Nat), w12.cell? { block := db, off := dof + 3 } = some (Value.slice a8 m22 m23) ∧ (db < w.heap.size ∨ db ≠ m5) ∧ ∃ (m24 : Nat), ∃
    (m25 : Nat), a8 = some { block := m24, off := m25 } ∧ (0 ≤ x5 ∧ x5 < (↑m22 : Int)) ∧ ∀ (w15 : World), KeptIn [(0, w12.heap.size), (w13.heap.size, w14.heap.size)] [m5] w14 w15 →
    RunsTo Tryz.prog ((Instr.storeAt 122 (Value.pointer (some { block := m24, off := m25 + x5.toNat * 1 })) (Value.slice a7 m20 m21)) >>= fun _ => pure (Value.tuple #[])) w15 fun
    (v2 : Value) (w16 : World) => KeepX false w.heap.size [m5] (fun _ => False) w15 w16 ∧ (-9223372036854775808 ≤ x5 + 1 ∧ x5 + (1 : Int) ≤ 9223372036854775807) ∧ ∀ (w17 : World),
    Kept [m5] w16 w17 → F1 [Lf.bool t2, Lf.int IntKind.i64 (x5 + 1)] w17 ∧ F2 [Lf.bool t2, Lf.int IntKind.i64 (x5 + 1)] < F2 [Lf.bool t1, Lf.int IntKind.i64 x5])) ∧ ((↑m6 : Int) ≤
    x5 → ∃ (x6 : Int), w5.cell? { block := db, off := dof + 4 } = some (Value.int IntKind.i64 x6) ∧ (db < w.heap.size ∨ db ≠ m5) ∧ (-9223372036854775808 ≤ x6 + 1 ∧ x6 + (1 : Int) ≤
    9223372036854775807) ∧ ∀ (w18 : World), Kept [m5] w5 w18 → RunsTo Tryz.prog ((Instr.storeAt 3 (Value.pointer (some { block := db, off := dof + 4 })) (Value.int IntKind.i64 (x6
    + 1))) >>= fun _ => pure (Value.tuple #[])) w18 fun (v3 : Value) (w19 : World) => KeepX false w.heap.size [m5] (fun _ => False) w18 w19 ∧ ∀ (w20 : World), Kept [m5] w19 w20 →
    Calls Tryz.prog 85 #[Value.pointer (some { block := db, off := dof })] w20 fun (e5 : Ending) (w21 : World) => e5 = Ending.returned (Value.tuple #[]) ∧ KeepX false w.heap.size
    [m5] (fun _ => False) w20 w21 ∧ ∃ (t3 : Bool), w21.cell? { block := db, off := dof + 5 } = some (Value.bool t3) ∧ (db < w.heap.size ∨ db ≠ m5) ∧ (t3 = true → ∀ (w22 : World),
    Kept [m5] w21 w22 → RunsTo Tryz.prog ((Instr.storeAt 4 (Value.pointer (some { block := db, off := dof + 5 })) (Value.bool true)) >>= fun _ => pure (Value.tuple #[])) w22 fun
    (v4 : Value) (w23 : World) => KeepX false w.heap.size [m5] (fun _ => False) w22 w23 ∧ ∀ (w24 : World), Kept [m5] w23 w24 → R (Ending.returned (Value.bool t1)) w24) ∧ (t3 =
    false → ∀ (w25 : World), Kept [m5] w21 w25 → RunsTo Tryz.prog ((Instr.storeAt 4 (Value.pointer (some { block := db, off := dof + 5 })) (Value.bool t1)) >>= fun _ => pure
    (Value.tuple #[])) w25 fun (v5 : Value) (w26 : World) => KeepX false w.heap.size [m5] (fun _ => False) w25 w26 ∧ ∀ (w27 : World), Kept [m5] w26 w27 → R (Ending.returned
    (Value.bool t1)) w27))) : Calls Tryz.prog 38 #[Value.pointer (some { block := db, off := dof })] w R := calls_of_vc (pure := false) (wrapAt := []) (muts := []) (esc := [])
    (args := [SV.pv (PV.one (Lf.ptr db dof))]) (vs := [Value.pointer (some { block := db, off := dof })]) Tryz.func38 rfl rfl rfl (Eq.mp (by kernel_rfl) h) 
set_option maxRecDepth 100000 in
set_option maxHeartbeats 2000000 in
theorem vc85 (db : Nat) (dof : Nat) (w : World) (R : Ending → World → Prop) (h : ∃ (a1 : Option Addr), ∃ (m1 : Nat), ∃ (m2 : Nat), w.cell? { block := db, off := dof + 0 + 2 } =
    some (Value.slice a1 m1 m2) ∧ ∃ (F1 : List Lf → World → Prop), ∃ (F2 : List Lf → Nat), (∀ (w2 : World), Kept [] w w2 → F1 [Lf.int IntKind.i64 0] w2) ∧ ∀ (x1 : Int) (w3 :
    World), F1 [Lf.int IntKind.i64 x1] w3 → (x1 < (↑m1 : Int) → ∃ (m3 : Nat), ∃ (m4 : Nat), a1 = some { block := m3, off := m4 } ∧ (0 ≤ x1 ∧ x1 < (↑m1 : Int)) ∧ ∃ (x2 : Int), ∃ (x3
    : Int), ∃ (x4 : Int), ∃ (x5 : Int), w3.cell? { block := m3, off := m4 + x1.toNat * 4 } = some (Value.int IntKind.i64 x2) ∧ w3.cell?
    { block := m3, off := m4 + x1.toNat * 4 + 1 } = some (Value.int IntKind.i64 x3) ∧ w3.cell? { block := m3, off := m4 + x1.toNat * 4 + 1 + 1 } = some (Value.int IntKind.i64 x4) ∧
    w3.cell? { block := m3, off := m4 + x1.toNat * 4 + 1 + 1 + 1 } = some (Value.int IntKind.i64 x5) ∧ ∀ (m5 : Nat), w3.heap.size ≤ m5 → ∃ (x6 : Int), w3.cell?
    { block := db, off := dof + 4 } = some (Value.int IntKind.i64 x6) ∧ (db < w.heap.size ∨ db ≠ m5) ∧ ∀ (m6 : Nat), w3.heap.size ≤ m6 → ∀ (w4 : World), KeptIn [(0, w3.heap.size)]
    [m6, m5] w3 w4 → w4.heap[m6]? = some (Obj.cells #[Value.int IntKind.i64 x6] 3) → Calls Tryz.prog 79 #[Value.int IntKind.i64 x2, Value.int IntKind.i64 x3, Value.slice (some
    { block := m6, off := 0 }) 1 1] w4 fun (e1 : Ending) (w5 : World) => ∃ (t1 : Bool), e1 = Ending.returned (Value.bool t1) ∧ KeepX false w.heap.size [m6, m5] (fun _ => False) w4
    w5 ∧ (t1 = true → ∃ (a2 : Option Addr), ∃ (m9 : Nat), ∃ (m10 : Nat), w5.cell? { block := db, off := dof + 3 } = some (Value.slice a2 m9 m10) ∧ (db < w.heap.size ∨ db ≠ m6 ∧ db
    ≠ m5) ∧ ∃ (m11 : Nat), ∃ (m12 : Nat), a2 = some { block := m11, off := m12 } ∧ (0 ≤ x1 ∧ x1 < (↑m9 : Int)) ∧ ∃ (a3 : Option Addr), ∃ (m13 : Nat), ∃ (m14 : Nat), w5.cell?
    { block := m11, off := m12 + x1.toNat * 1 } = some (Value.slice a3 m13 m14) ∧ (m11 < w.heap.size ∨ m11 ≠ m6 ∧ m11 ≠ m5) ∧ ∃ (x7 : Int), w5.cell?
    { block := db, off := dof + 0 + 0 + 0 } = some (Value.int IntKind.i64 x7) ∧ (db < w.heap.size ∨ db ≠ m6 ∧ db ≠ m5) ∧ ∀ (w6 : World), KeptIn [(0, w5.heap.size)] [m6, m5] w5 w6 →
    Calls Tryz.prog 146 #[Value.slice a3 m13 m14, Value.agg #[Value.int IntKind.i64 x4, Value.int IntKind.i64 x5], Value.int IntKind.i64 x7] w6 fun (e2 : Ending) (w7 : World) => ∃
    (a4 : Option Addr), ∃ (m15 : Nat), ∃ (m16 : Nat), e2 = Ending.returned (Value.slice a4 m15 m16) ∧ RowKit.Below w6.heap.size w6 w7 ∧ ∃ (a5 : Option Addr), ∃ (m17 : Nat), ∃ (m18
    : Nat), w5.cell? { block := db, off := dof + 3 } = some (Value.slice a5 m17 m18) ∧ (db < w.heap.size ∨ db ≠ m6 ∧ db ≠ m5) ∧ (-9223372036854775808 ≤ x1 + 1 ∧ x1 + (1 : Int) ≤
    9223372036854775807) ∧ ∃ (m19 : Nat), ∃ (m20 : Nat), a5 = some { block := m19, off := m20 } ∧ (0 ≤ x1 + 1 ∧ x1 + 1 < (↑m17 : Int)) ∧ ∃ (a6 : Option Addr), ∃ (m21 : Nat), ∃ (m22
    : Nat), w5.cell? { block := m19, off := m20 + (x1 + 1).toNat * 1 } = some (Value.slice a6 m21 m22) ∧ (m19 < w.heap.size ∨ m19 ≠ m6 ∧ m19 ≠ m5) ∧ ∀ (m23 : Nat), w5.heap.size ≤
    m23 → m23 < w6.heap.size ∨ w7.heap.size ≤ m23 → ∀ (w8 : World), KeptIn [(0, w5.heap.size), (w6.heap.size, w7.heap.size)] [m23, m6, m5] w7 w8 → w8.heap[m23]? = some (Obj.cells
    #[Value.slice a6 m21 m22, Value.slice a4 m15 m16] 122) → Calls Tryz.prog 86 #[Value.slice (some { block := m23, off := 0 }) 2 2] w8 fun (e3 : Ending) (w9 : World) => ∃ (a7 :
    Option Addr), ∃ (m25 : Nat), ∃ (m26 : Nat), e3 = Ending.returned (Value.slice a7 m25 m26) ∧ RowKit.Below w8.heap.size w8 w9 ∧ ∃ (a8 : Option Addr), ∃ (m27 : Nat), ∃ (m28 :
    Nat), w5.cell? { block := db, off := dof + 3 } = some (Value.slice a8 m27 m28) ∧ (db < w.heap.size ∨ db ≠ m23 ∧ db ≠ m6 ∧ db ≠ m5) ∧ (-9223372036854775808 ≤ x1 + 1 ∧ x1 + (1 :
    Int) ≤ 9223372036854775807) ∧ ∃ (m29 : Nat), ∃ (m30 : Nat), a8 = some { block := m29, off := m30 } ∧ (0 ≤ x1 + 1 ∧ x1 + 1 < (↑m27 : Int)) ∧ ∀ (w10 : World), KeptIn [(0,
    w5.heap.size), (w8.heap.size, w9.heap.size), (w6.heap.size, w7.heap.size)] [m23, m6, m5] w9 w10 → RunsTo Tryz.prog ((Instr.storeAt 122 (Value.pointer (some
    { block := m29, off := m30 + (x1 + 1).toNat * 1 })) (Value.slice a7 m25 m26)) >>= fun _ => pure (Value.tuple #[])) w10 fun (v1 : Value) (w11 : World) => KeepX false w.heap.size
    [m23, m6, m5] (fun _ => False) w10 w11 ∧ ∃ (x8 : Int), w11.cell? { block := db, off := dof + 4 } = some (Value.int IntKind.i64 x8) ∧ (db < w.heap.size ∨ db ≠ m23 ∧ db ≠ m6 ∧ db
    ≠ m5) ∧ (x3 ≤ x8 → ∃ (a9 : Option Addr), ∃ (m32 : Nat), ∃ (m33 : Nat), w11.cell? { block := db, off := dof + 3 } = some (Value.slice a9 m32 m33) ∧ (db < w.heap.size ∨ db ≠ m23
    ∧ db ≠ m6 ∧ db ≠ m5) ∧ ∃ (m34 : Nat), ∃ (m35 : Nat), a9 = some { block := m34, off := m35 } ∧ (0 ≤ x1 ∧ x1 < (↑m32 : Int)) ∧ ∀ (w12 : World), Kept [m23, m6, m5] w11 w12 →
    RunsTo Tryz.prog ((Instr.storeAt 122 (Value.pointer (some { block := m34, off := m35 + x1.toNat * 1 })) (Value.slice none 0 0)) >>= fun _ => pure (Value.tuple #[])) w12 fun (v2
    : Value) (w13 : World) => KeepX false w.heap.size [m23, m6, m5] (fun _ => False) w12 w13 ∧ (-9223372036854775808 ≤ x1 + 1 ∧ x1 + (1 : Int) ≤ 9223372036854775807) ∧ ∀ (w14 :
    World), Kept [m23, m6, m5] w13 w14 → F1 [Lf.int IntKind.i64 (x1 + 1)] w14 ∧ F2 [Lf.int IntKind.i64 (x1 + 1)] < F2 [Lf.int IntKind.i64 x1]) ∧ (x8 < x3 → (-9223372036854775808 ≤
    x1 + 1 ∧ x1 + (1 : Int) ≤ 9223372036854775807) ∧ ∀ (w15 : World), Kept [m23, m6, m5] w11 w15 → F1 [Lf.int IntKind.i64 (x1 + 1)] w15 ∧ F2 [Lf.int IntKind.i64 (x1 + 1)] < F2
    [Lf.int IntKind.i64 x1])) ∧ (t1 = false → ∃ (x9 : Int), w5.cell? { block := db, off := dof + 4 } = some (Value.int IntKind.i64 x9) ∧ (db < w.heap.size ∨ db ≠ m6 ∧ db ≠ m5) ∧
    (x3 ≤ x9 → ∃ (a10 : Option Addr), ∃ (m37 : Nat), ∃ (m38 : Nat), w5.cell? { block := db, off := dof + 3 } = some (Value.slice a10 m37 m38) ∧ (db < w.heap.size ∨ db ≠ m6 ∧ db ≠
    m5) ∧ ∃ (m39 : Nat), ∃ (m40 : Nat), a10 = some { block := m39, off := m40 } ∧ (0 ≤ x1 ∧ x1 < (↑m37 : Int)) ∧ ∀ (w16 : World), Kept [m6, m5] w5 w16 → RunsTo Tryz.prog
    ((Instr.storeAt 122 (Value.pointer (some { block := m39, off := m40 + x1.toNat * 1 })) (Value.slice none 0 0)) >>= fun _ => pure (Value.tuple #[])) w16 fun (v3 : Value) (w17 :
    World) => KeepX false w.heap.size [m6, m5] (fun _ => False) w16 w17 ∧ (-9223372036854775808 ≤ x1 + 1 ∧ x1 + (1 : Int) ≤ 9223372036854775807) ∧ ∀ (w18 : World), Kept [m6, m5]
    w17 w18 → F1 [Lf.int IntKind.i64 (x1 + 1)] w18 ∧ F2 [Lf.int IntKind.i64 (x1 + 1)] < F2 [Lf.int IntKind.i64 x1]) ∧ (x9 < x3 → (-9223372036854775808 ≤ x1 + 1 ∧ x1 + (1 : Int) ≤
    9223372036854775807) ∧ ∀ (w19 : World), Kept [m6, m5] w5 w19 → F1 [Lf.int IntKind.i64 (x1 + 1)] w19 ∧ F2 [Lf.int IntKind.i64 (x1 + 1)] < F2 [Lf.int IntKind.i64 x1]))) ∧ ((↑m1 :
    Int) ≤ x1 → ∀ (w20 : World), Kept [] w3 w20 → R (Ending.returned (Value.tuple #[])) w20)) : Calls Tryz.prog 85 #[Value.pointer (some { block := db, off := dof })] w R :=
    calls_of_vc (pure := false) (wrapAt := []) (muts := []) (esc := []) (args := [SV.pv (PV.one (Lf.ptr db dof))]) (vs := [Value.pointer (some { block := db, off := dof })])
    Tryz.func85 rfl rfl rfl (Eq.mp (by kernel_rfl) h) 
end Go.Proofs
end
section
/- A clock that is followed hour by hour. -/
namespace Go.Proofs.RT
open Go.Vc Go.RowKit Go.Proofs Go.Lib
/-- What a program sees of the blocks, but for some, is as it was. -/
structure Data (T : List Nat) (w w' : World) : Prop where
  size : w.heap.size ≤ w'.heap.size
  keep : ∀ k o, w.heap[k]? = some o → isCtl o = false → k ∉ T → w'.heap[k]? = some o
section
variable {T S : List Nat} {w w' w'' : World}
theorem Data.of_chg (h : Chg S w w') (hs : ∀ x ∈ S, x ∈ T ∨ w.heap.size ≤ x) : Data T w w' := ⟨h.size, fun k o hk _ hn => by
  have hl := lt_of_some hk
  rw [h.keep k hl fun hm => by rcases hs k hm with h | h; exact hn h; omega]; exact hk⟩
theorem Data.of_calm {B : Nat} (h : CalmFrom B w w') : Data T w w' := ⟨h.size, fun k o hk hc _ => h.keep k o hk (.inl hc)⟩
theorem Data.of_below (h : Below w.heap.size w w') : Data T w w' := Data.of_chg (Chg.of_below (S := []) h) (by simp)
theorem Data.mono (h : Data S w w') (hs : ∀ x ∈ S, x ∈ T) : Data T w w' := ⟨h.size, fun k o hk hc hn => h.keep k o hk hc fun hm => hn (hs k hm)⟩
theorem Data.cell (h : Data T w w') {b o : Nat} {v : Value} (hb : b ∉ T) (hc : w.cell? ⟨b, o, none⟩ = some v) : w'.cell? ⟨b, o, none⟩ = some v := by
  unfold World.cell? at hc ⊢
  simp only at hc ⊢
  split at hc
  · rename_i x1 x2 x3 hx; rw [h.keep _ _ hx rfl hb]; exact hc
  · simp at hc
theorem Data.lies (h : Data T w w') {lo hi : Nat} {a : Option Addr} {vs : List Value} (hl : Lies T lo hi w a vs) : Lies T lo hi w' a vs := fun i v hv => by
  obtain ⟨b, o, e, ⟨h1, h2, h3⟩, hc⟩ := hl i v hv
  exact ⟨b, o, e, ⟨h1, h2, h3⟩, h.cell h1 hc⟩
end
/-- A set that lies in none of some blocks. -/
structure SetA (bs : List Nat) (l : List Int) (w : World) (a : Option Addr) (n c : Nat) : Prop where
  n : n = l.length
  lies : Lies bs 0 w.heap.size w a (pts l)
  nil : l = [] → a = none ∧ c = 0
section
variable {bs : List Nat} {w w' : World} {l : List Int} {a : Option Addr} {n c : Nat}
theorem SetA.empty : SetA bs [] w none 0 0 := ⟨rfl, fun i v h => by simp [pts] at h, fun _ => ⟨rfl, rfl⟩⟩
theorem SetA.toL (h : SetA bs l w a n c) : SetL l 0 w.heap.size w a n c := ⟨h.n, h.lies.sub (by simp), h.nil⟩
theorem SetA.data (h : SetA bs l w a n c) (hd : Data bs w w') : SetA bs l w' a n c := ⟨h.n, (hd.lies h.lies).to (Nat.le_refl _) hd.size, h.nil⟩
theorem SetL.toA {lo hi : Nat} (h : SetL l lo hi w a n c) (hb : ∀ x ∈ bs, x < lo ∨ hi ≤ x) : SetA bs l w a n c := ⟨h.n, (fun i v hv => by
  obtain ⟨b, o, e, ⟨_, h2, h3⟩, hc⟩ := h.lies i v hv
  exact ⟨b, o, e, ⟨fun hm => by have := hb b hm; omega, Nat.zero_le _, cell_lt hc⟩, hc⟩), h.nil⟩
end
structure StateAt (bs : List Nat) (sb : Nat) (O : List (List Int)) (w : World) : Prop where
  ex : ∃ S : List Sl, w.heap[sb]? = some (.cells (S.map slV).toArray 122 (0, 0)) ∧ S.length = O.length ∧ ∀ i (_ : i < O.length), ∃ s, S[i]? = some s ∧ SetA bs O[i] w s.1 s.2.1 s.2.2
section
variable {bs : List Nat} {sb : Nat} {O : List (List Int)} {w w' : World}
theorem StateAt.data {T : List Nat} (h : StateAt bs sb O w) (hd : Data T w w') (hT : ∀ x ∈ T, x ∈ bs ∧ x ≠ sb) : StateAt bs sb O w' := by
  obtain ⟨S, h1, h2, h3⟩ := h.ex
  exact ⟨S, hd.keep sb _ h1 rfl (fun hm => (hT sb hm).2 rfl), h2, fun i hi => by
    obtain ⟨s, e, hs⟩ := h3 i hi
    exact ⟨s, e, hs.data (hd.mono fun x hx => (hT x hx).1)⟩⟩
theorem StateAt.more {bs' : List Nat} (h : StateAt bs sb O w) (hb : ∀ x ∈ bs', x ∈ bs ∨ w.heap.size ≤ x) : StateAt bs' sb O w := by
  obtain ⟨S, h1, h2, h3⟩ := h.ex
  exact ⟨S, h1, h2, fun i hi => by
    obtain ⟨s, e, hs⟩ := h3 i hi
    exact ⟨s, e, hs.n, (fun j v hv => by
      obtain ⟨b, o, e, ⟨q1, q2, q3⟩, hc⟩ := hs.lies j v hv
      exact ⟨b, o, e, ⟨fun hm => by rcases hb b hm with h | h; exact q1 h; omega, q2, q3⟩, hc⟩), hs.nil⟩⟩
theorem StateAt.at (h : StateAt bs sb O w) {i : Nat} (hi : i < O.length) : ∃ s : Sl, w.cell? ⟨sb, 0 + i * 1, none⟩ = some (.slice s.1 s.2.1 s.2.2) ∧ SetA bs O[i] w s.1 s.2.1 s.2.2 := by
  obtain ⟨S, h1, h2, h3⟩ := h.ex
  obtain ⟨s, e, hs⟩ := h3 i hi
  exact ⟨s, cell_at' (cell_obj (vs := S.map slV) h1 (by rw [List.getElem?_map, e]; rfl)) (by omega), hs⟩
set_option maxRecDepth 100000 in
theorem StateAt.store (h : StateAt bs sb O w) (hsb : sb ∈ bs) {i : Nat} (hi : i < O.length) {l' : List Int} {a : Option Addr} {n c : Nat} (hs : SetA bs l' w a n c) {R : Value → World → Prop}
    (hR : ∀ w', StateAt bs sb (O.set i l') w' → Chg [sb] w w' → R (.tuple #[]) w') :
    RunsTo Tryz.prog ((Instr.storeAt 122 (.pointer (some ⟨sb, 0 + i * 1, none⟩)) (.slice a n c)) >>= fun _ => pure (Value.tuple #[])) w R := by
  obtain ⟨S, h1, h2, h3⟩ := h.ex
  have := fun R => obj_store (P := Tryz.prog) (t := 122) (off := 0 + i * 1) (cs := S.map slV) (vs := [.slice a n c]) (v := .slice a n c) h1 (by kernel_rfl) (by kernel_rfl) (by simp; omega) rfl (by simp; trivial) (R := R)
  refine this _ fun w' hh hc => hR w' ⟨S.set i (a, n, c), ?_, by simp [h2], fun j hj => ?_⟩ hc
  · rw [hh]
    congr 3
    rw [List.map_set, List.set_eq_take_append_cons_drop, if_pos (by simp; omega)]
    simp
  · have hj' : j < O.length := by simpa using hj
    have hd : Data bs w w' := Data.of_chg hc (by simp [hsb])
    by_cases e : j = i
    · subst e
      refine ⟨(a, n, c), by rw [List.getElem?_set_self (by omega)], ?_⟩
      simpa using hs.data hd
    · obtain ⟨s, e1, hs1⟩ := h3 j hj'
      refine ⟨s, by rw [List.getElem?_set_ne (by omega)]; exact e1, ?_⟩
      rw [List.getElem_set_ne (by omega)]
      exact hs1.data hd
theorem StateAt.sets (h : StateAt bs sb O w) : ∃ S : List Sl, Cells w (some ⟨sb, 0, none⟩) (S.map slV) ∧ Sets O S 0 w.heap.size w := by
  obtain ⟨S, h1, h2, h3⟩ := h.ex
  refine ⟨S, Cells.obj h1, h2, fun i hi => ?_⟩
  obtain ⟨s, e, hs⟩ := h3 i (by omega)
  rw [getElem_of_lt hi] at e
  obtain rfl := Option.some.inj e
  rw [List.getD_eq_getElem?_getD, getElem_of_lt (by omega)]
  exact hs.toL
end
/-- Where the weight is: after so many visits there is so much left. -/
abbrev Pt := Option (Nat × Int)
def cellP (p : Pt) (i : Nat) : List Int := match p with | some (j, x) => if j = i then [x] else [] | none => []
def hotL (k : Nat) (p : Pt) : List (List Int) := (List.range k).map (cellP p)
theorem hot_len (k : Nat) (p : Pt) : (hotL k p).length = k := by simp [hotL]
theorem hot_get {k : Nat} {p : Pt} {i : Nat} (h : i < (hotL k p).length) : (hotL k p)[i] = cellP p i := by simp [hotL]
theorem hot_ext {k : Nat} {p : Pt} {O : List (List Int)} (hn : O.length = k) (h : ∀ i (hi : i < O.length), O[i] = cellP p i) : O = hotL k p :=
  List.ext_getElem (by rw [hn, hot_len]) fun i h1 h2 => by rw [h i h1, hot_get]
theorem hot_flat (k : Nat) (p : Pt) : (hotL k p).flatten = match p with | some (j, x) => if j < k then [x] else [] | none => [] := by
  induction k with
  | zero => unfold hotL; cases p <;> simp
  | succ k ih =>
    have : hotL (k + 1) p = hotL k p ++ [cellP p k] := by unfold hotL; rw [List.range_succ, List.map_append]; rfl
    rw [this, List.flatten_append, ih]
    match p with
    | none => rfl
    | some (j, x) =>
      simp only [cellP]
      by_cases h1 : j < k
      · rw [if_pos h1, if_neg (by omega), if_pos (by omega)]; rfl
      · by_cases h2 : j = k
        · rw [if_neg h1, if_pos h2, if_pos (by omega)]; rfl
        · rw [if_neg h1, if_neg h2, if_neg (by omega)]; rfl
theorem hot_le (k : Nat) (p : Pt) : (hotL k p).flatten.length ≤ 1 := by
  rw [hot_flat]
  split
  · split <;> simp
  · simp
theorem cell_le (p : Pt) (i : Nat) : (cellP p i).length ≤ 1 := by
  unfold cellP
  split
  · split <;> simp
  · simp
/-- A visit. -/
def visP (L : List Int) (line h : Int) (i : Nat) (p : Pt) : Pt := match p with
  | none => none
  | some (j, x) => if j = i then (if h = 24 * L.getD i 0 then some (i + 1, min line (x + line)) else if 24 * L.getD i 0 < h then none else some (j, x)) else some (j, x)
def visN (L : List Int) (line h : Int) : Nat → Pt → Pt
  | 0, p => p
  | i + 1, p => visP L line h i (visN L line h i p)
/-- An hour. -/
def useP (u : Int) (p : Pt) : Pt := match p with
  | none => none
  | some (j, x) => if u ≤ x then some (j, x - u) else none
def usePi (u : Int) (i : Nat) (p : Pt) : Pt := match p with
  | none => none
  | some (j, x) => if j < i then useP u (some (j, x)) else some (j, x)
def PtOk (p : Pt) : Prop := ∀ j x, p = some (j, x) → 0 ≤ x ∧ x ≤ 100000
theorem PtOk.cell {p : Pt} (h : PtOk p) (i : Nat) : SetBd (cellP p i) := fun x hx => by
  unfold cellP at hx
  split at hx
  · rename_i j y
    split at hx
    · obtain rfl : x = y := by simpa using hx
      exact h j x rfl
    · cases hx
  · cases hx
end Go.Proofs.RT
end
section
/- A visit; all that can be left. -/
namespace Go.Proofs.RT
open Go.Vc Go.RowKit Go.Proofs Go.Lib
abbrev visV (line : Int) (D : Int) : Vs := ((24 * D, 24 * D), (line, line))
/-- A day in memory. -/
structure DayC (bs : List Nat) (db sb : Nat) (line e : Int) (ha va : Option Addr) (hc vc : Nat) (L : List Int) (p : Pt) (h : Int) (st : Bool) (w : World) : Prop where
  d : w.heap[db]? = some (.cells #[I line, .slice ha 24 hc, .slice va L.length vc, .slice (some ⟨sb, 0, none⟩) (L.length + 1) (L.length + 1), I h, .bool st] 191 (0, 0))
  s : StateAt bs sb (hotL (L.length + 1) p) w
  hs : Lies bs 0 w.heap.size w ha (spansV (List.replicate 24 (e, e)))
  vs : Lies bs 0 w.heap.size w va ((L.map (visV line)).flatMap vsC)
  ne : db ≠ sb
  md : db ∈ bs
  ms : sb ∈ bs
section
variable {bs : List Nat} {db sb : Nat} {line e : Int} {ha va : Option Addr} {hc vc : Nat} {L : List Int} {p : Pt} {h : Int} {st : Bool} {w w' : World}
theorem DayC.dataT {T : List Nat} (H : DayC bs db sb line e ha va hc vc L p h st w) (hd : Data T w w') (hT : ∀ x ∈ T, x ∈ bs ∧ x ≠ sb ∧ x ≠ db) : DayC bs db sb line e ha va hc vc L p h st w' where
  d := hd.keep db _ H.d rfl fun hm => (hT db hm).2.2 rfl
  s := H.s.data hd fun x hx => ⟨(hT x hx).1, (hT x hx).2.1⟩
  hs := ((hd.mono fun x hx => (hT x hx).1).lies H.hs).to (Nat.le_refl _) hd.size
  vs := ((hd.mono fun x hx => (hT x hx).1).lies H.vs).to (Nat.le_refl _) hd.size
  ne := H.ne
  md := H.md
  ms := H.ms
theorem DayC.data (H : DayC bs db sb line e ha va hc vc L p h st w) (hd : Data [] w w') : DayC bs db sb line e ha va hc vc L p h st w' := H.dataT hd (by simp)
theorem DayC.more {bs' : List Nat} (H : DayC bs db sb line e ha va hc vc L p h st w) (hb : ∀ x ∈ bs', x ∈ bs ∨ w.heap.size ≤ x) (m1 : db ∈ bs') (m2 : sb ∈ bs') : DayC bs' db sb line e ha va hc vc L p h st w :=
  ⟨H.d, H.s.more hb, H.hs.moreB hb, H.vs.moreB hb, H.ne, m1, m2⟩
theorem DayC.dl (H : DayC bs db sb line e ha va hc vc L p h st w) : db < w.heap.size := lt_of_some H.d
theorem DayC.sl (H : DayC bs db sb line e ha va hc vc L p h st w) : sb < w.heap.size := by obtain ⟨S, h1, _⟩ := H.s.ex; exact lt_of_some h1
/-- The state is another one. -/
theorem DayC.put {p' : Pt} {O : List (List Int)} (H : DayC bs db sb line e ha va hc vc L p h st w) (hs : StateAt bs sb O w') (hO : O = hotL (L.length + 1) p') (hch : Chg [sb] w w') : DayC bs db sb line e ha va hc vc L p' h st w' where
  d := by
    have := H.ne
    rw [hch.keep db H.dl (by simp; omega)]; exact H.d
  s := hO ▸ hs
  hs := ((Data.of_chg hch (by simp [H.ms])).lies H.hs).to (Nat.le_refl _) hch.size
  vs := ((Data.of_chg hch (by simp [H.ms])).lies H.vs).to (Nat.le_refl _) hch.size
  ne := H.ne
  md := H.md
  ms := H.ms
theorem vis_hot {i : Nat} {k : Nat} (hi : i + 1 < k) (hh : h = 24 * L.getD i 0) : ((hotL k p).set (i + 1) (cellP p (i + 1) ++ (cellP p i).filterMap (woundF line line))).set i [] = hotL k (visP L line h i p) := by
  refine hot_ext (by simp [hot_len]) fun j hj => ?_
  have hj' : j < k := by simpa [hot_len] using hj
  have e : visP L line h i p = match p with | none => none | some (j, x) => if j = i then some (i + 1, min line (x + line)) else some (j, x) := by
    unfold visP
    cases p with
    | none => rfl
    | some q => simp only [hh, if_true]
  rw [e]
  by_cases h1 : j = i
  · subst h1
    rw [List.getElem_set_self]
    cases p with
    | none => rfl
    | some q =>
      obtain ⟨q1, q2⟩ := q
      simp only
      split
      · simp [cellP]
      · rename_i hq; simp [cellP, hq]
  · rw [List.getElem_set_ne (by omega)]
    by_cases h2 : j = i + 1
    · subst h2
      rw [List.getElem_set_self]
      cases p with
      | none => rfl
      | some q =>
        obtain ⟨q1, q2⟩ := q
        simp only
        by_cases hq : q1 = i
        · rw [if_pos hq]; subst hq; simp [cellP, woundF]
        · rw [if_neg hq]; simp [cellP, hq]
    · rw [List.getElem_set_ne (by omega), hot_get]
      cases p with
      | none => rfl
      | some q =>
        obtain ⟨q1, q2⟩ := q
        simp only
        by_cases hq : q1 = i
        · rw [if_pos hq]; subst hq; simp [cellP]; rw [if_neg (by omega), if_neg (by omega)]
        · rw [if_neg hq]
theorem gone_hot {i : Nat} {k : Nat} (hi : i < k) (hh : 24 * L.getD i 0 < h) : (hotL k p).set i [] = hotL k (visP L line h i p) := by
  refine hot_ext (by simp [hot_len]) fun j hj => ?_
  have hj' : j < k := by simpa [hot_len] using hj
  have e : visP L line h i p = match p with | none => none | some (j, x) => if j = i then none else some (j, x) := by
    unfold visP
    cases p with
    | none => rfl
    | some q => simp only [if_neg (show ¬ h = 24 * L.getD i 0 by omega), if_pos hh]
  rw [e]
  by_cases h1 : j = i
  · subst h1
    rw [List.getElem_set_self]
    cases p with
    | none => rfl
    | some q =>
      obtain ⟨q1, q2⟩ := q
      simp only
      split
      · rfl
      · rename_i hq; simp [cellP, hq]
  · rw [List.getElem_set_ne (by omega), hot_get]
    cases p with
    | none => rfl
    | some q =>
      obtain ⟨q1, q2⟩ := q
      simp only
      by_cases hq : q1 = i
      · rw [if_pos hq]; subst hq; simp [cellP]; omega
      · rw [if_neg hq]
theorem stay_hot {i : Nat} (hh : h < 24 * L.getD i 0) : visP L line h i p = p := by
  unfold visP
  cases p with
  | none => rfl
  | some q => simp only [if_neg (show ¬ h = 24 * L.getD i 0 by omega), if_neg (show ¬ 24 * L.getD i 0 < h by omega), ite_self]
theorem visP_ok {i : Nat} (hl : 0 ≤ line ∧ line ≤ 3000) (hp : PtOk p) : PtOk (visP L line h i p) := fun j x hx => by
  unfold visP at hx
  cases p with
  | none => cases hx
  | some q =>
    obtain ⟨q1, q2⟩ := q
    have := hp q1 q2 rfl
    simp only at hx
    split at hx
    · split at hx
      · cases hx; omega
      · split at hx
        · cases hx
        · cases hx; exact this
    · cases hx; exact this
theorem or_le (i : Nat) : (cellP p (i + 1) ++ (cellP p i).filterMap (woundF line line)).length ≤ 1 := by
  cases p with
  | none => simp [cellP]
  | some q =>
    obtain ⟨q1, q2⟩ := q
    by_cases h1 : q1 = i
    · simp [cellP, woundF, h1]
    · simp [cellP, h1]; split <;> simp
set_option maxRecDepth 100000 in
set_option maxHeartbeats 1000000 in
theorem visitD_any (H : DayC bs db sb line e ha va hc vc L p h st w) (hp : PtOk p) (hl : 0 ≤ line ∧ line ≤ 3000) (hn : L.length ≤ 10) (hbs : ∀ x ∈ bs, x < w.heap.size) :
    Calls Tryz.prog 85 #[.pointer (some ⟨db, 0, none⟩)] w fun en w' => en = .returned (.tuple #[]) ∧ Chg [sb] w w' ∧ DayC bs db sb line e ha va hc vc L (visN L line h L.length p) h st w' ∧ PtOk (visN L line h L.length p) := by
  have ne := H.ne
  have md := H.md; have ms := H.ms
  have dl := H.dl; have sl := H.sl
  refine vc85 _ _ w _ ⟨_, _, _, cell_obj (vs := [_, _, _, _, _, _]) H.d rfl, ?_⟩
  refine ⟨fun ls w' => match ls with | [.int _ i] => (0 ≤ i ∧ i ≤ L.length) ∧ DayC bs db sb line e ha va hc vc L (visN L line h i.toNat p) h st w' ∧ PtOk (visN L line h i.toNat p) ∧ Chg [sb] w w' | _ => False, fun ls => match ls with | [.int _ i] => (L.length - i).toNat | _ => 0, fun w2 hk2 => ⟨by omega, H.data (Data.of_chg (Chg.kept hk2) (by simp)), hp, (Chg.refl [sb] w).kpt hk2 (by simp)⟩, ?_⟩
  rintro i w3 ⟨hi, H3, P3, C3⟩
  refine ⟨fun hlt => ?_, fun hge w20 hk20 => ?_⟩
  rotate_left
  · have e : i.toNat = L.length := by omega
    rw [e] at H3 P3
    exact ⟨rfl, C3.kpt hk20 (by simp), H3.data (Data.of_chg (Chg.kept hk20) (by simp)), P3⟩
  have hi' : i.toNat < L.length := by omega
  have d3 := H3.dl; have s3 := H3.sl; have z3 := C3.size
  generalize hq : visN L line h i.toNat p = q at H3 P3
  have step : visN L line h (i + 1).toNat p = visP L line h i.toNat q := by
    rw [show (i + 1).toNat = i.toNat + 1 by omega, ← hq]; rfl
  obtain ⟨b, o, e1, b1, hv⟩ := flat_at (k := 4) (f := vsC) (fun _ => rfl) (by omega) H3.vs.cells (i := i.toNat) (by simpa using hi')
  have hE : (L.map (visV line))[i.toNat]'(by simpa using hi') = visV line (L.getD i.toNat 0) := by
    rw [List.getElem_map, List.getD_eq_getElem?_getD, getElem_of_lt hi']; rfl
  rw [hE] at hv
  generalize hD : L.getD i.toNat 0 = D at hv
  have cell3 : ∀ {W : World} (j : Nat) (v : Value), DayC bs db sb line e ha va hc vc L q h st W → ([I line, .slice ha 24 hc, .slice va L.length vc, .slice (some ⟨sb, 0, none⟩) (L.length + 1) (L.length + 1), I h, .bool st] : List Value)[j]? = some v → W.cell? ⟨db, j, none⟩ = some v := fun j v HW hv => cell_obj (vs := [_, _, _, _, _, _]) HW.d hv
  refine ⟨b, o, e1, by omega, 24 * D, 24 * D, line, line, cell_at' (hv 0 _ rfl) (by omega), cell_at' (hv 1 _ rfl) (by omega), cell_at' (hv 2 _ rfl) (by omega), cell_at' (hv 3 _ rfl) (by omega), fun m5 g5 => ⟨h, cell3 4 _ H3 rfl, by omega, fun m6 g6 w4 hk4 hc4 => ?_⟩⟩
  refine Pure.calls (inD_any hc4) fun w5 hd5 => ⟨_, rfl, .all hd5, fun ht => ?_, fun ht => ?_⟩
  · have hh : h = 24 * D := by have := of_decide_eq_true ht; omega
    have o6 := hk4.own m6 (by simp); have o5 := hk4.own m5 (by simp)
    have s5 := hd5.size; have s4 := hk4.size
    have C5 : Chg [] w3 w5 := ((Chg.refl [] w3).kin hk4 (Nat.le_refl _) (by simp; omega)).bel hd5
    have H5 := H3.data (Data.of_chg C5 (by simp))
    have hO : (hotL (L.length + 1) q).length = L.length + 1 := hot_len _ _
    obtain ⟨t1, hc1, A1⟩ := H3.s.at (i := i.toNat) (by omega)
    obtain ⟨t2, hc2, A2⟩ := H3.s.at (i := (i + 1).toNat) (by omega)
    rw [hot_get] at A1 A2
    have D5 : Data [] w3 w5 := Data.of_chg C5 (by simp)
    have hc1 := D5.cell (by simp) hc1
    have hc2 := D5.cell (by simp) hc2
    refine ⟨_, _, _, cell3 3 _ H5 rfl, by omega, sb, 0, rfl, by omega, _, _, _, hc1, by omega, line, cell3 0 _ H5 rfl, by omega, fun w6 hk6 => ?_⟩
    have C6 : Chg [] w3 w6 := C5.kin hk6 (by omega) (by simp; omega)
    have A1b := A1.data (Data.of_chg C6 (by simp))
    refine (woundDr A1b.toL (cell_le _ _) (P3.cell _) hl).mono fun en w7 he => ?_
    obtain ⟨a7, n7, c7, rfl, hb7, G7⟩ := he
    have s6 := hk6.size; have s7 := hb7.size
    refine ⟨_, _, _, rfl, hb7, _, _, _, cell3 3 _ H5 rfl, by omega, by omega, sb, 0, rfl, by omega, _, _, _, hc2, by omega, fun m23 g23 g23' w8 hk8 hc8 => ?_⟩
    have s8 := hk8.size
    have C8 : Chg [] w3 w8 := ((C6.bel hb7).kin hk8 (by omega) (by simp; omega))
    have A2b := A2.data (Data.of_chg C8 (by simp))
    have G8 : SetL ((cellP q i.toNat).filterMap (woundF line line)) w6.heap.size w7.heap.size w8 a7 n7 c7 := ⟨G7.n, fun j v hv => by
      obtain ⟨b, o, e, ⟨q1, q2, q3⟩, hcl⟩ := G7.lies j v hv
      refine ⟨b, o, e, ⟨q1, q2, q3⟩, ?_⟩
      have := hk8.block b (by omega) (by simp; omega) ⟨(w6.heap.size, w7.heap.size), by simp, q2, q3⟩
      unfold World.cell? at hcl ⊢
      simp only [this]; exact hcl, G7.nil⟩
    have hcS : Cells w8 (some ⟨m23, 0, none⟩) (([(t2.1, t2.2.1, t2.2.2), (a7, n7, c7)] : List Sl).map slV) := Cells.obj (vs := [_, _]) hc8
    have hSets : Sets [cellP q (i + 1).toNat, (cellP q i.toNat).filterMap (woundF line line)] [(t2.1, t2.2.1, t2.2.2), (a7, n7, c7)] 0 w8.heap.size w8 := ⟨rfl, fun j hj => by
      match j, hj with
      | 0, _ => exact A2b.toL
      | 1, _ => exact G8.to (Nat.zero_le _) s8⟩
    have eN : (i + 1).toNat = i.toNat + 1 := by omega
    have hle : ([cellP q (i + 1).toNat, (cellP q i.toNat).filterMap (woundF line line)] : List (List Int)).flatten.length ≤ 1 := by
      have := or_le (line := line) (p := q) i.toNat
      rw [eN]
      simpa using this
    refine (orD hcS hSets hle (by simp)).mono fun en w9 he => ?_
    obtain ⟨a9, n9, c9, rfl, hb9, G9⟩ := he
    have s9 := hb9.size
    refine ⟨_, _, _, rfl, hb9, _, _, _, cell3 3 _ H5 rfl, by omega, by omega, sb, 0, rfl, by omega, fun w10 hk10 => ?_⟩
    have s10 := hk10.size
    have C10 : Chg [] w3 w10 := ((C8.bel hb9).kin hk10 (by omega) (by simp; omega))
    have H10 := H3.data (Data.of_chg C10 (by simp))
    have X3 : StateAt (m23 :: m6 :: m5 :: bs) sb (hotL (L.length + 1) q) w3 := H3.s.more (by simp only [List.forall_mem_cons]; exact ⟨.inr (by omega), .inr (by omega), .inr (by omega), fun x hx => .inl hx⟩)
    have X10 : StateAt (m23 :: m6 :: m5 :: bs) sb (hotL (L.length + 1) q) w10 := X3.data (Data.of_chg C10 (by simp) : Data [] w3 w10) (by simp)
    have o23a := hk8.own m23 (by simp)
    have G10 : SetL ([cellP q (i + 1).toNat, (cellP q i.toNat).filterMap (woundF line line)] : List (List Int)).flatten w8.heap.size w9.heap.size w10 a9 n9 c9 := ⟨G9.n, fun j v hv => by
      obtain ⟨b, o, e, ⟨q1, q2, q3⟩, hcl⟩ := G9.lies j v hv
      refine ⟨b, o, e, ⟨q1, q2, q3⟩, ?_⟩
      have := hk10.block b (by omega) (by simp; omega) ⟨(w8.heap.size, w9.heap.size), by simp, q2, q3⟩
      unfold World.cell? at hcl ⊢
      simp only [this]; exact hcl, G9.nil⟩
    have A10 : SetA (m23 :: m6 :: m5 :: bs) ([cellP q (i + 1).toNat, (cellP q i.toNat).filterMap (woundF line line)] : List (List Int)).flatten w10 a9 n9 c9 := G10.toA (by simp only [List.forall_mem_cons]; exact ⟨.inl (by omega), .inl (by omega), .inl (by omega), fun x hx => .inl (by have := hbs x hx; omega)⟩)
    refine X10.store (by simp [ms]) (i := (i + 1).toNat) (by omega) A10 fun w11 S11 C11 => ?_
    have o23 := hk10.own m23 (by simp); have o6' := hk10.own m6 (by simp); have o5' := hk10.own m5 (by simp)
    have s11 := C11.size
    have d11 : w11.heap[db]? = some (.cells #[I line, .slice ha 24 hc, .slice va L.length vc, .slice (some ⟨sb, 0, none⟩) (L.length + 1) (L.length + 1), I h, .bool st] 191 (0, 0)) := by
      rw [C11.keep db (by omega) (by simp; omega)]; exact H10.d
    have d11c : ∀ (j : Nat) (v : Value), ([I line, .slice ha 24 hc, .slice va L.length vc, .slice (some ⟨sb, 0, none⟩) (L.length + 1) (L.length + 1), I h, .bool st] : List Value)[j]? = some v → w11.cell? ⟨db, j, none⟩ = some v := fun j v hv => cell_obj (vs := [_, _, _, _, _, _]) d11 hv
    refine ⟨C11.own (fun y hy => ⟨hk10.own y hy, by simp at hy ⊢; omega⟩) (by simp) (fun hf => by cases hf), h, d11c 4 _ rfl, by omega, fun _ => ⟨_, _, _, d11c 3 _ rfl, by omega, sb, 0, rfl, by omega, fun w12 hk12 => ?_⟩, fun hf => by omega⟩
    have hO1 : ((hotL (L.length + 1) q).set (i + 1).toNat ([cellP q (i + 1).toNat, (cellP q i.toNat).filterMap (woundF line line)] : List (List Int)).flatten).length = L.length + 1 := by rw [List.length_set]; exact hO
    have S12 := S11.data (Data.of_chg (Chg.kept hk12) (T := [m23, m6, m5]) (by simp)) (by simp; omega)
    have s12 := hk12.size
    refine S12.store (by simp [ms]) (i := i.toNat) (by rw [hO1]; omega) SetA.empty fun w13 S13 C13 => ?_
    have s13 := C13.size
    have o23b := hk12.own m23 (by simp); have o6b := hk12.own m6 (by simp); have o5b := hk12.own m5 (by simp)
    refine ⟨C13.own (fun y hy => ⟨hk12.own y hy, by simp at hy ⊢; omega⟩) (by simp) (fun hf => by cases hf), by omega, fun w14 hk14 => ⟨⟨by omega, ?_, ?_, ?_⟩, ?_⟩⟩
    · rw [step]
      have hs14 := (S13.data (Data.of_chg (Chg.kept hk14) (T := [m23, m6, m5]) (by simp)) (by simp; omega)).more (bs' := bs) (fun x hx => .inl (by simp [hx]))
      have Cend : Chg [sb] w3 w14 := ((((C10.mono (by simp) : Chg [sb] w3 w10).more C11 (by simp)).kpt hk12 (by simp; omega)).more C13 (by simp)).kpt hk14 (by simp; omega)
      refine H3.put hs14 ?_ Cend
      rw [eN]
      have := vis_hot (L := L) (line := line) (h := h) (p := q) (i := i.toNat) (k := L.length + 1) (by omega) (by rw [hD]; exact hh)
      rw [← this]
      simp
    · rw [step]; exact visP_ok hl P3
    · have Cend : Chg [sb] w3 w14 := ((((C10.mono (by simp) : Chg [sb] w3 w10).more C11 (by simp)).kpt hk12 (by simp; omega)).more C13 (by simp)).kpt hk14 (by simp; omega)
      exact C3.trans Cend
    · show (L.length - (i + 1)).toNat < (L.length - i).toNat
      omega
  · have hh : h ≠ 24 * D := fun e => by subst e; simp at ht
    have o6 := hk4.own m6 (by simp); have o5 := hk4.own m5 (by simp)
    have s5 := hd5.size; have s4 := hk4.size
    have C5 : Chg [] w3 w5 := ((Chg.refl [] w3).kin hk4 (Nat.le_refl _) (by simp; omega)).bel hd5
    have H5 := H3.data (Data.of_chg C5 (by simp))
    have hO : (hotL (L.length + 1) q).length = L.length + 1 := hot_len _ _
    refine ⟨h, cell3 4 _ H5 rfl, by omega, fun hle => ⟨_, _, _, cell3 3 _ H5 rfl, by omega, sb, 0, rfl, by omega, fun w16 hk16 => ?_⟩, fun hgt => ⟨by omega, fun w19 hk19 => ⟨⟨by omega, ?_, ?_, ?_⟩, ?_⟩⟩⟩
    · have C16 : Chg [] w3 w16 := C5.kpt hk16 (by simp; omega)
      have X16 : StateAt (m6 :: m5 :: bs) sb (hotL (L.length + 1) q) w16 := (H3.s.more (bs' := m6 :: m5 :: bs) (by simp only [List.forall_mem_cons]; exact ⟨.inr (by omega), .inr (by omega), fun x hx => .inl hx⟩)).data (Data.of_chg C16 (by simp) : Data [] w3 w16) (by simp)
      have s16 := hk16.size
      refine X16.store (by simp [ms]) (i := i.toNat) (by omega) SetA.empty fun w17 S17 C17 => ?_
      have s17 := C17.size
      have Cend : ∀ w18, Kept [m6, m5] w17 w18 → Chg [sb] w3 w18 := fun w18 hk18 => ((C16.mono (by simp) : Chg [sb] w3 w16).more C17 (by simp)).kpt hk18 (by simp; omega)
      refine ⟨C17.own (fun y hy => ⟨hk16.own y hy, by simp at hy ⊢; omega⟩) (by simp) (fun hf => by cases hf), by omega, fun w18 hk18 => ⟨⟨by omega, ?_, ?_, ?_⟩, ?_⟩⟩
      · rw [step]
        have hs18 := (S17.data (Data.of_chg (Chg.kept hk18) (T := [m6, m5]) (by simp)) (by simp; omega)).more (bs' := bs) (fun x hx => .inl (by simp [hx]))
        exact H3.put hs18 (gone_hot (by omega) (by rw [hD]; omega)) (Cend w18 hk18)
      · rw [step]; exact visP_ok hl P3
      · exact C3.trans (Cend w18 hk18)
      · show (L.length - (i + 1)).toNat < (L.length - i).toNat
        omega
    · rw [step, stay_hot (by rw [hD]; omega)]
      exact H3.data (Data.of_chg (C5.kpt hk19 (by simp; omega) : Chg [] w3 w19) (by simp))
    · rw [step]; exact visP_ok hl P3
    · exact C3.more (C5.kpt hk19 (by simp; omega) : Chg [] w3 w19) (by simp)
    · show (L.length - (i + 1)).toNat < (L.length - i).toNat
      omega
end
end Go.Proofs.RT
end
