/- Part 7: own lemmas, and the conditions of the functions. -/
import Derived.Test.YtedlnndkamgknaaGreatProg
import Derived.Test.YtedlnndkamgknaaGreatRows
import Derived.Test.YtedlnndkamgknaaGreatP06
section
/- A winder on his way. -/
namespace Go.Proofs.RT
open Go.Vc Go.RowKit Go.Proofs
structure Adr where
  ra : Option Addr
  rc : Nat
  wa : Option Addr
  wc : Nat
  va : Option Addr
  vc : Nat
structure St where
  place : Int
  wound : Int
  oil : Int
  run : Int
  minutes : Int
deriving DecidableEq
abbrev wkC (r : Ru) (A : Adr) (wn : Wn) (s : St) : List Value := [.slice A.ra r.T.length A.rc, .slice A.wa r.W.length A.wc, .slice A.va r.V.length A.vc, I r.rest, I r.wage, .int .u16 wn.1, I wn.2.1, I wn.2.2.1, I wn.2.2.2, I s.place, I s.wound, I s.oil, I s.run, I s.minutes]
def WkIn (b : Nat) (r : Ru) (A : Adr) (wn : Wn) (s : St) (w : World) : Prop := w.heap[b]? = some (.cells (wkC r A wn s).toArray 173 (0, 0))
def lateF (wn : Wn) (s : St) : Int := if wn.2.2.1 < s.minutes then 110 else 0
def workF (wn : Wn) (s : St) (m : Int) : St × Int := (⟨s.place, s.wound, s.oil, s.run + m, s.minutes + m⟩, if wn.2.2.2 < s.run + m then 111 else lateF wn ⟨s.place, s.wound, s.oil, s.run + m, s.minutes + m⟩)
def restF (r : Ru) (wn : Wn) (s : St) : St × Int := (⟨s.place, s.wound, s.oil, 0, s.minutes + r.rest⟩, lateF wn ⟨s.place, s.wound, s.oil, 0, s.minutes + r.rest⟩)
def hasF (s t : Int) : Bool := IntKind.i64.wrap (↑(BitVec.ofInt IntKind.i64.bits (s.fdiv (2 ^ min t.toNat IntKind.i64.bits)) &&& BitVec.ofInt IntKind.i64.bits 1).toNat : Int) == 1
def withF (s t : Int) : Int := IntKind.i64.wrap (↑(BitVec.ofInt IntKind.i64.bits s ||| BitVec.ofInt IntKind.i64.bits (IntKind.i64.wrap (1 * 2 ^ min t.toNat IntKind.i64.bits))).toNat : Int)
def keysF (a b : Int) : Int := IntKind.u16.wrap (↑(BitVec.ofInt IntKind.u16.bits a &&& ~~~BitVec.ofInt IntKind.u16.bits b).toNat : Int)
def wayF (r : Ru) (p t : Int) : Int := (r.W.getD p.toNat []).getD t.toNat 0
def twF (r : Ru) (t : Int) : Tw := r.T.getD t.toNat (0, 0, 0, 0, 0)
def visitF (r : Ru) (wn : Wn) (s : St) (t : Int) : St × Int :=
  if hasF s.wound t = true then (⟨s.place, s.wound, s.oil + (twF r t).2.2.2.1, s.run, s.minutes⟩, 6)
  else if keysF (twF r t).2.2.1 wn.1 ≠ 0 then (⟨s.place, s.wound, s.oil + (twF r t).2.2.2.1, s.run, s.minutes⟩, 112)
  else if wn.2.1 < s.oil + (twF r t).2.2.2.1 then (⟨s.place, s.wound, s.oil + (twF r t).2.2.2.1, s.run, s.minutes⟩, 113)
  else workF wn ⟨t, withF s.wound t, s.oil + (twF r t).2.2.2.1, s.run, s.minutes⟩ (wayF r s.place t + (twF r t).1 + (twF r t).2.1)
def stepF (r : Ru) (wn : Wn) (s : St) (n : Int) : St × Int := if n = -1 then restF r wn s else if 0 ≤ n ∧ n ≤ (r.T.length : Int) - 1 then visitF r wn s n else (s, 2)
def homeF (r : Ru) (wn : Wn) (s : St) : St × Int := workF wn s (wayF r s.place r.T.length)
structure StB (r : Ru) (s : St) : Prop where
  p : 0 ≤ s.place ∧ s.place ≤ r.T.length
  o : 0 ≤ s.oil ∧ s.oil ≤ 1000000000
  r : 0 ≤ s.run ∧ s.run ≤ 1000000000
  m : 0 ≤ s.minutes ∧ s.minutes ≤ 1000000000
def PostSt (b : Nat) (r : Ru) (A : Adr) (wn : Wn) (x : St × Int) (w : World) (e : Ending) (w' : World) : Prop := e = .returned (I x.2) ∧ Chg [b] w w' ∧ WkIn b r A wn x.1 w'
section
variable {w w' : World} {b : Nat} {r : Ru} {A : Adr} {wn : Wn} {s : St}
theorem WkIn.out {S : List Nat} (h : WkIn b r A wn s w) (hc : Chg S w w') (hs : b ∉ S) : WkIn b r A wn s w' := by
  unfold WkIn at h ⊢
  rw [hc.keep b (lt_of_some h) hs]; exact h
theorem late_any : Calls Tryz.prog 198 #[.agg (wkC r A wn s).toArray] w (Pure w (I (lateF wn s))) := by
  refine vc198 _ _ _ _ _ _ _ _ _ _ _ _ _ _ _ _ _ _ _ _ w _ ?_
  refine fun _ _ => ⟨fun h w1 hb1 _ => ⟨?_, hb1⟩, fun h w1 hb1 _ => ⟨?_, hb1⟩⟩
  · unfold lateF; rw [if_pos h]
  · unfold lateF; rw [if_neg (by omega)]
set_option maxRecDepth 100000 in
theorem work_any (h : WkIn b r A wn s w) (hr : 0 ≤ s.run ∧ s.run ≤ 1000000000) (hmm : 0 ≤ s.minutes ∧ s.minutes ≤ 1000000000) {m : Int} (hm : 0 ≤ m ∧ m ≤ 1000000000) : Calls Tryz.prog 137 #[.pointer (some ⟨b, 0, none⟩), I m] w (PostSt b r A wn (workF wn s m) w) := by
  unfold WkIn at h
  refine vc137 b 0 m w _ ⟨s.run, cell_obj h rfl, by omega, s.minutes, cell_obj h rfl, fun w1 hk1 => ?_⟩
  have h1 : WkIn b r A wn s w1 := WkIn.out h hk1.chg (by simp)
  refine obj_store (cs := wkC r A wn s) (vs := [I (s.run + m)]) h1 (by kernel_rfl) (by kernel_rfl) (by simp) rfl (by simp; trivial) fun w2 hh2 c2 => ⟨c2.own (by simp) (by simp) (by simp), by omega, fun w3 hk3 => ?_⟩
  have h2 : WkIn b r A wn ⟨s.place, s.wound, s.oil, s.run + m, s.minutes⟩ w2 := by unfold WkIn; rw [hh2]; rfl
  have h3 := h2.out hk3.chg (by simp)
  refine obj_store (cs := wkC r A wn ⟨s.place, s.wound, s.oil, s.run + m, s.minutes⟩) (vs := [I (s.minutes + m)]) h3 (by kernel_rfl) (by kernel_rfl) (by simp) rfl (by simp; trivial) fun w4 hh4 c4 => ?_
  have h4 : WkIn b r A wn (workF wn s m).1 w4 := by unfold WkIn; rw [hh4]; rfl
  have hall : Chg [b] w w4 := (((hk1.chg.mono (T := [b]) (by simp)).trans c2).trans (hk3.chg.mono (by simp))).trans c4
  refine ⟨c4.own (by simp) (by simp) (by simp), _, cell_obj h4 rfl, _, cell_obj h4 rfl, fun hlt w5 hk5 => ⟨?_, hall.trans ((Chg.kept hk5).mono (by simp)), h4.out (Chg.kept hk5) (by simp)⟩, fun hge => ?_⟩
  · show _ = Ending.returned (I (workF wn s m).2)
    unfold workF; simp only; rw [if_pos (show wn.2.2.2 < s.run + m from hlt)]
  refine ⟨_, _, _, _, _, _, _, _, _, _, _, _, _, _, _, _, _, _, _, _, cell_obj h4 rfl, cell_obj h4 rfl, cell_obj h4 rfl, cell_obj h4 rfl, cell_obj h4 rfl, cell_obj h4 rfl, cell_obj h4 rfl, cell_obj h4 rfl, cell_obj h4 rfl, cell_obj h4 rfl, cell_obj h4 rfl, cell_obj h4 rfl, cell_obj h4 rfl, cell_obj h4 rfl, fun w6 hk6 => ?_⟩
  refine Pure.calls (late_any (r := r) (A := A) (wn := wn) (s := (workF wn s m).1)) fun w7 hd7 => ⟨_, rfl, .all hd7, fun w8 hk8 => ⟨?_, ?_, ?_⟩⟩
  · show _ = Ending.returned (I (workF wn s m).2)
    unfold workF; simp only; rw [if_neg (Int.not_lt.2 (show s.run + m ≤ wn.2.2.2 from hge))]
  · exact ((hall.trans ((Chg.kept hk6).mono (by simp))).trans (Chg.of_below hd7)).trans ((Chg.kept hk8).mono (by simp))
  · exact ((h4.out (Chg.kept hk6) (by simp)).out (S := []) (Chg.of_below hd7) (by simp)).out (Chg.kept hk8) (by simp)
set_option maxRecDepth 100000 in
theorem rest_any (h : WkIn b r A wn s w) (hs : StB r s) (hr : 0 ≤ r.rest ∧ r.rest ≤ 1000000000) : Calls Tryz.prog 135 #[.pointer (some ⟨b, 0, none⟩)] w (PostSt b r A wn (restF r wn s) w) := by
  obtain ⟨_, _, _, hmm⟩ := hs
  unfold WkIn at h
  refine vc135 b 0 w _ ⟨s.minutes, cell_obj h rfl, r.rest, cell_obj h rfl, fun w1 hk1 => ?_⟩
  have h1 : WkIn b r A wn s w1 := WkIn.out h hk1.chg (by simp)
  refine obj_store (cs := wkC r A wn s) (vs := [I 0]) h1 (by kernel_rfl) (by kernel_rfl) (by simp) rfl (by simp; trivial) fun w2 hh2 c2 => ⟨c2.own (by simp) (by simp) (by simp), by omega, fun w3 hk3 => ?_⟩
  have h2 : WkIn b r A wn ⟨s.place, s.wound, s.oil, 0, s.minutes⟩ w2 := by unfold WkIn; rw [hh2]; rfl
  have h3 := h2.out hk3.chg (by simp)
  refine obj_store (cs := wkC r A wn ⟨s.place, s.wound, s.oil, 0, s.minutes⟩) (vs := [I (s.minutes + r.rest)]) h3 (by kernel_rfl) (by kernel_rfl) (by simp) rfl (by simp; trivial) fun w4 hh4 c4 => ?_
  have h4 : WkIn b r A wn (restF r wn s).1 w4 := by unfold WkIn; rw [hh4]; rfl
  have hall : Chg [b] w w4 := (((hk1.chg.mono (T := [b]) (by simp)).trans c2).trans (hk3.chg.mono (by simp))).trans c4
  refine ⟨c4.own (by simp) (by simp) (by simp), _, _, _, _, _, _, _, _, _, _, _, _, _, _, _, _, _, _, _, _, cell_obj h4 rfl, cell_obj h4 rfl, cell_obj h4 rfl, cell_obj h4 rfl, cell_obj h4 rfl, cell_obj h4 rfl, cell_obj h4 rfl, cell_obj h4 rfl, cell_obj h4 rfl, cell_obj h4 rfl, cell_obj h4 rfl, cell_obj h4 rfl, cell_obj h4 rfl, cell_obj h4 rfl, fun w6 hk6 => ?_⟩
  refine Pure.calls (late_any (r := r) (A := A) (wn := wn) (s := (restF r wn s).1)) fun w7 hd7 => ⟨_, rfl, .all hd7, fun w8 hk8 => ⟨rfl, ?_, ?_⟩⟩
  · exact ((hall.trans ((Chg.kept hk6).mono (by simp))).trans (Chg.of_below hd7)).trans ((Chg.kept hk8).mono (by simp))
  · exact ((h4.out (Chg.kept hk6) (by simp)).out (S := []) (Chg.of_below hd7) (by simp)).out (Chg.kept hk8) (by simp)
theorem has_any {n t : Int} (ht : 0 ≤ t) : Calls Tryz.prog 138 #[I n, I t] w (Pure w (.bool (hasF n t))) := vc138 _ _ w _ ⟨ht, fun _ hb _ => ⟨rfl, hb⟩⟩
theorem with_any {n t : Int} (ht : 0 ≤ t) : Calls Tryz.prog 139 #[I n, I t] w (Pure w (I (withF n t))) := vc139 _ _ w _ ⟨ht, fun _ hb _ => ⟨rfl, hb⟩⟩
theorem works_any {ra wa va : Option Addr} {rc wc vc : Nat} : Calls Tryz.prog 134 #[ruV r ra rc wa wc va vc] w (Pure w (I r.T.length)) := vc134 _ _ _ _ _ _ _ _ _ _ _ w _ fun _ _ w1 hb1 _ => ⟨rfl, hb1⟩
theorem way_cell {ra wa va : Option Addr} {S : List Sl} {w0 w : World} (h : RuIn r ra wa va S w0) (hr : RuOk r) (hb : Below w0.heap.size w0 w) {p t : Int} (hp : 0 ≤ p ∧ p ≤ r.T.length) (ht : 0 ≤ t ∧ t ≤ r.T.length) :
    ∃ b1 o1 s b2 o2, wa = some ⟨b1, o1, none⟩ ∧ b1 < w0.heap.size ∧ b2 < w0.heap.size ∧ w.cell? ⟨b1, o1 + p.toNat * 1, none⟩ = some (slV s) ∧ s.1 = some ⟨b2, o2, none⟩ ∧ t < (s.2.1 : Int) ∧ w.cell? ⟨b2, o2 + t.toNat * 1, none⟩ = some (I (wayF r p t)) ∧ 0 ≤ wayF r p t ∧ wayF r p t ≤ 1440 := by
  have hw := hr.w; have hn := h.n
  have hi : p.toNat < S.length := by omega
  have hi' : p.toNat < r.W.length := by omega
  obtain ⟨b1, o1, e1, hv⟩ := h.s p.toNat (slV S[p.toNat]) (by rw [List.getElem?_map, getElem_of_lt hi]; rfl)
  obtain ⟨hl, hrow⟩ := h.row p.toNat hi hi'
  obtain ⟨hr1, hr2, _⟩ := hr.row p.toNat hi'
  have hj : t.toNat < r.W[p.toNat].length := by omega
  obtain ⟨b2, o2, e2, hv2⟩ := hrow t.toNat _ (ints_get (getElem_of_lt hj))
  have e : wayF r p t = r.W[p.toNat][t.toNat] := by
    unfold wayF
    simp [List.getD_eq_getElem?_getD, getElem_of_lt hi', getElem_of_lt hj]
  refine ⟨b1, o1, S[p.toNat], b2, o2, e1, cell_lt hv, cell_lt hv2, cell_at' (cell_keep hb hv) (by omega), e2, by omega, ?_, ?_⟩
  · rw [e]; exact cell_at' (cell_keep hb hv2) (by omega)
  · rw [e]; exact hr2 _ (List.getElem_mem hj)
set_option maxRecDepth 100000 in
theorem home_any {S : List Sl} {w0 : World} (h : WkIn b r A wn s w) (hs : StB r s) (hR : RuIn r A.ra A.wa A.va S w0) (hO : RuOk r) (hb : Below w0.heap.size w0 w) (hB : w0.heap.size ≤ b) : Calls Tryz.prog 75 #[.pointer (some ⟨b, 0, none⟩)] w (PostSt b r A wn (homeF r wn s) w) := by
  obtain ⟨b1, o1, sl, b2, o2, e1, l1, l2, c1, e2, hlt, c2, hw1, hw2⟩ := way_cell hR hO hb hs.p (t := r.T.length) (by omega)
  have ht := hO.t; have hww := hO.w; have hp := hs.p
  unfold WkIn at h
  have s0 := hb.size
  refine vc75 b 0 w _ ⟨_, _, _, _, _, _, _, _, _, _, _, cell_obj h rfl, cell_obj h rfl, cell_obj h rfl, cell_obj h rfl, cell_obj h rfl, fun w1 hk1 => ?_⟩
  refine Pure.calls works_any fun w2 hd2 => ⟨_, rfl, hd2, _, _, _, cell_obj h rfl, _, cell_obj h rfl, b1, o1, e1, by omega, _, _, _, c1, b2, o2, e2, ⟨by omega, hlt⟩, wayF r s.place r.T.length, cell_keep (w := w1) hd2 (hk1.chg.cell (by simp) c2), fun w3 hk3 => ?_⟩
  have s1 := hk1.size; have s2 := hd2.size; have s3 := hk3.size
  have hb3 : Below w.heap.size w w3 := ⟨hk3.os.trans (hd2.os.trans hk1.os), hk3.tape.trans (hd2.tape.trans hk1.tape), hk3.output.trans (hd2.output.trans hk1.output), by omega, fun k hk => by
    rw [hk3.block k (by omega) (by simp) ⟨_, List.mem_cons_self, Nat.zero_le _, hk⟩, hd2.block k (by omega), hk1.block k hk (by simp) ⟨_, List.mem_cons_self, Nat.zero_le _, hk⟩]⟩
  have h3 : WkIn b r A wn s w3 := WkIn.out (S := []) h (Chg.of_below hb3) (by simp)
  refine (work_any h3 hs.r hs.m (m := wayF r s.place r.T.length) (by omega)).mono fun e w4 he => ?_
  obtain ⟨rfl, c4, h4⟩ := he
  refine ⟨_, rfl, c4.own (by simp) (by simp) (by simp), fun w5 hk5 => ⟨rfl, ?_, h4.out (Chg.kept hk5) (by simp)⟩⟩
  exact ((Chg.of_below hb3).trans c4).trans ((Chg.kept hk5).mono (by simp))
set_option maxRecDepth 100000 in
theorem visit_any {S : List Sl} {w0 : World} {t : Int} (h : WkIn b r A wn s w) (hs : StB r s) (hR : RuIn r A.ra A.wa A.va S w0) (hO : RuOk r) (hb : Below w0.heap.size w0 w) (hB : w0.heap.size ≤ b) (ht : 0 ≤ t ∧ t < r.T.length) : Calls Tryz.prog 136 #[.pointer (some ⟨b, 0, none⟩), I t] w (PostSt b r A wn (visitF r wn s t) w) := by
  have hT := hO.t; have hww := hO.w; have hp := hs.p; have ho := hs.o
  have hl := lt_of_some h
  have s0 := hb.size
  have hi : t.toNat < r.T.length := by omega
  obtain ⟨bt, ot, et, lt, vt⟩ := flat_at (k := 5) (fun _ => rfl) (by omega) hR.t hi
  have etw : r.T[t.toNat] = twF r t := by unfold twF; simp [List.getD_eq_getElem?_getD, getElem_of_lt hi]
  have htw := hO.tw _ (List.getElem_mem hi)
  rw [etw] at htw
  rw [etw] at vt
  have ta := htw.a; have tb := htw.b; have to' := htw.o
  generalize hG : twF r t = T at ta tb to' vt
  refine vc136 b 0 t w _ ⟨_, _, _, cell_obj h rfl, bt, ot, et, by omega, _, _, _, _, _, cell_at' (cell_keep hb (vt 0 _ rfl)) (by omega), cell_at' (cell_keep hb (vt 1 _ rfl)) (by omega), cell_at' (cell_keep hb (vt 2 _ rfl)) (by omega), cell_at' (cell_keep hb (vt 3 _ rfl)) (by omega), cell_at' (cell_keep hb (vt 4 _ rfl)) (by omega), fun m5 g5 => ⟨_, cell_obj h rfl, .inl hl, by show _ ≤ s.oil + T.2.2.2.1 ∧ s.oil + T.2.2.2.1 ≤ _; omega, fun w1 hk1 => ?_⟩⟩
  have h1 : WkIn b r A wn s w1 := WkIn.out h hk1.chg (by simp; omega)
  refine obj_store (cs := wkC r A wn s) (vs := [I (s.oil + T.2.2.2.1)]) h1 (by kernel_rfl) (by kernel_rfl) (by simp) rfl (by simp; trivial) fun w2 hh2 c2 => ?_
  have h2 : WkIn b r A wn ⟨s.place, s.wound, s.oil + T.2.2.2.1, s.run, s.minutes⟩ w2 := by unfold WkIn; rw [hh2]; rfl
  have s1 := hk1.size; have s2 := c2.size
  have k2 : ∀ y ∈ [m5], y < w1.heap.size ∧ y ∉ [b] := fun y hy => ⟨hk1.own y hy, by simp at hy ⊢; omega⟩
  refine ⟨c2.own k2 (by simp) (by simp), _, cell_obj h2 rfl, .inl hl, fun w3 hk3 => ?_⟩
  have all2 : Chg [m5, b] w w2 := (hk1.chg.mono (T := [m5, b]) (by simp)).trans (c2.mono (by simp))
  have all3 : Chg [m5, b] w w3 := all2.trans ((Chg.kept hk3).mono (by simp))
  refine Pure.calls (has_any ht.1) fun w4 hd4 => ⟨_, rfl, .all hd4, fun hh w5 hk5 => ⟨?_, ?_, ?_⟩, fun hh => ?_⟩
  · show _ = Ending.returned (I (visitF r wn s t).2)
    unfold visitF; rw [if_pos hh]
  · exact ((all3.trans (Chg.of_below hd4)).trans ((Chg.kept hk5).mono (by simp))).mono fun y hy => by simp at hy ⊢; omega
  · have := ((h2.out (Chg.kept hk3) (by simp; omega)).out (S := []) (Chg.of_below hd4) (by simp)).out (Chg.kept hk5) (by simp; omega)
    unfold visitF; rw [if_pos hh, hG]; exact this
  have h4 : WkIn b r A wn ⟨s.place, s.wound, s.oil + T.2.2.2.1, s.run, s.minutes⟩ w4 := (h2.out (Chg.kept hk3) (by simp; omega)).out (S := []) (Chg.of_below hd4) (by simp)
  have all4 : Chg [m5, b] w w4 := all3.trans (Chg.of_below hd4)
  have hne : ¬ hasF s.wound t = true := by
    have hh : hasF s.wound t = false := hh
    simp [hh]
  have fin : ∀ w5, Kept [m5] w4 w5 → Chg [b] w w5 ∧ WkIn b r A wn ⟨s.place, s.wound, s.oil + T.2.2.2.1, s.run, s.minutes⟩ w5 := fun w5 hk5 => ⟨(all4.trans ((Chg.kept hk5).mono (by simp))).mono fun y hy => by simp at hy ⊢; omega, h4.out (Chg.kept hk5) (by simp; omega)⟩
  refine ⟨_, cell_obj h4 rfl, .inl hl, fun hk w6 hk6 => ?_, fun hk => ⟨_, cell_obj h4 rfl, .inl hl, _, cell_obj h4 rfl, .inl hl, fun ho w7 hk7 => ?_, fun ho => ?_⟩⟩
  · obtain ⟨f1, f2⟩ := fin w6 hk6
    have hk : keysF (twF r t).2.2.1 wn.1 ≠ 0 := by rw [hG]; exact hk
    refine ⟨?_, f1, ?_⟩
    · show _ = Ending.returned (I (visitF r wn s t).2)
      unfold visitF; rw [if_neg hne, if_pos hk]
    · unfold visitF; rw [if_neg hne, if_pos hk, hG]; exact f2
  · obtain ⟨f1, f2⟩ := fin w7 hk7
    have hk : ¬ keysF (twF r t).2.2.1 wn.1 ≠ 0 := by rw [hG]; exact fun h => h hk
    have ho : wn.2.1 < s.oil + (twF r t).2.2.2.1 := by rw [hG]; exact ho
    refine ⟨?_, f1, ?_⟩
    · show _ = Ending.returned (I (visitF r wn s t).2)
      unfold visitF; rw [if_neg hne, if_neg hk, if_pos ho]
    · unfold visitF; rw [if_neg hne, if_neg hk, if_pos ho, hG]; exact f2
  have hk : ¬ keysF (twF r t).2.2.1 wn.1 ≠ 0 := by rw [hG]; exact fun h => h hk
  have ho : ¬ wn.2.1 < s.oil + (twF r t).2.2.2.1 := by rw [hG]; exact Int.not_lt.2 ho
  have hb4 : Below w0.heap.size w0 w4 := ⟨all4.os.trans hb.os, all4.tape.trans hb.tape, all4.output.trans hb.output, by have := all4.size; omega, fun k hk => by rw [all4.keep k (by omega) (by simp; omega), hb.block k hk]⟩
  obtain ⟨b1, o1, sl, b2, o2, e1, l1, l2, c1, e2, hlt, c2', hw1, hw2⟩ := way_cell hR hO hb4 hs.p (t := t) (by omega)
  refine ⟨_, _, _, cell_obj h4 rfl, .inl hl, _, cell_obj h4 rfl, .inl hl, b1, o1, e1, by show 0 ≤ s.place ∧ s.place < (r.W.length : Int); omega, _, _, _, c1, .inl (by omega), b2, o2, e2, ⟨ht.1, hlt⟩, _, c2', .inl (by omega), _, cell_obj h4 rfl, .inl hl, fun w8 hk8 => ?_⟩
  refine Pure.calls (with_any ht.1) fun w9 hd9 => ⟨_, rfl, .all hd9, fun w10 hk10 => ?_⟩
  have s3 := hk3.size; have s4 := hd4.size; have s8 := hk8.size; have s9 := hd9.size; have s10 := hk10.size
  have h10 : WkIn b r A wn ⟨s.place, s.wound, s.oil + T.2.2.2.1, s.run, s.minutes⟩ w10 := ((h4.out (Chg.kept hk8) (by simp; omega)).out (S := []) (Chg.of_below hd9) (by simp)).out (Chg.kept hk10) (by simp; omega)
  have all10 : Chg [m5, b] w w10 := ((all4.trans ((Chg.kept hk8).mono (by simp))).trans (Chg.of_below hd9)).trans ((Chg.kept hk10).mono (by simp))
  refine obj_store (cs := wkC r A wn ⟨s.place, s.wound, s.oil + T.2.2.2.1, s.run, s.minutes⟩) (vs := [I t]) h10 (by kernel_rfl) (by kernel_rfl) (by simp) rfl (by simp; trivial) fun w11 hh11 c11 => ?_
  have h11 : WkIn b r A wn ⟨t, s.wound, s.oil + T.2.2.2.1, s.run, s.minutes⟩ w11 := by unfold WkIn; rw [hh11]; rfl
  refine ⟨c11.own (fun y hy => ⟨hk10.own y hy, by simp at hy ⊢; omega⟩) (by simp) (by simp), fun w12 hk12 => ?_⟩
  have h12 := h11.out (Chg.kept hk12) (by simp; omega)
  have s11 := c11.size; have s12 := hk12.size
  refine obj_store (cs := wkC r A wn ⟨t, s.wound, s.oil + T.2.2.2.1, s.run, s.minutes⟩) (vs := [I (withF s.wound t)]) h12 (by kernel_rfl) (by kernel_rfl) (by simp) rfl (by simp; trivial) fun w13 hh13 c13 => ?_
  have h13 : WkIn b r A wn ⟨t, withF s.wound t, s.oil + T.2.2.2.1, s.run, s.minutes⟩ w13 := by unfold WkIn; rw [hh13]; rfl
  refine ⟨c13.own (fun y hy => ⟨hk12.own y hy, by simp at hy ⊢; omega⟩) (by simp) (by simp), by omega, by omega, fun w14 hk14 => ?_⟩
  have h14 := h13.out (Chg.kept hk14) (by simp; omega)
  have all14 : Chg [m5, b] w w14 := (((all10.trans (c11.mono (by simp))).trans ((Chg.kept hk12).mono (by simp))).trans (c13.mono (by simp))).trans ((Chg.kept hk14).mono (by simp))
  refine (work_any h14 hs.r hs.m (by omega)).mono fun e w15 he => ?_
  obtain ⟨rfl, c15, h15⟩ := he
  refine ⟨_, rfl, c15.own (fun y hy => ⟨hk14.own y hy, by simp at hy ⊢; omega⟩) (by simp) (by simp), fun w16 hk16 => ⟨?_, ?_, ?_⟩⟩
  · show _ = Ending.returned (I (visitF r wn s t).2)
    unfold visitF; rw [if_neg hne, if_neg hk, if_neg ho, hG]
  · exact ((all14.trans (c15.mono (by simp))).trans ((Chg.kept hk16).mono (by simp))).mono fun y hy => by simp at hy ⊢; omega
  · unfold visitF; rw [if_neg hne, if_neg hk, if_neg ho, hG]; exact h15.out (Chg.kept hk16) (by simp; omega)
set_option maxRecDepth 100000 in
theorem step_any {S : List Sl} {w0 : World} {n : Int} (h : WkIn b r A wn s w) (hs : StB r s) (hR : RuIn r A.ra A.wa A.va S w0) (hO : RuOk r) (hb : Below w0.heap.size w0 w) (hB : w0.heap.size ≤ b) : Calls Tryz.prog 74 #[.pointer (some ⟨b, 0, none⟩), I n] w (PostSt b r A wn (stepF r wn s n) w) := by
  have hT := hO.t
  have hl := lt_of_some h
  have s0 := hb.size
  refine vc74 b 0 n w _ ⟨fun hn w1 hk1 => ?_, fun hn => ⟨_, _, _, cell_obj h rfl, by omega, fun m4 g4 w4 hk4 hc4 => ?_⟩⟩
  · refine (rest_any (h.out (Chg.kept hk1) (by simp)) hs (by have := hO.rest; omega)).mono fun e w2 he => ?_
    obtain ⟨rfl, c2, h2⟩ := he
    refine ⟨_, rfl, c2.own (by simp) (by simp) (by simp), fun w3 hk3 => ⟨?_, ?_, ?_⟩⟩
    · show _ = Ending.returned (I (stepF r wn s n).2)
      unfold stepF; rw [if_pos hn]
    · exact (((Chg.kept hk1).mono (T := [b]) (by simp)).trans c2).trans ((Chg.kept hk3).mono (by simp))
    · unfold stepF; rw [if_pos hn]; exact h2.out (Chg.kept hk3) (by simp)
  have s4 := hk4.size
  have h4 := h.out (Chg.kept hk4) (by simp; omega)
  refine Pure.calls (inR_any hc4) fun w5 hd5 => ⟨_, rfl, .all hd5, fun hh w6 hk6 => ?_, fun hh w7 hk7 => ?_⟩
  · have hh : ¬ (0 ≤ n ∧ n ≤ (r.T.length : Int) - 1) := fun hc => by rw [decide_eq_true hc] at hh; cases hh
    refine ⟨?_, ?_, ?_⟩
    · show _ = Ending.returned (I (stepF r wn s n).2)
      unfold stepF; rw [if_neg hn, if_neg hh]
    · exact ((((Chg.kept hk4).mono (T := [m4, b]) (by simp)).trans (Chg.of_below hd5)).trans ((Chg.kept hk6).mono (by simp))).mono fun y hy => by simp at hy ⊢; omega
    · unfold stepF; rw [if_neg hn, if_neg hh]; exact (h4.out (S := []) (Chg.of_below hd5) (by simp)).out (Chg.kept hk6) (by simp; omega)
  have hh : 0 ≤ n ∧ n ≤ (r.T.length : Int) - 1 := by simpa using hh
  have s5 := hd5.size; have s7 := hk7.size
  have h7 := (h4.out (S := []) (Chg.of_below hd5) (by simp)).out (Chg.kept hk7) (by simp; omega)
  have all7 : Chg [m4] w w7 := ((Chg.kept hk4).trans (Chg.of_below hd5)).trans (Chg.kept hk7)
  have hb7 : Below w0.heap.size w0 w7 := ⟨all7.os.trans hb.os, all7.tape.trans hb.tape, all7.output.trans hb.output, by omega, fun k hk => by rw [all7.keep k (by omega) (by simp; omega), hb.block k hk]⟩
  refine (visit_any h7 hs hR hO hb7 hB (t := n) (by omega)).mono fun e w8 he => ?_
  obtain ⟨rfl, c8, h8⟩ := he
  refine ⟨_, rfl, c8.own (fun y hy => ⟨hk7.own y hy, by simp at hy ⊢; omega⟩) (by simp) (by simp), fun w9 hk9 => ⟨?_, ?_, ?_⟩⟩
  · show _ = Ending.returned (I (stepF r wn s n).2)
    unfold stepF; rw [if_neg hn, if_pos hh]
  · exact (((all7.mono (T := [m4, b]) (by simp)).trans (c8.mono (by simp))).trans ((Chg.kept hk9).mono (by simp))).mono fun y hy => by simp at hy ⊢; omega
  · unfold stepF; rw [if_neg hn, if_pos hh]; exact h8.out (Chg.kept hk9) (by simp; omega)
end
end Go.Proofs.RT
end
section
/- The conditions of the functions, printed by program; each is what the generator reckons (kernel_rfl). -/
namespace Go.Proofs
open Go.Vc
set_option maxRecDepth 100000 in
set_option maxHeartbeats 2000000 in
theorem vc77 (sb : Nat) (so : Nat) (p1w0a : Option Addr) (p1w0n : Nat) (p1w0c : Nat) (p1w1a : Option Addr) (p1w1n : Nat) (p1w1c : Nat) (p1w2a : Option Addr) (p1w2n : Nat) (p1w2c :
    Nat) (p1w3 : Int) (p1w4 : Int) (p1w5 : Int) (p1w6 : Int) (p1w7 : Int) (p1w8 : Int) (p1w9 : Int) (p1w10 : Int) (p1w11 : Int) (p1w12 : Int) (p1w13 : Int) (stepsa : Option Addr)
    (stepsn : Nat) (stepsc : Nat) (w : World) (R : Ending → World → Prop) (h : ∀ (m1 : Nat), w.heap.size ≤ m1 → ∃ (F1 : List Lf → World → Prop), (∃ (t1 : Bool), w.cell?
    { block := sb, off := so + 3 } = some (Value.bool t1) ∧ (sb < w.heap.size ∨ sb ≠ m1) ∧ (t1 = true → ∃ (x1 : Int), w.cell? { block := sb, off := so + 2 } = some (Value.int
    IntKind.i64 x1) ∧ (sb < w.heap.size ∨ sb ≠ m1) ∧ ∀ (w2 : World), Kept [m1] w w2 → w2.heap[m1]? = some (Obj.cells #[Value.slice p1w0a p1w0n p1w0c, Value.slice p1w1a p1w1n p1w1c,
    Value.slice p1w2a p1w2n p1w2c, Value.int IntKind.i64 p1w3, Value.int IntKind.i64 p1w4, Value.int IntKind.u16 p1w5, Value.int IntKind.i64 p1w6, Value.int IntKind.i64 p1w7,
    Value.int IntKind.i64 p1w8, Value.int IntKind.i64 p1w9, Value.int IntKind.i64 p1w10, Value.int IntKind.i64 p1w11, Value.int IntKind.i64 p1w12, Value.int IntKind.i64 p1w13] 173)
    → F1 [Lf.bool (decide (x1 ≤ p1w13))] w2) ∧ (t1 = false → ∀ (w3 : World), Kept [m1] w w3 → F1 [Lf.bool false] w3)) ∧ ∀ (t2 : Bool) (w4 : World), F1 [Lf.bool t2] w4 → (t2 = true
    → ∀ (w5 : World), Kept [m1] w4 w5 → R (Ending.returned (Value.tuple #[])) w5) ∧ (t2 = false → ∃ (x3 : Int), w4.cell? { block := sb, off := so + 0 } = some (Value.int
    IntKind.i64 x3) ∧ (sb < w.heap.size ∨ sb ≠ m1) ∧ ∃ (F2 : List Lf → World → Prop), ((p1w10 = x3 → ∀ (w7 : World), Kept [m1] w4 w7 → ∀ (m5 : Nat) (w8 : World), m5 = w7.heap.size
    → w8 = w7.alloc (Obj.cells #[Value.slice none 0 0, Value.slice none 0 0, Value.slice none 0 0, Value.int IntKind.i64 0, Value.int IntKind.i64 0, Value.int IntKind.u16 0,
    Value.int IntKind.i64 0, Value.int IntKind.i64 0, Value.int IntKind.i64 0, Value.int IntKind.i64 0, Value.int IntKind.i64 0, Value.int IntKind.i64 0, Value.int IntKind.i64 0,
    Value.int IntKind.i64 0] 173) → ∀ (w9 : World), Kept [m1] w8 w9 → RunsTo Tryz.prog ((Instr.storeAt 173 (Value.pointer (some { block := m5, off := 0 })) (Value.agg #[Value.slice
    p1w0a p1w0n p1w0c, Value.slice p1w1a p1w1n p1w1c, Value.slice p1w2a p1w2n p1w2c, Value.int IntKind.i64 p1w3, Value.int IntKind.i64 p1w4, Value.int IntKind.u16 p1w5, Value.int
    IntKind.i64 p1w6, Value.int IntKind.i64 p1w7, Value.int IntKind.i64 p1w8, Value.int IntKind.i64 p1w9, Value.int IntKind.i64 p1w10, Value.int IntKind.i64 p1w11, Value.int
    IntKind.i64 p1w12, Value.int IntKind.i64 p1w13])) >>= fun _ => pure (Value.tuple #[])) w9 fun (v1 : Value) (w10 : World) => KeepX false w.heap.size [m1] (fun _ => False) w9 w10
    ∧ ∀ (w11 : World), KeptIn [(0, w10.heap.size)] [m1] w10 w11 → Calls Tryz.prog 75 #[Value.pointer (some { block := m5, off := 0 })] w11 fun (e1 : Ending) (w12 : World) => ∃ (x4
    : Int), e1 = Ending.returned (Value.int IntKind.i64 x4) ∧ KeepX false w.heap.size [m1] (fun _ => False) w11 w12 ∧ (x4 = 0 → ∃ (t3 : Bool), w12.cell?
    { block := sb, off := so + 3 } = some (Value.bool t3) ∧ (sb < w.heap.size ∨ sb ≠ m1) ∧ ((!t3) = true → ∃ (F3 : List Lf → World → Prop), (∀ (w14 : World), KeptIn [(0,
    w12.heap.size)] [m1] w12 w14 → Calls Tryz.prog 140 #[Value.slice stepsa stepsn stepsc] w14 fun (e2 : Ending) (w15 : World) => ∃ (a1 : Option Addr), ∃ (m8 : Nat), ∃ (m9 : Nat),
    e2 = Ending.returned (Value.slice a1 m8 m9) ∧ RowKit.Below w14.heap.size w14 w15 ∧ ∃ (x5 : Int), w12.cell? { block := m5, off := 0 + 13 } = some (Value.int IntKind.i64 x5) ∧
    (m5 < w.heap.size ∨ m5 ≠ m1) ∧ ∀ (w16 : World), KeptIn [(0, w12.heap.size), (w14.heap.size, w15.heap.size)] [m1] w15 w16 → RunsTo Tryz.prog ((Instr.storeAt 32 (Value.pointer
    (some { block := sb, off := so + 1 })) (Value.slice a1 m8 m9)) >>= fun _ => pure (Value.tuple #[])) w16 fun (v2 : Value) (w17 : World) => KeepX false w.heap.size [m1] (fun _ =>
    False) w16 w17 ∧ ∀ (w18 : World), KeptIn [(0, w17.heap.size)] [m1] w17 w18 → RunsTo Tryz.prog ((Instr.storeAt 3 (Value.pointer (some { block := sb, off := so + 2 })) (Value.int
    IntKind.i64 x5)) >>= fun _ => pure (Value.tuple #[])) w18 fun (v3 : Value) (w19 : World) => KeepX false w.heap.size [m1] (fun _ => False) w18 w19 ∧ ∀ (w20 : World), KeptIn [(0,
    w19.heap.size)] [m1] w19 w20 → RunsTo Tryz.prog ((Instr.storeAt 4 (Value.pointer (some { block := sb, off := so + 3 })) (Value.bool true)) >>= fun _ => pure (Value.tuple #[]))
    w20 fun (v4 : Value) (w21 : World) => KeepX false w.heap.size [m1] (fun _ => False) w20 w21 ∧ ∀ (w22 : World), Kept [m1] w21 w22 → F3 [] w22) ∧ ∀ (w23 : World), F3 [] w23 → ∀
    (w24 : World), Kept [m1] w23 w24 → F2 [] w24) ∧ ((!t3) = false → ∃ (x6 : Int), w12.cell? { block := m5, off := 0 + 13 } = some (Value.int IntKind.i64 x6) ∧ (m5 < w.heap.size ∨
    m5 ≠ m1) ∧ ∃ (x7 : Int), w12.cell? { block := sb, off := so + 2 } = some (Value.int IntKind.i64 x7) ∧ (sb < w.heap.size ∨ sb ≠ m1) ∧ ∃ (F4 : List Lf → World → Prop), ((x6 < x7
    → ∀ (w26 : World), KeptIn [(0, w12.heap.size)] [m1] w12 w26 → Calls Tryz.prog 140 #[Value.slice stepsa stepsn stepsc] w26 fun (e3 : Ending) (w27 : World) => ∃ (a2 : Option
    Addr), ∃ (m13 : Nat), ∃ (m14 : Nat), e3 = Ending.returned (Value.slice a2 m13 m14) ∧ RowKit.Below w26.heap.size w26 w27 ∧ ∃ (x8 : Int), w12.cell? { block := m5, off := 0 + 13 }
    = some (Value.int IntKind.i64 x8) ∧ (m5 < w.heap.size ∨ m5 ≠ m1) ∧ ∀ (w28 : World), KeptIn [(0, w12.heap.size), (w26.heap.size, w27.heap.size)] [m1] w27 w28 → RunsTo Tryz.prog
    ((Instr.storeAt 32 (Value.pointer (some { block := sb, off := so + 1 })) (Value.slice a2 m13 m14)) >>= fun _ => pure (Value.tuple #[])) w28 fun (v5 : Value) (w29 : World) =>
    KeepX false w.heap.size [m1] (fun _ => False) w28 w29 ∧ ∀ (w30 : World), KeptIn [(0, w29.heap.size)] [m1] w29 w30 → RunsTo Tryz.prog ((Instr.storeAt 3 (Value.pointer (some
    { block := sb, off := so + 2 })) (Value.int IntKind.i64 x8)) >>= fun _ => pure (Value.tuple #[])) w30 fun (v6 : Value) (w31 : World) => KeepX false w.heap.size [m1] (fun _ =>
    False) w30 w31 ∧ ∀ (w32 : World), KeptIn [(0, w31.heap.size)] [m1] w31 w32 → RunsTo Tryz.prog ((Instr.storeAt 4 (Value.pointer (some { block := sb, off := so + 3 }))
    (Value.bool true)) >>= fun _ => pure (Value.tuple #[])) w32 fun (v7 : Value) (w33 : World) => KeepX false w.heap.size [m1] (fun _ => False) w32 w33 ∧ ∀ (w34 : World), Kept [m1]
    w33 w34 → F4 [] w34) ∧ (x7 ≤ x6 → ∀ (w35 : World), Kept [m1] w12 w35 → F4 [] w35)) ∧ ∀ (w36 : World), F4 [] w36 → ∀ (w37 : World), Kept [m1] w36 w37 → F2 [] w37)) ∧ (x4 ≠ 0 → ∃
    (F5 : List Lf → World → Prop), (∀ (w39 : World), Kept [m1] w12 w39 → F5 [] w39) ∧ ∀ (w40 : World), F5 [] w40 → ∀ (w41 : World), Kept [m1] w40 w41 → F2 [] w41)) ∧ (p1w10 ≠ x3 →
    ∀ (w42 : World), Kept [m1] w4 w42 → F2 [] w42)) ∧ ∀ (w43 : World), F2 [] w43 → ∃ (F6 : List Lf → World → Prop), ((0 < (↑stepsn : Int) → (-9223372036854775808 ≤ (↑stepsn : Int)
    - 1 ∧ (↑stepsn : Int) - (1 : Int) ≤ 9223372036854775807) ∧ ∃ (m18 : Nat), ∃ (m19 : Nat), stepsa = some { block := m18, off := m19 } ∧ (0 ≤ (↑stepsn : Int) - 1 ∧ (↑stepsn : Int)
    - 1 < (↑stepsn : Int)) ∧ ∃ (x9 : Int), w43.cell? { block := m18, off := m19 + ((↑stepsn : Int) - 1).toNat * 1 } = some (Value.int IntKind.i64 x9) ∧ (m18 < w.heap.size ∨ m18 ≠
    m1) ∧ ∀ (w45 : World), Kept [m1] w43 w45 → F6 [Lf.bool (x9 == -1)] w45) ∧ ((↑stepsn : Int) ≤ 0 → ∀ (w46 : World), Kept [m1] w43 w46 → F6 [Lf.bool false] w46)) ∧ ∀ (t4 : Bool)
    (w47 : World), F6 [Lf.bool t4] w47 → ∃ (F7 : List Lf → World → Prop), ∃ (F8 : List Lf → Nat), (∀ (w49 : World), Kept [m1] w47 w49 → F7 [Lf.int IntKind.i64 (-1)] w49) ∧ ∀ (x10 :
    Int) (w50 : World), F7 [Lf.int IntKind.i64 x10] w50 → (x10 < (↑p1w0n : Int) → ∃ (F9 : List Lf → World → Prop), (∃ (F10 : List Lf → World → Prop), ((x10 = -1 → (t4 = true → ∀
    (w53 : World), Kept [m1] w50 w53 → F10 [Lf.bool true] w53) ∧ (t4 = false → (x10 ≠ -1 → ∃ (x11 : Int), w50.cell? { block := sb, off := so + 0 } = some (Value.int IntKind.i64
    x11) ∧ (sb < w.heap.size ∨ sb ≠ m1) ∧ ∀ (w54 : World), Kept [m1] w50 w54 → Calls Tryz.prog 138 #[Value.int IntKind.i64 x11, Value.int IntKind.i64 x10] w54 fun (e4 : Ending)
    (w55 : World) => ∃ (t5 : Bool), e4 = Ending.returned (Value.bool t5) ∧ KeepX false w.heap.size [m1] (fun _ => False) w54 w55 ∧ ((!t5) = true → ∀ (w56 : World), Kept [m1] w55
    w56 → F10 [Lf.bool true] w56) ∧ ((!t5) = false → ∀ (w57 : World), Kept [m1] w55 w57 → Calls Tryz.prog 138 #[Value.int IntKind.i64 p1w10, Value.int IntKind.i64 x10] w57 fun (e5
    : Ending) (w58 : World) => ∃ (t6 : Bool), e5 = Ending.returned (Value.bool t6) ∧ KeepX false w.heap.size [m1] (fun _ => False) w57 w58 ∧ ∀ (w59 : World), Kept [m1] w58 w59 →
    w59.heap[m1]? = some (Obj.cells #[Value.slice p1w0a p1w0n p1w0c, Value.slice p1w1a p1w1n p1w1c, Value.slice p1w2a p1w2n p1w2c, Value.int IntKind.i64 p1w3, Value.int IntKind.i64
    p1w4, Value.int IntKind.u16 p1w5, Value.int IntKind.i64 p1w6, Value.int IntKind.i64 p1w7, Value.int IntKind.i64 p1w8, Value.int IntKind.i64 p1w9, Value.int IntKind.i64 p1w10,
    Value.int IntKind.i64 p1w11, Value.int IntKind.i64 p1w12, Value.int IntKind.i64 p1w13] 173) → F10 [Lf.bool t6] w59)) ∧ (x10 = -1 → ∀ (w60 : World), Kept [m1] w50 w60 → F10
    [Lf.bool false] w60))) ∧ (x10 ≠ -1 → (x10 ≠ -1 → ∃ (x12 : Int), w50.cell? { block := sb, off := so + 0 } = some (Value.int IntKind.i64 x12) ∧ (sb < w.heap.size ∨ sb ≠ m1) ∧ ∀
    (w61 : World), Kept [m1] w50 w61 → Calls Tryz.prog 138 #[Value.int IntKind.i64 x12, Value.int IntKind.i64 x10] w61 fun (e6 : Ending) (w62 : World) => ∃ (t7 : Bool), e6 =
    Ending.returned (Value.bool t7) ∧ KeepX false w.heap.size [m1] (fun _ => False) w61 w62 ∧ ((!t7) = true → ∀ (w63 : World), Kept [m1] w62 w63 → F10 [Lf.bool true] w63) ∧ ((!t7)
    = false → ∀ (w64 : World), Kept [m1] w62 w64 → Calls Tryz.prog 138 #[Value.int IntKind.i64 p1w10, Value.int IntKind.i64 x10] w64 fun (e7 : Ending) (w65 : World) => ∃ (t8 :
    Bool), e7 = Ending.returned (Value.bool t8) ∧ KeepX false w.heap.size [m1] (fun _ => False) w64 w65 ∧ ∀ (w66 : World), Kept [m1] w65 w66 → w66.heap[m1]? = some (Obj.cells
    #[Value.slice p1w0a p1w0n p1w0c, Value.slice p1w1a p1w1n p1w1c, Value.slice p1w2a p1w2n p1w2c, Value.int IntKind.i64 p1w3, Value.int IntKind.i64 p1w4, Value.int IntKind.u16
    p1w5, Value.int IntKind.i64 p1w6, Value.int IntKind.i64 p1w7, Value.int IntKind.i64 p1w8, Value.int IntKind.i64 p1w9, Value.int IntKind.i64 p1w10, Value.int IntKind.i64 p1w11,
    Value.int IntKind.i64 p1w12, Value.int IntKind.i64 p1w13] 173) → F10 [Lf.bool t8] w66)) ∧ (x10 = -1 → ∀ (w67 : World), Kept [m1] w50 w67 → F10 [Lf.bool false] w67))) ∧ ∀ (t9 :
    Bool) (w68 : World), F10 [Lf.bool t9] w68 → (t9 = true → ∀ (w69 : World), Kept [m1] w68 w69 → F9 [] w69) ∧ (t9 = false → ∀ (w70 : World), Kept [m1] w68 w70 → ∀ (m26 : Nat) (w71
    : World), m26 = w70.heap.size → w71 = w70.alloc (Obj.cells #[Value.slice none 0 0, Value.slice none 0 0, Value.slice none 0 0, Value.int IntKind.i64 0, Value.int IntKind.i64 0,
    Value.int IntKind.u16 0, Value.int IntKind.i64 0, Value.int IntKind.i64 0, Value.int IntKind.i64 0, Value.int IntKind.i64 0, Value.int IntKind.i64 0, Value.int IntKind.i64 0,
    Value.int IntKind.i64 0, Value.int IntKind.i64 0] 173) → ∀ (w72 : World), Kept [m1] w71 w72 → RunsTo Tryz.prog ((Instr.storeAt 173 (Value.pointer (some
    { block := m26, off := 0 })) (Value.agg #[Value.slice p1w0a p1w0n p1w0c, Value.slice p1w1a p1w1n p1w1c, Value.slice p1w2a p1w2n p1w2c, Value.int IntKind.i64 p1w3, Value.int
    IntKind.i64 p1w4, Value.int IntKind.u16 p1w5, Value.int IntKind.i64 p1w6, Value.int IntKind.i64 p1w7, Value.int IntKind.i64 p1w8, Value.int IntKind.i64 p1w9, Value.int
    IntKind.i64 p1w10, Value.int IntKind.i64 p1w11, Value.int IntKind.i64 p1w12, Value.int IntKind.i64 p1w13])) >>= fun _ => pure (Value.tuple #[])) w72 fun (v8 : Value) (w73 :
    World) => KeepX false w.heap.size [m1] (fun _ => False) w72 w73 ∧ ∀ (w74 : World), Kept [m1] w73 w74 → Calls Tryz.prog 74 #[Value.pointer (some { block := m26, off := 0 }),
    Value.int IntKind.i64 x10] w74 fun (e8 : Ending) (w75 : World) => ∃ (x13 : Int), e8 = Ending.returned (Value.int IntKind.i64 x13) ∧ KeepX false w.heap.size [m1] (fun _ =>
    False) w74 w75 ∧ (x13 = 0 → ∀ (w76 : World), KeptIn [(0, w75.heap.size)] [m1] w75 w76 → Calls Tryz.prog 141 #[Value.slice stepsa stepsn stepsc] w76 fun (e9 : Ending) (w77 :
    World) => ∃ (a3 : Option Addr), ∃ (m29 : Nat), ∃ (m30 : Nat), e9 = Ending.returned (Value.slice a3 m29 m30) ∧ RowKit.Below w76.heap.size w76 w77 ∧ ∀ (m31 : Nat), w75.heap.size
    ≤ m31 → m31 < w76.heap.size ∨ w77.heap.size ≤ m31 → ∀ (w78 : World), KeptIn [(0, w75.heap.size), (w76.heap.size, w77.heap.size)] [m31, m1] w77 w78 → w78.heap[m31]? = some
    (Obj.cells #[Value.int IntKind.i64 x10] 3) → RunsTo Tryz.prog (Builtin.append_ #[32, 32] 32 #[Value.slice a3 m29 m30, Value.slice (some { block := m31, off := 0 }) 1 1]) w78
    fun (v9 : Value) (w79 : World) => ∃ (a4 : Option Addr), ∃ (m33 : Nat), ∃ (m34 : Nat), v9 = Value.slice a4 m33 m34 ∧ RowKit.Below w78.heap.size w78 w79 ∧ ∃ (a5 : Option Addr), ∃
    (m35 : Nat), ∃ (m36 : Nat), ∃ (a6 : Option Addr), ∃ (m37 : Nat), ∃ (m38 : Nat), ∃ (a7 : Option Addr), ∃ (m39 : Nat), ∃ (m40 : Nat), ∃ (x14 : Int), ∃ (x15 : Int), ∃ (x16 : Int),
    ∃ (x17 : Int), ∃ (x18 : Int), ∃ (x19 : Int), ∃ (x20 : Int), ∃ (x21 : Int), ∃ (x22 : Int), ∃ (x23 : Int), ∃ (x24 : Int), w75.cell? { block := m26, off := 0 } = some (Value.slice
    a5 m35 m36) ∧ w75.cell? { block := m26, off := 0 + 1 } = some (Value.slice a6 m37 m38) ∧ w75.cell? { block := m26, off := 0 + 1 + 1 } = some (Value.slice a7 m39 m40) ∧
    w75.cell? { block := m26, off := 0 + 1 + 1 + 1 } = some (Value.int IntKind.i64 x14) ∧ w75.cell? { block := m26, off := 0 + 1 + 1 + 1 + 1 } = some (Value.int IntKind.i64 x15) ∧
    w75.cell? { block := m26, off := 0 + 1 + 1 + 1 + 1 + 1 } = some (Value.int IntKind.u16 x16) ∧ w75.cell? { block := m26, off := 0 + 1 + 1 + 1 + 1 + 1 + 1 } = some (Value.int
    IntKind.i64 x17) ∧ w75.cell? { block := m26, off := 0 + 1 + 1 + 1 + 1 + 1 + 1 + 1 } = some (Value.int IntKind.i64 x18) ∧ w75.cell?
    { block := m26, off := 0 + 1 + 1 + 1 + 1 + 1 + 1 + 1 + 1 } = some (Value.int IntKind.i64 x19) ∧ w75.cell? { block := m26, off := 0 + 1 + 1 + 1 + 1 + 1 + 1 + 1 + 1 + 1 } = some
    (Value.int IntKind.i64 x20) ∧ w75.cell? { block := m26, off := 0 + 1 + 1 + 1 + 1 + 1 + 1 + 1 + 1 + 1 + 1 } = some (Value.int IntKind.i64 x21) ∧ w75.cell?
    { block := m26, off := 0 + 1 + 1 + 1 + 1 + 1 + 1 + 1 + 1 + 1 + 1 + 1 } = some (Value.int IntKind.i64 x22) ∧ w75.cell?
    { block := m26, off := 0 + 1 + 1 + 1 + 1 + 1 + 1 + 1 + 1 + 1 + 1 + 1 + 1 } = some (Value.int IntKind.i64 x23) ∧ w75.cell?
    { block := m26, off := 0 + 1 + 1 + 1 + 1 + 1 + 1 + 1 + 1 + 1 + 1 + 1 + 1 + 1 } = some (Value.int IntKind.i64 x24) ∧ (m26 < w.heap.size ∨ m26 ≠ m31 ∧ m26 ≠ m1) ∧ ∀ (w80 :
    World), KeptIn [(0, w75.heap.size), (w78.heap.size, w79.heap.size), (w76.heap.size, w77.heap.size)] [m31, m1] w79 w80 → Calls Tryz.prog 77 #[Value.pointer (some
    { block := sb, off := so }), Value.agg #[Value.slice a5 m35 m36, Value.slice a6 m37 m38, Value.slice a7 m39 m40, Value.int IntKind.i64 x14, Value.int IntKind.i64 x15, Value.int
    IntKind.u16 x16, Value.int IntKind.i64 x17, Value.int IntKind.i64 x18, Value.int IntKind.i64 x19, Value.int IntKind.i64 x20, Value.int IntKind.i64 x21, Value.int IntKind.i64
    x22, Value.int IntKind.i64 x23, Value.int IntKind.i64 x24], Value.slice a4 m33 m34] w80 fun (e10 : Ending) (w81 : World) => e10 = Ending.returned (Value.tuple #[]) ∧ KeepX
    false w.heap.size [m31, m1] (fun _ => False) w80 w81 ∧ ∀ (w82 : World), Kept [m31, m1] w81 w82 → w82.heap[m31]? = some (Obj.cells #[Value.int IntKind.i64 x10] 3) → F9 [] w82) ∧
    (x13 ≠ 0 → ∀ (w83 : World), Kept [m1] w75 w83 → F9 [] w83))) ∧ ∀ (w84 : World), F9 [] w84 → (-9223372036854775808 ≤ x10 + 1 ∧ x10 + (1 : Int) ≤ 9223372036854775807) ∧ ∀ (w85 :
    World), Kept [m1] w84 w85 → F7 [Lf.int IntKind.i64 (x10 + 1)] w85 ∧ F8 [Lf.int IntKind.i64 (x10 + 1)] < F8 [Lf.int IntKind.i64 x10]) ∧ ((↑p1w0n : Int) ≤ x10 → ∀ (w86 : World),
    Kept [m1] w50 w86 → R (Ending.returned (Value.tuple #[])) w86))) : Calls Tryz.prog 77 #[Value.pointer (some { block := sb, off := so }), Value.agg #[Value.slice p1w0a p1w0n
    p1w0c, Value.slice p1w1a p1w1n p1w1c, Value.slice p1w2a p1w2n p1w2c, Value.int IntKind.i64 p1w3, Value.int IntKind.i64 p1w4, Value.int IntKind.u16 p1w5, Value.int IntKind.i64
    p1w6, Value.int IntKind.i64 p1w7, Value.int IntKind.i64 p1w8, Value.int IntKind.i64 p1w9, Value.int IntKind.i64 p1w10, Value.int IntKind.i64 p1w11, Value.int IntKind.i64 p1w12,
    Value.int IntKind.i64 p1w13], Value.slice stepsa stepsn stepsc] w R := calls_of_vcj (pure := false) (wrapAt := []) (muts := []) (esc := [6, 9]) (joins := [(2000001, [(22, 4)]),
    (29, []), (48, []), (2000006, [(7, 4)]), (1000001, []), (2000010, [(105, 4)])]) (args := [SV.pv (PV.one (Lf.ptr sb so)), SV.pv (PV.agg [Lf.sl p1w0a p1w0n p1w0c, Lf.sl p1w1a
    p1w1n p1w1c, Lf.sl p1w2a p1w2n p1w2c, Lf.int IntKind.i64 p1w3, Lf.int IntKind.i64 p1w4, Lf.int IntKind.u16 p1w5, Lf.int IntKind.i64 p1w6, Lf.int IntKind.i64 p1w7, Lf.int
    IntKind.i64 p1w8, Lf.int IntKind.i64 p1w9, Lf.int IntKind.i64 p1w10, Lf.int IntKind.i64 p1w11, Lf.int IntKind.i64 p1w12, Lf.int IntKind.i64 p1w13]), SV.pv (PV.one (Lf.sl stepsa
    stepsn stepsc))]) (vs := [Value.pointer (some { block := sb, off := so }), Value.agg #[Value.slice p1w0a p1w0n p1w0c, Value.slice p1w1a p1w1n p1w1c, Value.slice p1w2a p1w2n
    p1w2c, Value.int IntKind.i64 p1w3, Value.int IntKind.i64 p1w4, Value.int IntKind.u16 p1w5, Value.int IntKind.i64 p1w6, Value.int IntKind.i64 p1w7, Value.int IntKind.i64 p1w8,
    Value.int IntKind.i64 p1w9, Value.int IntKind.i64 p1w10, Value.int IntKind.i64 p1w11, Value.int IntKind.i64 p1w12, Value.int IntKind.i64 p1w13], Value.slice stepsa stepsn
    stepsc]) Tryz.func77 rfl rfl rfl (Eq.mp (by kernel_rfl) h) 
end Go.Proofs
end
section
/- Lists of steps: clipped, cloned, appended to. -/
namespace Go.Proofs.RT
open Go.Vc Go.RowKit Go.Proofs
theorem grd_nil (a : Addr) (n c : Nat) (w : World) : (eqGuard .eql 32 (.tmp 3) (.const (.slice none 0 0)) (.slice (some a) n c) (.slice none 0 0)).run Tryz.prog w = .ok () w := by kernel_rfl
theorem eq_nil (a : Addr) (n c : Nat) (w : World) : (binOp .eql 32 (.slice (some a) n c) (.slice none 0 0)).run Tryz.prog w = .ok (.bool false) w := by kernel_rfl
theorem grd_nil0 (w : World) : (eqGuard .eql 32 (.tmp 3) (.const (.slice none 0 0)) (.slice none 0 0) (.slice none 0 0)).run Tryz.prog w = .ok () w := by kernel_rfl
theorem eq_nil0 (w : World) : (binOp .eql 32 (.slice none 0 0) (.slice none 0 0)).run Tryz.prog w = .ok (.bool true) w := by kernel_rfl
set_option maxRecDepth 100000 in
theorem clip_any {w : World} {a : Option Addr} {n c : Nat} (h : n ≤ c) : Calls Tryz.prog 141 #[.slice a n c] w fun e w' => e = .returned (.slice a n n) ∧ Below w.heap.size w w' := by
  go_enter Tryz.func141, Tryz.ntmps141
  go_wp2
  exact ⟨rfl, .slice a n n, by kernel_rfl, rfl, .refl _ _⟩
section
variable {w : World}
theorem al_below {o : Obj} : Below w.heap.size w (w.drew.alloc o) := ((Below.refl _ w).alloc (Nat.le_refl _) _).drew
theorem append_clip {a : Option Addr} {l : List Int} {m : Nat} {x : Int} {R : Value → World → Prop} (hc : Cells w a (ints l)) (hl : l.length ≤ 1000) (ha : l = [] → a = none) (hm : w.heap[m]? = some (.cells #[I x] 3 (0, 0)))
    (hR : ∀ a' c' w', Below w.heap.size w w' → Lies [] w.heap.size w'.heap.size w' a' (ints (l ++ [x])) → l.length + 1 ≤ c' → R (.slice a' (l.length + 1) c') w') :
    RunsTo Tryz.prog (Builtin.append_ #[32, 32] 32 #[.slice a l.length l.length, .slice (some ⟨m, 0, none⟩) 1 1]) w R := by
  by_cases h0 : l = []
  · subst h0
    obtain rfl := ha rfl
    have R0 : RowG 3 1 w.heap.size (fun b => b < w.heap.size) none 0 0 [] w := RowG.nil
    refine R0.append (P := Tryz.prog) (bytes := 8) (by kernel_rfl) (by omega) (m := 1) (news := [_]) (Cells.obj (vs := [_]) hm) rfl (List.forall_mem_cons.2 ⟨rfl, by simp⟩) (by omega) (by omega) (Nat.le_refl _) (fun b hb => hb) fun a' c' w' R' S c1 hS => ?_
    have hb : Below w.heap.size w w' := ⟨c1.os, c1.tape, c1.output, c1.size, fun k hk => c1.keep k hk fun hm => (hS k hm).2 hk⟩
    exact hR a' c' w' hb (rowE_lies (.inr R'.row) (Nat.le_refl _)) (row_le R'.row)
  · have hpos : 0 < l.length := List.length_pos_iff.2 h0
    obtain ⟨b1, o1, rfl, _⟩ := hc 0 _ (ints_get (getElem_of_lt hpos))
    obtain ⟨ht, i, z, hi, hz, hs, hby, hzs⟩ := elemB_spec (P := Tryz.prog) (t := 32) (e := 3) (size := 1) (bytes := 8) (by kernel_rfl)
    have hadd : ∀ b o j : Nat, (⟨b, o, none⟩ : Addr).add j = ⟨b, o + j, none⟩ := fun b o j => by unfold Addr.add; split <;> simp_all
    have c2 : Cells w (some ⟨m, 0, none⟩) [I x] := Cells.obj hm
    have hr := run_append_grow (P := Tryz.prog) w 32 32 3 i z ht hi hz ⟨b1, o1, none⟩ l.length l.length (ints l) (by rw [hs]; simp [ints]) (fun j q hq => by rw [hadd]; exact hc.at hq) ⟨m, 0, none⟩ 1 1 [I x] (by rw [hs]; rfl) (fun j q hq => by rw [hadd]; exact c2.at hq) (by omega) (by omega) (growslice_fits (by omega) (by rw [hby]; omega))
    refine ⟨_, _, hr, hR _ _ _ al_below (Lies.new (n := w.heap.size) (bs := []) (fun j q hj => ⟨w.heap.size, 0, rfl, ?_⟩) (.inr fun b o e => by simp only [Option.some.injEq, Addr.mk.injEq, and_true] at e; omega) (by simp)) ?_⟩
    · have hlt := (List.getElem?_eq_some_iff.1 hj).1
      have hh : (w.drew.alloc (.cells ((ints l).toArray ++ [I x].toArray ++ Builtin.zeroCells z.cells (grownCap w (l.length + 1) l.length 3 - (l.length + 1))) 3)).heap[w.heap.size]? = some (.cells ((ints l).toArray ++ [I x].toArray ++ Builtin.zeroCells z.cells (grownCap w (l.length + 1) l.length 3 - (l.length + 1))) 3 (0, 0)) := heap_alloc_new w.drew _
      unfold World.cell?
      simp only [hh, Nat.zero_add]
      rw [Array.getElem?_append_left (by simpa [ints] using hlt)]
      simpa [ints] using hj
    · exact grownCap_ge w (l.length + 1) l.length 3
set_option maxRecDepth 100000 in
theorem clone_any {a : Option Addr} {l : List Int} {c : Nat} (hc : Cells w a (ints l)) (hl : l.length ≤ 1000) (ha : l = [] → a = none ∧ c = 0) : Calls Tryz.prog 140 #[.slice a l.length c] w fun e w' => ∃ a' c', e = .returned (.slice a' l.length c') ∧ Below w.heap.size w w' ∧ Lies [] w.heap.size w'.heap.size w' a' (ints l) := by
  refine vc140 _ _ _ w _ fun w1 hb1 hk1 => ?_
  by_cases h0 : l = []
  · subst h0
    obtain ⟨rfl, rfl⟩ := ha rfl
    refine ⟨.bool true, w1, ?_, true, rfl, .all (.refl _ _), fun _ w3 hb3 _ => ⟨none, 0, rfl, hb3, fun i v hv => by simp [ints] at hv⟩, fun h => (nomatch h)⟩
    rw [Sem.run_bind]
    show (Result.andThen ((eqGuard .eql 32 (.tmp 3) (.const (.slice none 0 0)) (.slice none 0 0) (.slice none 0 0)).run Tryz.prog w1) _) = _
    rw [grd_nil0, Result.andThen_ok]
    exact eq_nil0 w1
  · have hpos : 0 < l.length := List.length_pos_iff.2 h0
    obtain ⟨b1, o1, rfl, _⟩ := hc 0 _ (ints_get (getElem_of_lt hpos))
    refine ⟨.bool false, w1, ?_, false, rfl, .all (.refl _ _), fun h => (nomatch h), fun _ m2 g2 w4 hb4 hk4 hc4 => ?_⟩
    · rw [Sem.run_bind, grd_nil, Result.andThen_ok, eq_nil]
    have R0 : RowE 3 1 w.heap.size [m2] (some ⟨m2, 0, none⟩) 0 0 [] w4 := RowE.lit
    have s4 := hb4.size
    refine append_rowE (P := Tryz.prog) (bytes := 8) (by kernel_rfl) (by omega) R0 (m := l.length) (hc.keep hb4) (by simp [ints]) (fun u hu => by
      obtain ⟨x, _, rfl⟩ := List.mem_map.1 hu
      rfl) (by omega) (by omega) s4 (fun y hy => hk4.own y hy) hpos fun a' c' w5 R5 S c5 hS => ?_
    rw [Nat.zero_add] at *
    have hb5 : Below w.heap.size w w5 := hb4.trans ⟨c5.os, c5.tape, c5.output, c5.size, fun k hk => c5.keep k (by omega) fun hm => by have := (hS k hm).1; omega⟩
    refine ⟨_, _, _, rfl, c5.own (fun y hy => ⟨hk4.own y hy, fun h => (hS y h).2 hy⟩) (by simp) (fun _ => ⟨s4, fun s hs => (hS s hs).1⟩), fun w6 hb6 hk6 => ⟨_, _, rfl, hb6, ?_⟩⟩
    exact rowE_lies (ns := [m2]) (.inr (R5.chg (Chg.kept hk6) (by simp))) (Nat.le_refl _)
end
end Go.Proofs.RT
end
section
/- The search for the best walk. -/
namespace Go.Proofs.RT
open Go.Vc Go.RowKit Go.Proofs
structure Sea where
  goal : Int
  steps : List Int
  minutes : Int
  found : Bool
deriving DecidableEq
def loopF (f : Sea → Int → Option Sea) : Nat → Int → Sea → Option Sea
  | 0, _, s => some s
  | j + 1, n, s => (f s n).bind (loopF f j (n + 1))
def okSt (r : Ru) (s : St) : Prop := ((0 ≤ s.place ∧ s.place ≤ r.T.length) ∧ (0 ≤ s.oil ∧ s.oil ≤ 1000000000)) ∧ (0 ≤ s.run ∧ s.run ≤ 1000000000) ∧ 0 ≤ s.minutes ∧ s.minutes ≤ 1000000000
instance (r : Ru) (s : St) : Decidable (okSt r s) := by unfold okSt; infer_instance
theorem okSt.b {r : Ru} {s : St} (h : okSt r s) : StB r s := ⟨h.1.1, h.1.2, h.2.1, h.2.2⟩
def recF (r : Ru) (wn : Wn) (sea : Sea) (st : St) (l : List Int) : Sea :=
  if st.wound = sea.goal ∧ (homeF r wn st).2 = 0 ∧ (sea.found = false ∨ (homeF r wn st).1.minutes < sea.minutes) then ⟨sea.goal, l, (homeF r wn st).1.minutes, true⟩ else sea
def restedF (l : List Int) : Bool := if 0 < l.length then l.getD (l.length - 1) 0 == -1 else false
def skipF (goal wound : Int) (rested : Bool) (n : Int) : Bool := if n = -1 then rested else if hasF goal n = false then true else hasF wound n
def tryF (r : Ru) (wn : Wn) : Nat → Sea → St → List Int → Option Sea
  | 0, _, _, _ => none
  | k + 1, sea, st, l =>
    if okSt r st then
      if (if sea.found = true then decide (sea.minutes ≤ st.minutes) else false) = true then some sea
      else loopF (fun s n => if skipF s.goal st.wound (restedF l) n = true then some s else if (stepF r wn st n).2 = 0 then tryF r wn k s (stepF r wn st n).1 (l ++ [n]) else some s) (r.T.length + 1) (-1) (recF r wn sea st l)
    else none
theorem lies_push {bs : List Nat} {lo hi : Nat} {w : World} {a : Option Addr} {vs : List Value} (h : Lies [] lo hi w a vs) (hb : ∀ y ∈ bs, y < lo ∨ hi ≤ y) : Lies bs lo hi w a vs := fun i v hv => by
  obtain ⟨b, o, e, ⟨_, g2, g3⟩, hc⟩ := h i v hv
  exact ⟨b, o, e, ⟨fun hm => by have := hb b hm; omega, g2, g3⟩, hc⟩
structure SeaIn (sb : Nat) (av : List Nat) (sea : Sea) (w : World) : Prop where
  ex : ∃ a c, w.heap[sb]? = some (.cells #[I sea.goal, .slice a sea.steps.length c, I sea.minutes, .bool sea.found] 181 (0, 0)) ∧ Lies (sb :: av) 0 w.heap.size w a (ints sea.steps)
theorem SeaIn.lt {sb : Nat} {av : List Nat} {sea : Sea} {w : World} (h : SeaIn sb av sea w) : sb < w.heap.size := by obtain ⟨a, c, h, _⟩ := h.ex; exact lt_of_some h
theorem SeaIn.same {sb : Nat} {av : List Nat} {sea : Sea} {w w' : World} (h : SeaIn sb av sea w) (hs : w.heap.size ≤ w'.heap.size) (hk : ∀ k, k < w.heap.size → k ∉ av → w'.heap[k]? = w.heap[k]?) (hsb : sb ∉ av) : SeaIn sb av sea w' := by
  obtain ⟨a, c, hh, L⟩ := h.ex
  refine ⟨a, c, by rw [hk sb (lt_of_some hh) hsb]; exact hh, fun i v hv => ?_⟩
  obtain ⟨b, o, e, ⟨g1, g2, g3⟩, hc⟩ := L i v hv
  refine ⟨b, o, e, ⟨g1, g2, by omega⟩, ?_⟩
  have := hk b g3 fun hm => g1 (List.mem_cons_of_mem _ hm)
  unfold World.cell? at hc ⊢
  simp only [this]; exact hc
theorem SeaIn.sub {sb : Nat} {av cs : List Nat} {sea : Sea} {w : World} (h : SeaIn sb av sea w) (hs : ∀ y ∈ cs, y ∈ av) : SeaIn sb cs sea w := by
  obtain ⟨a, c, hh, L⟩ := h.ex
  exact ⟨a, c, hh, L.sub fun y hy => by
    rcases List.mem_cons.1 hy with rfl | hy
    · exact List.mem_cons_self
    · exact List.mem_cons_of_mem _ (hs y hy)⟩
theorem SeaIn.push {sb m : Nat} {av : List Nat} {sea : Sea} {w : World} (h : SeaIn sb av sea w) (hm : w.heap.size ≤ m) : SeaIn sb (m :: av) sea w := by
  obtain ⟨a, c, hh, L⟩ := h.ex
  refine ⟨a, c, hh, (L.push (m := m) (.inr hm)).sub fun y hy => ?_⟩
  have hy' : y = sb ∨ y = m ∨ y ∈ av := by simpa using hy
  simp; rcases hy' with h | h | h <;> simp [h]
/-- How things stand in a call of the search: w: where it began; own variables bs. -/
def Sit (w : World) (sb : Nat) (av bs : List Nat) (sea : Sea) (W : World) : Prop := Chg (sb :: bs) w W ∧ SeaIn sb (bs ++ av) sea W
section
variable {w W W' : World} {sb : Nat} {av bs : List Nat} {sea : Sea}
theorem Sit.same (h : Sit w sb av bs sea W) (e1 : W'.os = W.os) (e2 : W'.tape = W.tape) (e3 : W'.output = W.output) (hs : W.heap.size ≤ W'.heap.size) (hk : ∀ k, k < W.heap.size → k ∉ bs → W'.heap[k]? = W.heap[k]?) (hsb : sb ∉ bs ++ av := by simp; omega) : Sit w sb av bs sea W' :=
  ⟨h.1.trans ⟨e1, e2, e3, hs, fun k h1 h2 => hk k h1 fun hm => h2 (List.mem_cons_of_mem _ hm)⟩, h.2.same hs (fun k h1 h2 => hk k h1 fun hm => h2 (List.mem_append_left _ hm)) hsb⟩
theorem Sit.step {S : List Nat} (h : Sit w sb av bs sea W) (hc : Chg S W W') (hS : ∀ y ∈ S, y ∈ bs ∨ W.heap.size ≤ y) (hsb : sb ∉ bs) (hsa : sb ∉ av) : Sit w sb av bs sea W' :=
  h.same hc.os hc.tape hc.output hc.size (fun k h1 h2 => hc.keep k h1 fun hm => by
    rcases hS k hm with h3 | h3
    · exact h2 h3
    · omega) (fun hm => by rcases List.mem_append.1 hm with h1 | h1; exact hsb h1; exact hsa h1)
theorem Sit.push {m : Nat} (h : Sit w sb av bs sea W) (hm : W.heap.size ≤ m) : Sit w sb av (m :: bs) sea W := ⟨h.1.mono fun y hy => .inl (by
  rcases List.mem_cons.1 hy with rfl | hy
  · exact List.mem_cons_self
  · exact List.mem_cons_of_mem _ (List.mem_cons_of_mem _ hy)), h.2.push hm⟩
theorem Sit.pop {m : Nat} (h : Sit w sb av (m :: bs) sea W) (hm : w.heap.size ≤ m) : Sit w sb av bs sea W := ⟨h.1.mono fun y hy => by
  rcases List.mem_cons.1 hy with rfl | hy
  · exact .inl List.mem_cons_self
  · rcases List.mem_cons.1 hy with rfl | hy
    · exact .inr hm
    · exact .inl (List.mem_cons_of_mem _ hy), h.2.sub fun y hy => List.mem_cons_of_mem _ hy⟩
end
def PostTry (sb : Nat) (av : List Nat) (sea : Sea) (w : World) (e : Ending) (w' : World) : Prop := e = .returned (.tuple #[]) ∧ Chg [sb] w w' ∧ SeaIn sb av sea w'
set_option maxRecDepth 100000 in
set_option maxHeartbeats 4000000 in
theorem try_any {r : Ru} {A : Adr} {wn : Wn} {S : List Sl} {w0 : World} {sb : Nat} (hR : RuIn r A.ra A.wa A.va S w0) (hO : RuOk r) (hB : w0.heap.size ≤ sb) : ∀ (k : Nat) (sea : Sea) (st : St) (l : List Int) (sea' : Sea) (la : Option Addr) (lc : Nat) (av : List Nat) (w : World),
    tryF r wn k sea st l = some sea' → l.length + k ≤ 900 → Below w0.heap.size w0 w → SeaIn sb av sea w → (∀ y ∈ av, y < w.heap.size) → sb ∉ av → Lies [sb] 0 w.heap.size w la (ints l) → l.length ≤ lc → (l = [] → la = none ∧ lc = 0) →
    Calls Tryz.prog 77 #[.pointer (some ⟨sb, 0, none⟩), .agg (wkC r A wn st).toArray, .slice la l.length lc] w (PostTry sb av sea' w) := by
  intro k
  induction k with
  | zero => intro sea st l sea' la lc av w h; simp [tryF] at h
  | succ k ih =>
  intro sea st l sea' la lc av w ht hlk hb0 hS hav hsa hL hlc hnil
  have hsb := hS.lt
  have z0 := hb0.size
  have hT := hO.t
  rw [tryF] at ht
  by_cases hok : okSt r st
  rotate_left
  · rw [if_neg hok] at ht; cases ht
  rw [if_pos hok] at ht
  have hB' := hok.b
  -- the steps, at any later world
  have lst : ∀ {bs : List Nat} (W : World), Chg (sb :: bs) w W → (∀ y ∈ bs, w.heap.size ≤ y) → Lies [sb] 0 w.heap.size W la (ints l) := fun {bs} W hc hbs i v hv => by
    obtain ⟨b, o, e, ⟨g1, g2, g3⟩, hcc⟩ := hL i v hv
    refine ⟨b, o, e, ⟨g1, g2, g3⟩, hc.cell (fun hm => ?_) hcc⟩
    rcases List.mem_cons.1 hm with rfl | hm
    · exact g1 (by simp)
    · have := hbs b hm; omega
  have bel : ∀ {bs : List Nat} (W : World), Chg (sb :: bs) w W → (∀ y ∈ bs, w.heap.size ≤ y) → Below w0.heap.size w0 W := fun {bs} W hc hbs => hb0.trans ⟨hc.os, hc.tape, hc.output, hc.size, fun k hk => hc.keep k (by omega) fun hm => by
    rcases List.mem_cons.1 hm with rfl | hm
    · omega
    · have := hbs k hm; omega⟩
  refine vc77 sb 0 _ _ _ _ _ _ _ _ _ _ _ _ _ _ _ _ _ _ _ _ _ _ _ w _ fun m1 g1 => ?_
  have Z0 : Sit w sb av [] sea w := ⟨Chg.refl _ _, hS⟩
  have Z1 : Sit w sb av [m1] sea w := Z0.push g1
  have fin : ∀ {s : Sea} {W : World}, Sit w sb av [m1] s W → PostTry sb av s w (.returned (.tuple #[])) W := fun h => ⟨rfl, h.1.mono fun y hy => by simp at hy ⊢; omega, h.2.sub (fun y hy => by simp [hy])⟩
  have kst : ∀ {s : Sea} {W W' : World}, Sit w sb av [m1] s W → Kept [m1] W W' → Sit w sb av [m1] s W' := fun h hk => h.step (Chg.kept hk) (fun y hy => .inl hy) (by simp; omega) hsa
  obtain ⟨a0, c0, hh0, _⟩ := hS.ex
  refine ⟨fun ls W => match ls with | [.bool t] => t = (if sea.found = true then decide (sea.minutes ≤ st.minutes) else false) ∧ Sit w sb av [m1] sea W | _ => False, ⟨sea.found, cell_obj (vs := [_, _, _, _]) hh0 rfl, .inl hsb, fun hf => ⟨sea.minutes, cell_obj (vs := [_, _, _, _]) hh0 rfl, .inl hsb, fun w2 hk2 _ => ⟨by rw [if_pos hf], kst Z1 hk2⟩⟩, fun hf w3 hk3 => ⟨by rw [if_neg (by simp [hf])], kst Z1 hk3⟩⟩, ?_⟩
  rintro t2 w4 ⟨rfl, S4⟩
  refine ⟨fun h w5 hk5 => ?_, fun h => ?_⟩
  · rw [if_pos h] at ht
    cases ht
    exact fin (kst S4 hk5)
  rw [if_neg (by simp [h])] at ht
  clear h
  obtain ⟨a4, c4, hh4, _⟩ := S4.2.ex
  have q4 := S4.1.size
  refine ⟨sea.goal, cell_obj (vs := [_, _, _, _]) hh4 rfl, .inl hsb, fun _ W => Sit w sb av [m1] (recF r wn sea st l) W, ⟨fun hw => ?_, fun hw w42 hk42 => ?_⟩, ?_⟩
  · intro w7 hk7 m5 w8 e5 e8 w9 hk9
    have q7 := hk7.size; have q9 := hk9.size
    have q8 : w8.heap.size = w7.heap.size + 1 := by rw [e8, alloc_size]
    have om1 := hk7.own m1 (by simp)
    have P7 : Sit w sb av [m5, m1] sea w7 := (kst S4 hk7).push (by omega)
    have hb8 : Below w7.heap.size w7 w8 := by rw [e8]; exact (Below.refl _ w7).alloc (Nat.le_refl _) _
    have P8 := P7.step (S := []) (Chg.of_below hb8) (by simp) (by simp; omega) hsa
    have P9 := P8.step (Chg.kept hk9) (fun y hy => .inl (by simp at hy ⊢; omega)) (by simp; omega) hsa
    have h8 : w8.heap[m5]? = some (.cells #[.slice none 0 0, .slice none 0 0, .slice none 0 0, I 0, I 0, .int .u16 0, I 0, I 0, I 0, I 0, I 0, I 0, I 0, I 0] 173 (0, 0)) := by rw [e8, e5]; exact World.alloc_heap_new w7 _
    have h9 : w9.heap[m5]? = some (.cells [.slice none 0 0, .slice none 0 0, .slice none 0 0, I 0, I 0, .int .u16 0, I 0, I 0, I 0, I 0, I 0, I 0, I 0, I 0].toArray 173 (0, 0)) := by rw [hk9.block m5 (by omega) (by simp; omega), h8]
    clear e8 h8
    refine obj_store (vs := wkC r A wn st) h9 (by kernel_rfl) (by kernel_rfl) (by simp) rfl (by simp; trivial) fun w10 hh10 c10 => ⟨c10.own (fun y hy => ⟨hk9.own y hy, by simp at hy ⊢; omega⟩) (by simp) (by simp), fun w11 hk11 => ?_⟩
    have h10 : WkIn m5 r A wn st w10 := by unfold WkIn; rw [hh10]; rfl
    have h11 := h10.out hk11.chg (by simp; omega)
    have q10 := c10.size; have q11 := hk11.size
    have P10 := P9.step c10 (fun y hy => .inl (by simp at hy ⊢; omega)) (by simp; omega) hsa
    have P11 := P10.step hk11.chg (fun y hy => .inl (by simp at hy ⊢; omega)) (by simp; omega) hsa
    refine (home_any h11 hB' hR hO (bel _ P11.1 (by simp; omega)) (by omega)).mono fun e w12 he => ?_
    obtain ⟨rfl, c12, h12⟩ := he
    have q12 := c12.size
    have P12 := P11.step c12 (fun y hy => .inl (by simp at hy ⊢; omega)) (by simp; omega) hsa
    obtain ⟨a12, cc12, hh12, _⟩ := P12.2.ex
    refine ⟨_, rfl, c12.own (fun y hy => ⟨by simp at hy; omega, by simp at hy ⊢; omega⟩) (by simp) (by simp), fun hz => ⟨sea.found, cell_obj (vs := [_, _, _, _]) hh12 rfl, .inl hsb, fun hf => ⟨fun _ W => Sit w sb av [m1] (recF r wn sea st l) W, fun w14 hk14 => ?_, fun w23 h23 w24 hk24 => kst h23 hk24⟩, fun hf => ⟨_, cell_obj h12 rfl, .inr (by omega), sea.minutes, cell_obj (vs := [_, _, _, _]) hh12 rfl, .inl hsb, fun _ W => Sit w sb av [m1] (recF r wn sea st l) W, ⟨fun hlt w26 hk26 => ?_, fun hge w35 hk35 => ?_⟩, fun w36 h36 w37 hk37 => kst h36 hk37⟩⟩, fun hz => ⟨fun _ W => Sit w sb av [m1] (recF r wn sea st l) W, fun w39 hk39 => ?_, fun w40 h40 w41 hk41 => kst h40 hk41⟩⟩
    · have HC : st.wound = sea.goal ∧ (homeF r wn st).2 = 0 ∧ (sea.found = false ∨ (homeF r wn st).1.minutes < sea.minutes) := ⟨hw, hz, .inl (by simpa using hf)⟩
      have q14 := hk14.size
      have P14 := P12.step hk14.chg (fun y hy => .inl (by simp at hy ⊢; omega)) (by simp; omega) hsa
      refine (clone_any (lst _ P14.1 (by simp; omega)).cells (by omega) hnil).mono fun e w15 he => ?_
      obtain ⟨aa, cc, rfl, hb15, L15⟩ := he
      have q15 := hb15.size
      refine ⟨_, _, _, rfl, hb15, _, cell_obj h12 rfl, .inr (by omega), fun w16 hk16 => ?_⟩
      have q16 := hk16.size
      have P16 : Sit w sb av [m5, m1] sea w16 := P12.same (W' := w16) (hk16.os.trans (hb15.os.trans hk14.os)) (hk16.tape.trans (hb15.tape.trans hk14.tape)) (hk16.output.trans (hb15.output.trans hk14.output)) (by omega) (fun k h1 h2 => by
        have hk1 : k ∉ [m1] := fun hm => h2 (by simp at hm ⊢; omega)
        rw [hk16.block k (by omega) hk1 ⟨_, List.mem_cons_self, Nat.zero_le _, h1⟩, hb15.block k (by omega), hk14.block k h1 hk1 ⟨_, List.mem_cons_self, Nat.zero_le _, h1⟩]) (by simp; exact ⟨by omega, by omega, hsa⟩)
      have L16 : Lies [] w14.heap.size w15.heap.size w16 aa (ints l) := ((L15.push (m := m1) (.inl (by omega))).kin hk16 ⟨_, List.mem_cons_of_mem _ List.mem_cons_self, Nat.le_refl _, Nat.le_refl _⟩).sub (by simp)
      obtain ⟨a0, c0, hh0, _⟩ := P16.2.ex
      refine obj_store (cs := [I sea.goal, .slice a0 sea.steps.length c0, I sea.minutes, .bool sea.found]) (vs := [.slice aa l.length cc]) hh0 (by kernel_rfl) (by kernel_rfl) (by simp) rfl (by simp; trivial) fun w17 hh17 c17 => ⟨c17.own (fun y hy => ⟨by simp at hy; omega, by simp at hy ⊢; omega⟩) (by simp) (by simp), fun w18 hk18 => ?_⟩
      have q17 := c17.size; have q18 := hk18.size
      have hh18 : w18.heap[sb]? = some (.cells [I sea.goal, .slice aa l.length cc, I sea.minutes, .bool sea.found].toArray 181 (0, 0)) := by rw [hk18.chg.keep sb (by omega) (by simp; omega), hh17]; rfl
      refine obj_store (vs := [I (homeF r wn st).1.minutes]) hh18 (by kernel_rfl) (by kernel_rfl) (by simp) rfl (by simp; trivial) fun w19 hh19 c19 => ⟨c19.own (fun y hy => ⟨by simp at hy; omega, by simp at hy ⊢; omega⟩) (by simp) (by simp), fun w20 hk20 => ?_⟩
      have q19 := c19.size; have q20 := hk20.size
      have hh20 : w20.heap[sb]? = some (.cells [I sea.goal, .slice aa l.length cc, I (homeF r wn st).1.minutes, .bool sea.found].toArray 181 (0, 0)) := by rw [hk20.chg.keep sb (by omega) (by simp; omega), hh19]; rfl
      refine obj_store (vs := [.bool true]) hh20 (by kernel_rfl) (by kernel_rfl) (by simp) rfl (by simp; trivial) fun w21 hh21 c21 => ⟨c21.own (fun y hy => ⟨by simp at hy; omega, by simp at hy ⊢; omega⟩) (by simp) (by simp), fun w22 hk22 => ?_⟩
      have q21 := c21.size; have q22 := hk22.size
      have call : Chg [sb, m1] w16 w22 := ((((c17.mono (T := [sb, m1]) (by simp)).trans (hk18.chg.mono (by simp))).trans (c19.mono (by simp))).trans (hk20.chg.mono (by simp))).trans ((c21.mono (by simp)).trans ((Chg.kept hk22).mono (by simp)))
      have hh22 : w22.heap[sb]? = some (.cells #[I sea.goal, .slice aa l.length cc, I (homeF r wn st).1.minutes, .bool true] 181 (0, 0)) := by rw [(Chg.kept hk22).keep sb (by omega) (by simp; omega), hh21]; rfl
      have e1 : recF r wn sea st l = ⟨sea.goal, l, (homeF r wn st).1.minutes, true⟩ := by
        unfold recF
        rw [if_pos HC]
      refine ⟨(P16.1.trans (call.mono (by simp))).mono fun y hy => by simp at hy ⊢; omega, ?_⟩
      rw [e1]
      refine ⟨_, _, hh22, ?_⟩
      refine (lies_push (bs := sb :: ([m1] ++ av)) (L16.out call (by simp; omega)) fun y hy => ?_).to (Nat.zero_le _) (by omega)
      have hy' : y = sb ∨ y = m1 ∨ y ∈ av := by simpa using hy
      rcases hy' with rfl | rfl | hy'
      · exact .inl (by omega)
      · exact .inl (by omega)
      · have := hav y hy'; exact .inl (by omega)
    · have HC : st.wound = sea.goal ∧ (homeF r wn st).2 = 0 ∧ (sea.found = false ∨ (homeF r wn st).1.minutes < sea.minutes) := ⟨hw, hz, .inr hlt⟩
      have q26 := hk26.size
      have P26 := P12.step hk26.chg (fun y hy => .inl (by simp at hy ⊢; omega)) (by simp; omega) hsa
      refine (clone_any (lst _ P26.1 (by simp; omega)).cells (by omega) hnil).mono fun e w27 he => ?_
      obtain ⟨aa, cc, rfl, hb27, L27⟩ := he
      have q27 := hb27.size
      refine ⟨_, _, _, rfl, hb27, _, cell_obj h12 rfl, .inr (by omega), fun w28 hk28 => ?_⟩
      have q28 := hk28.size
      have P28 : Sit w sb av [m5, m1] sea w28 := P12.same (W' := w28) (hk28.os.trans (hb27.os.trans hk26.os)) (hk28.tape.trans (hb27.tape.trans hk26.tape)) (hk28.output.trans (hb27.output.trans hk26.output)) (by omega) (fun k h1 h2 => by
        have hk1 : k ∉ [m1] := fun hm => h2 (by simp at hm ⊢; omega)
        rw [hk28.block k (by omega) hk1 ⟨_, List.mem_cons_self, Nat.zero_le _, h1⟩, hb27.block k (by omega), hk26.block k h1 hk1 ⟨_, List.mem_cons_self, Nat.zero_le _, h1⟩]) (by simp; exact ⟨by omega, by omega, hsa⟩)
      have L28 : Lies [] w26.heap.size w27.heap.size w28 aa (ints l) := ((L27.push (m := m1) (.inl (by omega))).kin hk28 ⟨_, List.mem_cons_of_mem _ List.mem_cons_self, Nat.le_refl _, Nat.le_refl _⟩).sub (by simp)
      obtain ⟨a0, c0, hh0, _⟩ := P28.2.ex
      refine obj_store (cs := [I sea.goal, .slice a0 sea.steps.length c0, I sea.minutes, .bool sea.found]) (vs := [.slice aa l.length cc]) hh0 (by kernel_rfl) (by kernel_rfl) (by simp) rfl (by simp; trivial) fun w29 hh29 c29 => ⟨c29.own (fun y hy => ⟨by simp at hy; omega, by simp at hy ⊢; omega⟩) (by simp) (by simp), fun w30 hk30 => ?_⟩
      have q29 := c29.size; have q30 := hk30.size
      have hh30 : w30.heap[sb]? = some (.cells [I sea.goal, .slice aa l.length cc, I sea.minutes, .bool sea.found].toArray 181 (0, 0)) := by rw [hk30.chg.keep sb (by omega) (by simp; omega), hh29]; rfl
      refine obj_store (vs := [I (homeF r wn st).1.minutes]) hh30 (by kernel_rfl) (by kernel_rfl) (by simp) rfl (by simp; trivial) fun w31 hh31 c31 => ⟨c31.own (fun y hy => ⟨by simp at hy; omega, by simp at hy ⊢; omega⟩) (by simp) (by simp), fun w32 hk32 => ?_⟩
      have q31 := c31.size; have q32 := hk32.size
      have hh32 : w32.heap[sb]? = some (.cells [I sea.goal, .slice aa l.length cc, I (homeF r wn st).1.minutes, .bool sea.found].toArray 181 (0, 0)) := by rw [hk32.chg.keep sb (by omega) (by simp; omega), hh31]; rfl
      refine obj_store (vs := [.bool true]) hh32 (by kernel_rfl) (by kernel_rfl) (by simp) rfl (by simp; trivial) fun w33 hh33 c33 => ⟨c33.own (fun y hy => ⟨by simp at hy; omega, by simp at hy ⊢; omega⟩) (by simp) (by simp), fun w34 hk34 => ?_⟩
      have q33 := c33.size; have q34 := hk34.size
      have call : Chg [sb, m1] w28 w34 := ((((c29.mono (T := [sb, m1]) (by simp)).trans (hk30.chg.mono (by simp))).trans (c31.mono (by simp))).trans (hk32.chg.mono (by simp))).trans ((c33.mono (by simp)).trans ((Chg.kept hk34).mono (by simp)))
      have hh34 : w34.heap[sb]? = some (.cells #[I sea.goal, .slice aa l.length cc, I (homeF r wn st).1.minutes, .bool true] 181 (0, 0)) := by rw [(Chg.kept hk34).keep sb (by omega) (by simp; omega), hh33]; rfl
      have e1 : recF r wn sea st l = ⟨sea.goal, l, (homeF r wn st).1.minutes, true⟩ := by
        unfold recF
        rw [if_pos HC]
      refine ⟨(P28.1.trans (call.mono (by simp))).mono fun y hy => by simp at hy ⊢; omega, ?_⟩
      rw [e1]
      refine ⟨_, _, hh34, ?_⟩
      refine (lies_push (bs := sb :: ([m1] ++ av)) (L28.out call (by simp; omega)) fun y hy => ?_).to (Nat.zero_le _) (by omega)
      have hy' : y = sb ∨ y = m1 ∨ y ∈ av := by simpa using hy
      rcases hy' with rfl | rfl | hy'
      · exact .inl (by omega)
      · exact .inl (by omega)
      · have := hav y hy'; exact .inl (by omega)
    · have e1 : recF r wn sea st l = sea := by
        unfold recF
        rw [if_neg]
        rintro ⟨_, _, h | h⟩
        · rw [h] at hf; cases hf
        · have hge : sea.minutes ≤ (homeF r wn st).1.minutes := hge
          omega
      show Sit w sb av [m1] (recF r wn sea st l) w35
      rw [e1]
      exact (P12.step (Chg.kept hk35) (fun y hy => .inl (by simp at hy ⊢; omega)) (by simp; omega) hsa).pop (by omega)
    · have e1 : recF r wn sea st l = sea := by
        unfold recF
        rw [if_neg]
        rintro ⟨_, h, _⟩
        exact hz h
      show Sit w sb av [m1] (recF r wn sea st l) w39
      rw [e1]
      exact (P12.step (Chg.kept hk39) (fun y hy => .inl (by simp at hy ⊢; omega)) (by simp; omega) hsa).pop (by omega)
  · have e1 : recF r wn sea st l = sea := by
      unfold recF
      rw [if_neg]
      rintro ⟨h, _⟩
      exact hw h
    show Sit w sb av [m1] (recF r wn sea st l) w42
    rw [e1]
    exact kst S4 hk42
  intro w43 S43
  generalize recF r wn sea st l = sea1 at S43 ht
  clear S4 Z1 Z0 hh0 hh4
  refine ⟨fun ls W => match ls with | [.bool t] => t = restedF l ∧ Sit w sb av [m1] sea1 W | _ => False, ⟨fun hp => ?_, fun hp w46 hk46 => ⟨by unfold restedF; rw [if_neg (by omega)], kst S43 hk46⟩⟩, ?_⟩
  · have hp : 0 < l.length := by omega
    obtain ⟨b1, o1, e1, ⟨_, _, lb⟩, hv⟩ := lst _ S43.1 (by simp; omega) (l.length - 1) _ (ints_get (getElem_of_lt (show l.length - 1 < l.length by omega)))
    refine ⟨by omega, b1, o1, e1, by omega, _, cell_at' hv (by omega), .inl lb, fun w45 hk45 => ⟨?_, kst S43 hk45⟩⟩
    unfold restedF
    rw [if_pos hp]
    simp [List.getD_eq_getElem?_getD, getElem_of_lt (show l.length - 1 < l.length by omega)]
  rintro t4 w47 ⟨rfl, S47⟩
  refine ⟨fun ls W => match ls with | [.int _ x] => (-1 ≤ x ∧ x ≤ r.T.length) ∧ ∃ s, loopF (fun s n => if skipF s.goal st.wound (restedF l) n = true then some s else if (stepF r wn st n).2 = 0 then tryF r wn k s (stepF r wn st n).1 (l ++ [n]) else some s) ((r.T.length : Int) - x).toNat x s = some sea' ∧ Sit w sb av [m1] s W | _ => False, fun ls => match ls with | [.int _ x] => ((r.T.length : Int) - x).toNat | _ => 0, fun w49 hk49 => ⟨by omega, sea1, ?_, kst S47 hk49⟩, ?_⟩
  · rw [show ((r.T.length : Int) - (-1)).toNat = r.T.length + 1 by omega]; exact ht
  clear S43 S47 ht
  rintro x w50 ⟨hx, s, hs, S50⟩
  refine ⟨fun hlt => ?_, fun hge w86 hk86 => ?_⟩
  rotate_left
  · rw [show ((r.T.length : Int) - x).toNat = 0 by omega] at hs
    simp only [loopF, Option.some.injEq] at hs
    subst hs
    exact fin (kst S50 hk86)
  rw [show ((r.T.length : Int) - x).toNat = ((r.T.length : Int) - (x + 1)).toNat + 1 by omega] at hs
  simp only [loopF] at hs
  obtain ⟨s2, hb, hs⟩ := Option.bind_eq_some_iff.1 hs
  obtain ⟨a50, c50, hh50, _⟩ := S50.2.ex
  have q50 := S50.1.size
  refine ⟨fun _ W => Sit w sb av [m1] s2 W, ⟨fun ls W => match ls with | [.bool t] => t = skipF s.goal st.wound (restedF l) x ∧ Sit w sb av [m1] s W | _ => False, ⟨fun hx1 => ⟨fun h4 w53 hk53 => ⟨?_, kst S50 hk53⟩, fun h4 => ⟨fun h => absurd hx1 h, fun _ w60 hk60 => ⟨?_, kst S50 hk60⟩⟩⟩, fun hx1 => ⟨fun _ => ⟨s.goal, cell_obj (vs := [_, _, _, _]) hh50 rfl, .inl hsb, fun w61 hk61 => ?_⟩, fun h => absurd h hx1⟩⟩, ?_⟩, fun w84 S84 => ⟨by omega, fun w85 hk85 => ⟨⟨by omega, s2, hs, kst S84 hk85⟩, ?_⟩⟩⟩
  · unfold skipF; rw [if_pos hx1, h4]
  · unfold skipF; rw [if_pos hx1, h4]
  · refine Pure.calls (has_any (by omega)) fun w62 hd62 => ⟨_, rfl, .all hd62, fun h5 w63 hk63 => ⟨?_, ?_⟩, fun h5 w64 hk64 => ?_⟩
    · have h5 : hasF s.goal x = false := by simpa using h5
      unfold skipF; rw [if_neg hx1, if_pos h5]
    · exact kst ((kst S50 hk61).step (S := []) (Chg.of_below hd62) (by simp) (by simp; omega) hsa) hk63
    · have h5 : hasF s.goal x = true := by simpa using h5
      have S64 := kst ((kst S50 hk61).step (S := []) (Chg.of_below hd62) (by simp) (by simp; omega) hsa) hk64
      refine Pure.calls (has_any (by omega)) fun w65 hd65 => ⟨_, rfl, .all hd65, fun w66 hk66 _ => ⟨?_, kst (S64.step (S := []) (Chg.of_below hd65) (by simp) (by simp; omega) hsa) hk66⟩⟩
      unfold skipF; rw [if_neg hx1, if_neg (by simp [h5])]
  · rintro t9 w68 ⟨rfl, S68⟩
    refine ⟨fun h9 w69 hk69 => ?_, fun h9 w70 hk70 m26 w71 e26 e71 w72 hk72 => ?_⟩
    · rw [if_pos h9] at hb
      cases hb
      exact kst S68 hk69
    rw [if_neg (by simp [h9])] at hb
    have q68 := S68.1.size; have q70 := hk70.size; have q72 := hk72.size
    have q71 : w71.heap.size = w70.heap.size + 1 := by rw [e71, alloc_size]
    have om1 := hk70.own m1 (by simp)
    have P70 : Sit w sb av [m26, m1] s w70 := (kst S68 hk70).push (by omega)
    have hb71 : Below w70.heap.size w70 w71 := by rw [e71]; exact (Below.refl _ w70).alloc (Nat.le_refl _) _
    have P71 := P70.step (S := []) (Chg.of_below hb71) (by simp) (by simp; omega) hsa
    have P72 := P71.step (Chg.kept hk72) (fun y hy => .inl (by simp at hy ⊢; omega)) (by simp; omega) hsa
    have h71 : w71.heap[m26]? = some (.cells #[.slice none 0 0, .slice none 0 0, .slice none 0 0, I 0, I 0, .int .u16 0, I 0, I 0, I 0, I 0, I 0, I 0, I 0, I 0] 173 (0, 0)) := by rw [e71, e26]; exact World.alloc_heap_new w70 _
    have h72 : w72.heap[m26]? = some (.cells [.slice none 0 0, .slice none 0 0, .slice none 0 0, I 0, I 0, .int .u16 0, I 0, I 0, I 0, I 0, I 0, I 0, I 0, I 0].toArray 173 (0, 0)) := by rw [hk72.block m26 (by omega) (by simp; omega), h71]
    clear e71 h71
    refine obj_store (vs := wkC r A wn st) h72 (by kernel_rfl) (by kernel_rfl) (by simp) rfl (by simp; trivial) fun w73 hh73 c73 => ⟨c73.own (fun y hy => ⟨hk72.own y hy, by simp at hy ⊢; omega⟩) (by simp) (by simp), fun w74 hk74 => ?_⟩
    have h73 : WkIn m26 r A wn st w73 := by unfold WkIn; rw [hh73]; rfl
    have h74 := h73.out (Chg.kept hk74) (by simp; omega)
    have q73 := c73.size; have q74 := hk74.size
    have P73 := P72.step c73 (fun y hy => .inl (by simp at hy ⊢; omega)) (by simp; omega) hsa
    have P74 := P73.step (Chg.kept hk74) (fun y hy => .inl (by simp at hy ⊢; omega)) (by simp; omega) hsa
    refine (step_any (n := x) h74 hB' hR hO (bel _ P74.1 (by simp; omega)) (by omega)).mono fun e w75 he => ?_
    obtain ⟨rfl, c75, h75⟩ := he
    have q75 := c75.size
    have P75 := P74.step c75 (fun y hy => .inl (by simp at hy ⊢; omega)) (by simp; omega) hsa
    refine ⟨_, rfl, c75.own (fun y hy => ⟨by simp at hy; omega, by simp at hy ⊢; omega⟩) (by simp) (by simp), fun hz w76 hk76 => ?_, fun hz w83 hk83 => ?_⟩
    rotate_left
    · rw [if_neg hz] at hb
      cases hb
      exact (P75.step (Chg.kept hk83) (fun y hy => .inl (by simp at hy ⊢; omega)) (by simp; omega) hsa).pop (by omega)
    rw [if_pos hz] at hb
    have q76 := hk76.size
    refine (clip_any (a := la) hlc).mono fun e w77 he => ?_
    obtain ⟨rfl, hb77⟩ := he
    have q77 := hb77.size
    refine ⟨_, _, _, rfl, hb77, fun m31 g31 g31' w78 hk78 hc78 => ?_⟩
    have q78 := hk78.size
    have om31 := hk78.own m31 (by simp)
    have P78 : Sit w sb av [m31, m26, m1] s w78 := (P75.push (m := m31) g31).same (hk78.os.trans (hb77.os.trans hk76.os)) (hk78.tape.trans (hb77.tape.trans hk76.tape)) (hk78.output.trans (hb77.output.trans hk76.output)) (by omega) (fun j h1 h2 => by
      have hj1 : j ∉ [m31, m1] := fun hm => h2 (by simp at hm ⊢; omega)
      have hj2 : j ∉ [m1] := fun hm => h2 (by simp at hm ⊢; omega)
      rw [hk78.block j (by omega) hj1 ⟨_, List.mem_cons_self, Nat.zero_le _, h1⟩, hb77.block j (by omega), hk76.block j h1 hj2 ⟨_, List.mem_cons_self, Nat.zero_le _, h1⟩]) (by simp; exact ⟨by omega, by omega, by omega, hsa⟩)
    refine append_clip (lst _ P78.1 (by simp; omega)).cells (by omega) (fun h => (hnil h).1) hc78 fun a79 c79 w79 hb79 L79 hc79 => ?_
    have q79 := hb79.size
    refine ⟨_, _, _, rfl, hb79, _, _, _, _, _, _, _, _, _, _, _, _, _, _, _, _, _, _, _, _, cell_obj h75 rfl, cell_obj h75 rfl, cell_obj h75 rfl, cell_obj h75 rfl, cell_obj h75 rfl, cell_obj h75 rfl, cell_obj h75 rfl, cell_obj h75 rfl, cell_obj h75 rfl, cell_obj h75 rfl, cell_obj h75 rfl, cell_obj h75 rfl, cell_obj h75 rfl, cell_obj h75 rfl, .inr (by omega), fun w80 hk80 => ?_⟩
    have q80 := hk80.size
    have P80 : Sit w sb av [m31, m26, m1] s w80 := (P75.push (m := m31) g31).same (hk80.os.trans (hb79.os.trans (hk78.os.trans (hb77.os.trans hk76.os)))) (hk80.tape.trans (hb79.tape.trans (hk78.tape.trans (hb77.tape.trans hk76.tape)))) (hk80.output.trans (hb79.output.trans (hk78.output.trans (hb77.output.trans hk76.output)))) (by omega) (fun j h1 h2 => by
      have hj1 : j ∉ [m31, m1] := fun hm => h2 (by simp at hm ⊢; omega)
      have hj2 : j ∉ [m1] := fun hm => h2 (by simp at hm ⊢; omega)
      rw [hk80.block j (by omega) hj1 ⟨_, List.mem_cons_self, Nat.zero_le _, h1⟩, hb79.block j (by omega), hk78.block j (by omega) hj1 ⟨_, List.mem_cons_self, Nat.zero_le _, h1⟩, hb77.block j (by omega), hk76.block j h1 hj2 ⟨_, List.mem_cons_self, Nat.zero_le _, h1⟩]) (by simp; exact ⟨by omega, by omega, by omega, hsa⟩)
    have L80 : Lies [sb] 0 w80.heap.size w80 a79 (ints (l ++ [x])) := (((L79.push (m := m1) (.inl (by omega))).push (m := m31) (.inl (by omega))).kin hk80 ⟨_, List.mem_cons_of_mem _ List.mem_cons_self, Nat.le_refl _, Nat.le_refl _⟩).sub (cs := []) (by simp) |> fun h => (lies_push (bs := [sb]) h (by simp; omega)).to (Nat.zero_le _) q80
    have P80' : Sit w sb av [m31, m1] s w80 := ⟨P80.1.mono fun y hy => by simp at hy ⊢; omega, P80.2.sub (fun y hy => by simp at hy ⊢; rcases hy with h | h | h <;> simp [h])⟩
    have key := ih s (stepF r wn st x).1 (l ++ [x]) s2 a79 c79 ([m31, m1] ++ av) w80 hb (by simp; omega) (bel _ P80'.1 (by simp; omega)) P80'.2 (fun y hy => by
      have hy' : y = m31 ∨ y = m1 ∨ y ∈ av := by simpa using hy
      rcases hy' with rfl | rfl | hy'
      · omega
      · omega
      · have := hav y hy'; omega) (by simp; exact ⟨by omega, by omega, hsa⟩) L80 (by simpa using hc79) (by simp)
    rw [List.length_append] at key
    refine key.mono fun e w81 he => ?_
    obtain ⟨rfl, c81, h81⟩ := he
    refine ⟨rfl, c81.own (fun y hy => ⟨by simp at hy; omega, by simp at hy ⊢; omega⟩) (by simp) (by simp), fun w82 hk82 _ => ?_⟩
    have P81 : Sit w sb av [m31, m1] s2 w81 := ⟨P80'.1.trans (c81.mono (by simp)), h81⟩
    exact (P81.step (Chg.kept hk82) (fun y hy => .inl hy) (by simp; omega) hsa).pop (by omega)
  · show ((r.T.length : Int) - (x + 1)).toNat < ((r.T.length : Int) - x).toNat
    omega
end Go.Proofs.RT
end
section
/- Walks and the example calls of round. -/
namespace Go.Proofs.RT
open Go.Vc Go.RowKit Go.Proofs
abbrev startSt (r : Ru) : St := ⟨r.T.length, 0, 0, 0, 0⟩
section
variable {w : World} {r : Ru} {ra wa va : Option Addr} {rc wc vc : Nat} {S : List Sl}
theorem isNumber_any {n : Int} (hr : RuOk r) : Calls Tryz.prog 72 #[ruV r ra rc wa wc va vc, I n] w (Pure w (.bool (decide (0 ≤ n ∧ n ≤ (r.V.length : Int) - 1)))) := by
  have := hr.v
  exact vc72 _ _ _ _ _ _ _ _ _ _ _ _ w _ fun m1 _ => ⟨by omega, fun m2 _ w1 _ _ hc1 => Pure.calls (inR_any hc1) fun w2 hd2 => ⟨_, rfl, .all hd2, fun w3 hb3 _ => ⟨rfl, hb3⟩⟩⟩
theorem start_any {n : Nat} (h : RuIn r ra wa va S w) (hn : n < r.V.length) : Calls Tryz.prog 73 #[ruV r ra rc wa wc va vc, I n] w (Pure w (.agg (wkC r ⟨ra, rc, wa, wc, va, vc⟩ r.V[n] (startSt r)).toArray)) := by
  obtain ⟨b, o, e, lb, hv⟩ := flat_at (k := 4) (fun _ => rfl) (by omega) h.v hn
  refine vc73 _ _ _ _ _ _ _ _ _ _ _ _ w _ fun m1 _ m2 _ w1 _ _ => Pure.calls works_any fun w2 hd2 => ⟨_, rfl, hd2, b, o, e, by omega, _, _, _, _, cell_at' (hv 0 _ rfl) (by omega), cell_at' (hv 1 _ rfl) (by omega), cell_at' (hv 2 _ rfl) (by omega), cell_at' (hv 3 _ rfl) (by omega), .inl lb, fun w3 hb3 _ => ⟨rfl, hb3⟩⟩
def stK (r : Ru) (wn : Wn) (l : List Int) (k : Nat) : St := (l.take k).foldl (fun s n => (stepF r wn s n).1) (startSt r)
theorem stK_step {wn : Wn} {l : List Int} {k : Nat} (h : k < l.length) : stK r wn l (k + 1) = (stepF r wn (stK r wn l k) l[k]).1 := by
  unfold stK
  rw [List.take_add_one, getElem_of_lt h, Option.toList, List.foldl_append]
  rfl
set_option maxRecDepth 100000 in
set_option maxHeartbeats 1000000 in
theorem Walk_ok {n : Nat} {l : List Int} {la : Option Addr} {lc : Nat} (h : RuIn r ra wa va S w) (hr : RuOk r) (hn : n < r.V.length) (hL : Cells w la (ints l)) (hl : l.length ≤ 40)
    (hst : ∀ k, (hk : k < l.length) → (stepF r r.V[n] (stK r r.V[n] l k) l[k]).2 = 0) (hB : ∀ k, k ≤ l.length → StB r (stK r r.V[n] l k)) (hh : (homeF r r.V[n] (stK r r.V[n] l l.length)).2 = 0)
    (hm : 0 ≤ (homeF r r.V[n] (stK r r.V[n] l l.length)).1.minutes * r.wage ∧ (homeF r r.V[n] (stK r r.V[n] l l.length)).1.minutes * r.wage ≤ 9223372036854775807) :
    Calls Tryz.prog 33 #[ruV r ra rc wa wc va vc, .agg #[I n, .slice la l.length lc]] w (Pure w (.tuple #[I (homeF r r.V[n] (stK r r.V[n] l l.length)).1.minutes, I ((homeF r r.V[n] (stK r r.V[n] l l.length)).1.minutes * r.wage), I 0, I 0])) := by
  refine vc33 _ _ _ _ _ _ _ _ _ _ _ _ _ _ _ w _ fun m1 g1 m2 g2 w1 hb1 hk1 => ?_
  have o1 := hk1.own m1 (by simp); have o2 := hk1.own m2 (by simp)
  refine Pure.calls (Check_ok (h.keep hb1) hr) fun w2 hd2 => ⟨_, rfl, .all hd2, fun h => absurd rfl h, fun _ w4 hb4 hk4 => ?_⟩
  refine Pure.calls (isNumber_any hr) fun w5 hd5 => ⟨_, rfl, .all hd5, fun h => ?_, fun _ => ⟨fun h => by omega, fun _ w8 hb8 hk8 => ?_⟩⟩
  · rw [decide_eq_true (show (0 : Int) ≤ n ∧ (n : Int) ≤ (r.V.length : Int) - 1 by omega)] at h; cases h
  refine Pure.calls (start_any (h.keep hb8) hn) fun w9 hd9 => ⟨_, _, _, _, _, _, _, _, _, _, _, _, _, _, _, _, _, _, _, _, rfl, .all hd9, fun w10 hb10 hk10 m12 w11 e12 e11 w12 hb12 hk12 => ?_⟩
  have q1 := hb1.size; have q10 := hb10.size; have q12 := hk12.size
  have q11 : w11.heap.size = w10.heap.size + 1 := by rw [e11, alloc_size]
  have h11 : w11.heap[m12]? = some (.cells #[.slice none 0 0, .slice none 0 0, .slice none 0 0, I 0, I 0, .int .u16 0, I 0, I 0, I 0, I 0, I 0, I 0, I 0, I 0] 173 (0, 0)) := by rw [e11, e12]; exact World.alloc_heap_new w10 _
  have p2 := hd2.size; have p4 := hk4.size; have p5 := hd5.size; have p8 := hk8.size; have p9 := hd9.size; have p10 := hk10.size
  have h12 : w12.heap[m12]? = some (.cells [.slice none 0 0, .slice none 0 0, .slice none 0 0, I 0, I 0, .int .u16 0, I 0, I 0, I 0, I 0, I 0, I 0, I 0, I 0].toArray 173 (0, 0)) := by rw [hk12.block m12 (by omega) (by simp; omega), h11]
  clear e11 h11
  refine obj_store (vs := wkC r ⟨ra, rc, wa, wc, va, vc⟩ r.V[n] (startSt r)) h12 (by kernel_rfl) (by kernel_rfl) (by simp) rfl (by simp; trivial) fun w13 hh13 c13 => ?_
  have K13 : WkIn m12 r ⟨ra, rc, wa, wc, va, vc⟩ r.V[n] (startSt r) w13 := by unfold WkIn; rw [hh13]; rfl
  refine ⟨c13.own (fun y hy => ⟨hk12.own y hy, by simp at hy ⊢; omega⟩) (by simp) (fun _ => ⟨by omega, by simp; omega⟩), fun ls w' => match ls with | [_, _, _, _, .int _ x] => (0 ≤ x ∧ x ≤ l.length) ∧ WkIn m12 r ⟨ra, rc, wa, wc, va, vc⟩ r.V[n] (stK r r.V[n] l x.toNat) w' | _ => False, fun ls => match ls with | [_, _, _, _, .int _ x] => (l.length - x).toNat | _ => 0, fun w15 hb15 hk15 => ⟨by omega, K13.out (Chg.kept hk15) (by simp; omega)⟩, ?_⟩
  rintro x13 x14 x15 x16 x w16 hb16 ⟨hx, K16⟩
  refine ⟨fun hlt => ?_, fun hge w21 hb21 hk21 => ?_⟩
  · have hi : x.toNat < l.length := by omega
    obtain ⟨b1, o1', e1, hv⟩ := hL x.toNat _ (ints_get (getElem_of_lt hi))
    refine ⟨b1, o1', e1, by omega, _, cell_at' (cell_keep hb16 hv) (by omega), .inl (cell_lt hv), fun w17 hb17 hk17 => ?_⟩
    have K17 := K16.out (Chg.kept hk17) (by simp; omega)
    refine (step_any (n := l[x.toNat]) (S := S) (w0 := w) K17 (hB _ (by omega)) h hr hb17 (by omega)).mono fun e w18 he => ?_
    obtain ⟨rfl, c18, K18⟩ := he
    have q17 := hb17.size
    have l17 := lt_of_some K17
    refine ⟨_, rfl, c18.own (fun y hy => ⟨hk17.own y hy, by simp at hy ⊢; omega⟩) (by simp) (fun _ => ⟨by omega, by simp; omega⟩), fun hne => absurd (hst _ hi) hne, fun _ => ⟨by omega, fun w20 hb20 hk20 => ⟨⟨by omega, ?_⟩, ?_⟩⟩⟩
    · rw [show (x + 1).toNat = x.toNat + 1 by omega, stK_step hi]
      exact K18.out (Chg.kept hk20) (by simp; omega)
    · show (l.length - (x + 1)).toNat < (l.length - x).toNat
      omega
  · have e : x.toNat = l.length := by omega
    rw [e] at K16
    have K21 := K16.out (Chg.kept hk21) (by simp; omega)
    refine (home_any (S := S) (w0 := w) K21 (hB _ (Nat.le_refl _)) h hr hb21 (by omega)).mono fun e w22 he => ?_
    obtain ⟨rfl, c22, K22⟩ := he
    have q21 := hb21.size
    have l21 := lt_of_some K21
    refine ⟨_, rfl, c22.own (fun y hy => ⟨hk21.own y hy, by simp at hy ⊢; omega⟩) (by simp) (fun _ => ⟨by omega, by simp; omega⟩), fun hne => absurd hh hne, fun _ => ⟨_, cell_obj K22 rfl, .inr (by omega), _, cell_obj K22 rfl, .inr (by omega), by omega, fun w24 hb24 _ => ⟨rfl, hb24⟩⟩⟩
theorem checkTowers_one {t : Int} {la : Option Addr} {lc : Nat} (hL : Cells w la (ints [t])) (hr : RuOk r) (ht : 0 ≤ t ∧ t < r.T.length) (h0 : hasF 0 t = false) : Calls Tryz.prog 76 #[ruV r ra rc wa wc va vc, .slice la 1 lc] w (Pure w (.tuple #[I (withF 0 t), I 0])) := by
  have hT := hr.t
  refine vc76 _ _ _ _ _ _ _ _ _ _ _ _ _ _ w _ fun m1 _ => ⟨fun h => by omega, fun _ => ⟨by omega, fun w2 hb2 _ => ?_⟩⟩
  refine Pure.calls (withinR_any (l := [t]) (hL.keep hb2) (by simp)) fun w3 hd3 => ⟨_, rfl, .all hd3, fun h => ?_, fun _ => ?_⟩
  · rw [List.all_eq_true.2 fun y hy => by rw [List.mem_singleton.1 hy]; exact decide_eq_true (by omega)] at h; cases h
  refine ⟨fun ls _ => match ls with | [.int _ s, _, .int _ x] => (x = 0 ∧ s = 0) ∨ (x = 1 ∧ s = withF 0 t) | _ => False, fun ls => match ls with | [_, _, .int _ x] => (1 - x).toNat | _ => 0, fun w6 _ _ => .inl ⟨rfl, rfl⟩, ?_⟩
  rintro x1 x2 x3 w7 hb7 hI
  refine ⟨fun hlt => ?_, fun hge w14 hb14 _ => ?_⟩
  · rcases hI with ⟨rfl, rfl⟩ | ⟨rfl, _⟩
    rotate_left
    · simp at hlt
    obtain ⟨b1, o1, e1, hv⟩ := hL 0 _ rfl
    refine ⟨b1, o1, e1, by decide, t, cell_at' (cell_keep hb7 hv) (by simp), .inl (cell_lt hv), fun w8 hb8 _ => ?_⟩
    refine Pure.calls (has_any ht.1) fun w9 hd9 => ⟨_, rfl, .all hd9, fun h => ?_, fun _ w11 hb11 _ => ?_⟩
    · rw [h0] at h; cases h
    refine Pure.calls (with_any ht.1) fun w12 hd12 => ⟨_, rfl, .all hd12, by omega, fun w13 _ _ => ⟨.inr ⟨rfl, rfl⟩, by show (1 - ((0 : Int) + 1)).toNat < (1 - (0 : Int)).toNat; decide⟩⟩
  · rcases hI with ⟨rfl, _⟩ | ⟨rfl, rfl⟩
    · simp at hge
    exact ⟨rfl, hb14⟩
set_option maxRecDepth 100000 in
set_option maxHeartbeats 1000000 in
theorem Best_ok {n : Nat} {t : Int} {la : Option Addr} {lc k : Nat} {sea' : Sea} {av : List Nat} (h : RuIn r ra wa va S w) (hr : RuOk r) (hn : n < r.V.length) (hL : Cells w la (ints [t])) (ht : 0 ≤ t ∧ t < r.T.length) (h0 : hasF 0 t = false)
    (htry : tryF r r.V[n] k ⟨withF 0 t, [], 0, false⟩ (startSt r) [] = some sea') (hf : sea'.found = true) (hk : k ≤ 900) (hav : ∀ y ∈ av, y < w.heap.size) :
    Calls Tryz.prog 35 #[ruV r ra rc wa wc va vc, I n, .slice la 1 lc] w fun e w' => ∃ a c, e = .returned (.tuple #[.slice a sea'.steps.length c, I sea'.minutes, I 0]) ∧ Below w.heap.size w w' ∧ Lies av 0 w'.heap.size w' a (ints sea'.steps) := by
  refine vc35 _ _ _ _ _ _ _ _ _ _ _ _ _ _ _ w _ fun m1 g1 w1 hb1 hk1 => ?_
  have o1 := hk1.own m1 (by simp)
  refine Pure.calls (Check_ok (h.keep hb1) hr) fun w2 hd2 => ⟨_, rfl, .all hd2, fun h => absurd rfl h, fun _ w4 hb4 hk4 => ?_⟩
  refine Pure.calls (isNumber_any hr) fun w5 hd5 => ⟨_, rfl, .all hd5, fun h => ?_, fun _ w7 hb7 hk7 => ?_⟩
  · rw [decide_eq_true (show (0 : Int) ≤ n ∧ (n : Int) ≤ (r.V.length : Int) - 1 by omega)] at h; cases h
  refine Pure.calls (checkTowers_one (hL.keep hb7) hr ht h0) fun w8 hd8 => ⟨_, _, rfl, .all hd8, fun h => absurd rfl h, fun _ w10 hb10 hk10 m5 w11 e5 e11 w12 hb12 hk12 => ?_⟩
  have q1 := hb1.size; have p2 := hd2.size; have p4 := hk4.size; have p5 := hd5.size; have p7 := hk7.size; have p8 := hd8.size; have p10 := hk10.size; have p12 := hk12.size
  have q11 : w11.heap.size = w10.heap.size + 1 := by rw [e11, alloc_size]
  have h11 : w11.heap[m5]? = some (.cells #[I (withF 0 t), .slice none 0 0, I 0, .bool false] 181 (0, 0)) := by rw [e11, e5]; exact World.alloc_heap_new w10 _
  clear e11
  have h12 : w12.heap[m5]? = some (.cells #[I (withF 0 t), .slice none 0 0, I 0, .bool false] 181 (0, 0)) := by rw [hk12.block m5 (by omega) (by simp; omega), h11]
  refine Pure.calls (start_any (h.keep hb12) hn) fun w13 hd13 => ⟨_, _, _, _, _, _, _, _, _, _, _, _, _, _, _, _, _, _, _, _, rfl, .all hd13, fun w14 hb14 hk14 => ?_⟩
  have p13 := hd13.size; have p14 := hk14.size
  have h14 : w14.heap[m5]? = some (.cells #[I (withF 0 t), .slice none 0 0, I 0, .bool false] 181 (0, 0)) := by rw [hk14.block m5 (by omega) (by simp; omega), hd13.block m5 (by omega), h12]
  have hS14 : SeaIn m5 (m1 :: av) ⟨withF 0 t, [], 0, false⟩ w14 := ⟨none, 0, h14, fun i v hv => by simp [ints] at hv⟩
  have hav14 : ∀ y ∈ m1 :: av, y < w14.heap.size := fun y hy => by
    rcases List.mem_cons.1 hy with rfl | hy
    · omega
    · have := hav y hy; omega
  have hn5 : m5 ∉ m1 :: av := fun hm => by
    rcases List.mem_cons.1 hm with hm | hm
    · omega
    · have := hav m5 hm; omega
  refine (try_any (A := ⟨ra, rc, wa, wc, va, vc⟩) (w0 := w) (S := S) h hr (by omega) k ⟨withF 0 t, [], 0, false⟩ (startSt r) [] sea' none 0 (m1 :: av) w14 htry (by simpa using hk) hb14 hS14 hav14 hn5 (fun i v hv => by simp [ints] at hv) (Nat.zero_le _) (fun _ => ⟨rfl, rfl⟩)).mono fun e w15 he => ?_
  obtain ⟨rfl, c15, hS15⟩ := he
  obtain ⟨a15, cc15, hh15, L15⟩ := hS15.ex
  have p15 := c15.size
  refine ⟨rfl, c15.own (fun y hy => ⟨hk14.own y hy, by simp at hy ⊢; omega⟩) (by simp) (fun _ => ⟨by omega, by simp; omega⟩), _, cell_obj (vs := [_, _, _, _]) hh15 rfl, .inr (by omega), fun h => ?_, fun _ => ⟨_, _, _, cell_obj (vs := [_, _, _, _]) hh15 rfl, .inr (by omega), _, cell_obj (vs := [_, _, _, _]) hh15 rfl, .inr (by omega), fun w17 hb17 hk17 => ⟨_, _, rfl, hb17, ?_⟩⟩⟩
  · rw [hf] at h; cases h
  · have L17 := (L15.sub (cs := [m1]) (by simp)).chg (Chg.kept hk17)
    have L17' : Lies (m5 :: m1 :: av) 0 w15.heap.size w17 a15 (ints sea'.steps) := fun i v hv => by
      obtain ⟨b, o, e, g, _⟩ := L15 i v hv
      obtain ⟨b', o', e', _, hc'⟩ := L17 i v hv
      rw [e] at e'; cases e'
      exact ⟨b, o, e, g, hc'⟩
    exact (L17'.sub (fun y hy => by simp [hy])).to (Nat.zero_le _) hk17.size
abbrev townR : Ru := ⟨[(10, 20, 1, 5, 8), (5, 15, 2, 3, 2)], [[0, 30, 10], [30, 0, 25], [10, 25, 0]], [(3, 10, 200, 100), (2, 3, 100, 45)], 15, 2⟩
theorem townR_ok : RuOk townR where
  t := by decide
  w := rfl
  v := by decide
  row := fun i hi => by
    have : i = 0 ∨ i = 1 ∨ i = 2 := by simp at hi; omega
    rcases this with rfl | rfl | rfl <;> exact ⟨rfl, by simp, rfl⟩
  tw := fun t ht => by
    have : t = (10, 20, 1, 5, 8) ∨ t = (5, 15, 2, 3, 2) := by simpa using ht
    rcases this with rfl | rfl <;> exact ⟨by decide, by decide, by decide, by decide⟩
  wn := fun t ht => by
    have : t = (3, 10, 200, 100) ∨ t = (2, 3, 100, 45) := by simpa using ht
    rcases this with rfl | rfl <;> exact ⟨by decide, by decide, by decide⟩
  rest := by decide
  wage := by decide
set_option maxRecDepth 100000 in
theorem pubTown_any : Calls Tryz.prog 34 #[] w (PostRu townR w) := by
  refine vc34 w _ fun m1 _ m2 g2 m3 g3 m4 g4 m5 g5 m6 g6 m7 g7 w1 hb1 hk1 h2 h6 h7 h3 h4 h5 => ?_
  have o2 := hk1.own m2 (by simp); have o3 := hk1.own m3 (by simp); have o4 := hk1.own m4 (by simp); have o5 := hk1.own m5 (by simp); have o6 := hk1.own m6 (by simp); have o7 := hk1.own m7 (by simp)
  refine ⟨_, 2, _, 3, _, 2, [(some ⟨m3, 0, none⟩, 3, 3), (some ⟨m4, 0, none⟩, 3, 3), (some ⟨m5, 0, none⟩, 3, 3)], rfl, hb1, fun W hW => ?_⟩
  rw [← hW m2 (by omega) o2] at h2
  rw [← hW m3 (by omega) o3] at h3
  rw [← hW m4 (by omega) o4] at h4
  rw [← hW m5 (by omega) o5] at h5
  rw [← hW m6 (by omega) o6] at h6
  rw [← hW m7 (by omega) o7] at h7
  refine ⟨?_, ?_, rfl, ?_, ?_⟩
  · exact Cells.obj (vs := [I 10, I 20, .int .u16 1, I 5, I 8, I 5, I 15, .int .u16 2, I 3, I 2]) h2
  · exact Cells.obj (vs := [.int .u16 3, I 10, I 200, I 100, .int .u16 2, I 3, I 100, I 45]) h7
  · exact Cells.obj (vs := [_, _, _]) h6
  · intro i hi hi'
    have : i = 0 ∨ i = 1 ∨ i = 2 := by simp at hi; omega
    rcases this with rfl | rfl | rfl
    · exact ⟨rfl, Cells.obj (vs := [I 0, I 30, I 10]) h3⟩
    · exact ⟨rfl, Cells.obj (vs := [I 30, I 0, I 25]) h4⟩
    · exact ⟨rfl, Cells.obj (vs := [I 10, I 25, I 0]) h5⟩
theorem walk_ex0 : (stepF townR (townR.V[0]) (stK townR (townR.V[0]) [0, 1, -1] 0) 0).2 = 0 ∧ (stepF townR (townR.V[0]) (stK townR (townR.V[0]) [0, 1, -1] 1) 1).2 = 0 ∧ (stepF townR (townR.V[0]) (stK townR (townR.V[0]) [0, 1, -1] 2) (-1)).2 = 0 := by decide +kernel
theorem walk_ex : (∀ k, (hk : k < [(0 : Int), 1, -1].length) → (stepF townR (townR.V[0]) (stK townR (townR.V[0]) [0, 1, -1] k) [(0 : Int), 1, -1][k]).2 = 0) := fun k hk => by
  have : k = 0 ∨ k = 1 ∨ k = 2 := by simp at hk; omega
  rcases this with rfl | rfl | rfl
  · exact walk_ex0.1
  · exact walk_ex0.2.1
  · exact walk_ex0.2.2
theorem walk_exB : ∀ k, k ≤ [(0 : Int), 1, -1].length → StB townR (stK townR (townR.V[0]) [0, 1, -1] k) := fun k hk => by
  have key : ∀ k, k ≤ 3 → okSt townR (stK townR (townR.V[0]) [0, 1, -1] k) := fun k hk => by
    have : k = 0 ∨ k = 1 ∨ k = 2 ∨ k = 3 := by omega
    rcases this with rfl | rfl | rfl | rfl <;> decide +kernel
  exact (key k hk).b
theorem walk_exH : (homeF townR (townR.V[0]) (stK townR (townR.V[0]) [0, 1, -1] 3)).2 = 0 ∧ (homeF townR (townR.V[0]) (stK townR (townR.V[0]) [0, 1, -1] 3)).1.minutes = 130 := by decide +kernel
theorem best_ex : tryF townR (townR.V[1]) 5 ⟨withF 0 1, [], 0, false⟩ (startSt townR) [] = some ⟨2, [1, -1], 85, true⟩ := by decide +kernel
set_option maxRecDepth 100000 in
theorem pubRound_any : Calls Tryz.prog 10 #[] w (Pure w (.bool true)) := by
  refine vc10 w _ fun w1 hb1 _ => ?_
  refine pubTown_any.mono fun e w2 he => ?_
  obtain ⟨ra, rc, wa, wc, va, vc, S, rfl, hb2, hR2⟩ := he
  refine ⟨_, _, _, _, _, _, _, _, _, _, _, rfl, .all hb2, fun m8 g8 w3 hb3 hk3 hc3 => ?_⟩
  have hR3 : RuIn townR ra wa va S w3 := hR2 w3 fun k h1 h2 => hk3.block k h2 (by simp; omega)
  have hB := walk_exH
  refine Pure.calls (Walk_ok (n := 0) (l := [0, 1, -1]) (lc := 3) hR3 townR_ok (by decide) (Cells.obj (vs := [I 0, I 1, I (-1)]) hc3) (by decide) walk_ex walk_exB hB.1 (by show 0 ≤ (homeF townR (townR.V[0]) (stK townR (townR.V[0]) [0, 1, -1] 3)).1.minutes * 2 ∧ (homeF townR (townR.V[0]) (stK townR (townR.V[0]) [0, 1, -1] 3)).1.minutes * 2 ≤ _; rw [hB.2]; omega)) fun w4 hd4 => ⟨_, _, _, _, rfl, .all hd4, fun w5 hb5 hk5 => ?_⟩
  refine pubTown_any.mono fun e w6 he => ?_
  obtain ⟨ra', rc', wa', wc', va', vc', S', rfl, hb6, hR6⟩ := he
  refine ⟨_, _, _, _, _, _, _, _, _, _, _, rfl, .all hb6, fun m18 g18 w7 hb7 hk7 hc7 => ?_⟩
  have o8 := hk5.own m8 (by simp)
  have hR7 : RuIn townR ra' wa' va' S' w7 := hR6 w7 fun k h1 h2 => hk7.block k h2 (by simp; omega)
  refine (Best_ok (n := 1) (t := 1) (lc := 1) (k := 5) (sea' := ⟨2, [1, -1], 85, true⟩) (av := [m18, m8]) hR7 townR_ok (by decide) (Cells.obj (vs := [I 1]) hc7) (by decide) (by decide +kernel) best_ex rfl (by omega) (fun y hy => hk7.own y hy)).mono fun e w8 he => ?_
  obtain ⟨a, c, rfl, hb8, L8⟩ := he
  obtain ⟨b, o, rfl, ⟨hn, _, _⟩, hv0⟩ := L8 0 _ rfl
  obtain ⟨b', o', e', _, hv1⟩ := L8 1 _ rfl
  cases e'
  have e130 : (homeF townR (townR.V[0]) (stK townR (townR.V[0]) [0, 1, -1] 3)).1.minutes = 130 := hB.2
  have e130' : (homeF townR (townR.V[0]) (stK townR (townR.V[0]) [0, 1, -1] [(0 : Int), 1, -1].length)).1.minutes = 130 := hB.2
  rw [e130']
  have hn' : b ≠ m18 ∧ b ≠ m8 := by simpa using hn
  refine ⟨_, _, _, _, _, rfl, .all hb8, fun _ => ⟨fun _ => ⟨fun _ => ⟨fun _ => ⟨fun _ => ⟨fun _ => ⟨b, o, rfl, by decide, _, cell_at' hv0 (by simp), .inr hn', fun _ => ⟨b, o, rfl, by decide, _, cell_at' hv1 (by simp), .inr hn', fun w9 hb9 _ => ⟨rfl, hb9⟩⟩, fun h => absurd rfl h⟩, fun h => absurd rfl h⟩, fun h => absurd rfl h⟩, fun h => absurd rfl h⟩, fun h => absurd rfl h⟩, fun h => absurd rfl h⟩, fun h => absurd rfl h⟩
end
end Go.Proofs.RT
end
section
/- The example calls of zone. -/
namespace Go.Proofs.RT
open Go.Vc Go.RowKit Go.Proofs
theorem grd_span (op : BinOp) (x y : Operand) (a0 a1 : Int) (w : World) : (eqGuard op 47 x y (.agg #[I a0, I a1]) (.agg #[I a0, I a1])).run Tryz.prog w = .ok () w := by cases op <;> kernel_rfl
theorem eqr_span (a0 a1 : Int) (w : World) : (Op.equal 47 (.agg #[I a0, I a1]) (.agg #[I a0, I a1])).run Tryz.prog w = .ok true w := by
  have hS : Tryz.prog.underlying 47 = some (.struct (Tryz.prog.fieldsOf 47)) := by kernel_rfl
  show (Op.equalIn (9999 + 1) 47 _ _).run _ _ = _
  have hp : Tryz.prog.stoodInHeld 47 = false := by kernel_rfl
  rw [run_equalIn_agg w 9999 47 _ _ hS hp]
  simp only [Program.fieldsOf, Tryz.underlying47]
  have p0 : (part 3 #[I a0, I a1] 0).run Tryz.prog w = .ok (I a0) w := by kernel_rfl
  have u0 : Tryz.prog.underlying 3 = some (.int .i64) := by kernel_rfl
  have q0 : (Op.equalIn 9999 3 (I a0) (I a0)).run Tryz.prog w = .ok true w := by rw [run_equalIn_int w 9998 3 _ _ _ _ u0]; simp
  have p1 : (part 3 #[I a0, I a1] 1).run Tryz.prog w = .ok (I a1) w := by kernel_rfl
  have u1 : Tryz.prog.underlying 3 = some (.int .i64) := by kernel_rfl
  have q1 : (Op.equalIn 9999 3 (I a1) (I a1)).run Tryz.prog w = .ok true w := by rw [run_equalIn_int w 9998 3 _ _ _ _ u1]; simp
  simp [Op.eqFields, p0, p1, q0, q1, Sem.run_bind, Sem.run_pure]
theorem eql_span {x y : Operand} {a0 a1 : Int} {w : World} {R : Value → World → Prop} (h : R (.bool true) w) : RunsTo Tryz.prog ((eqGuard .eql 47 x y (.agg #[I a0, I a1]) (.agg #[I a0, I a1])) >>= fun _ => binOp .eql 47 (.agg #[I a0, I a1]) (.agg #[I a0, I a1])) w R := by
  refine ⟨_, w, ?_, h⟩
  simp only [Sem.run_bind, grd_span, Result.andThen_ok, binOp, eqr_span, Sem.run_pure]
  try rfl
theorem pubSpan_any (a b : Int) (w : World) : Calls Tryz.prog 12 #[I a, I b] w (Pure w (.agg #[I a, I b])) :=
  vc12 _ _ w _ fun _ _ w1 hb1 _ => ⟨rfl, hb1⟩
theorem says_ex : (downI (35999 + (atM exZ 35999).2.2) 86400, modI (35999 + (atM exZ 35999).2.2) 86400) = (0, 35699) := by decide
theorem pubTowns_any (w : World) : Calls Tryz.prog 9 #[] w (Pure w (.bool true)) := by
  refine vc9 w _ fun m1 g1 m2 g2 w1 hb1 hk1 hc1 => ?_
  have C1 : Cells w1 (some ⟨m1, 0, none⟩) (spansV exZ.2) := Cells.obj (vs := [_, _]) hc1
  have hs := says_ex
  injection hs with hs1 hs2
  refine Pure.calls (Says_ok C1 exZ_ok 35999 (by omega)) fun w2 hd2 => ⟨_, _, _, rfl, .all hd2, fun w3 hb3 hk3 hc3 => ?_⟩
  have C3 : Cells w3 (some ⟨m1, 0, none⟩) (spansV [(36000, 0)]) := Cells.obj (vs := [_, _]) hc3
  refine (odd_ex C3).mono fun e w4 he => ?_
  obtain ⟨a1, c1, a2, c2, rfl, hb4, L4⟩ := he
  rw [hs1, hs2]
  refine ⟨_, _, _, _, _, _, _, rfl, .all hb4, fun _ => ⟨fun _ => ⟨fun _ => ⟨fun _ => ⟨fun _ => ⟨fun _ w5 hb5 hk5 => ?_, fun h => absurd rfl h⟩, fun h => absurd rfl h⟩, fun h => absurd rfl h⟩, fun h => absurd rfl h⟩, fun h => absurd rfl h⟩, fun h => absurd rfl h⟩
  refine Pure.calls (pubSpan_any _ _ _) fun w6 hd6 => ⟨_, _, rfl, hd6, ?_⟩
  obtain ⟨b, o, e, ⟨_, hlo, hhi⟩, hc0⟩ := L4 0 _ rfl
  obtain ⟨b', o', e', _, hc1'⟩ := L4 1 _ rfl
  rw [e] at e'
  cases e'
  have o3 := hk3.own m1 (by simp); have o4 := hk3.own m2 (by simp)
  refine ⟨b, o, e, by decide, _, _, cell_at' hc0 (by simp), cell_at' hc1' (by simp), .inr ⟨by omega, by omega⟩, fun w7 hb7 hk7 => eql_span ⟨_, rfl, .all (Below.refl _ _), fun w9 hb9 hk9 => ⟨rfl, hb9⟩⟩⟩
end Go.Proofs.RT
end
section
/- Whose day: the plain law. -/
namespace Go.Proofs.RT
open Go.Vc Go.RowKit Go.Proofs
theorem finF_lt {till c : Int} (h : till < c) : finF till c = (-1, 0) := by unfold finF; rw [if_pos h]
theorem finF_ge {till c : Int} (h : c ≤ till) : finF till c = (0, c) := by unfold finF; rw [if_neg (by omega)]
theorem stopsF_or (g till : Int) : ∀ (ds : List Int) (c : Int), (stopsF g till c ds).1 = 0 ∨ (stopsF g till c ds).1 = -1 := fun ds => by
  have f : ∀ c, (finF till c).1 = 0 ∨ (finF till c).1 = -1 := fun c => by
    unfold finF; split <;> simp
  induction ds with
  | nil => exact fun c => f c
  | cons d ds ih =>
    intro c
    rw [stopsF_cons]
    split
    · exact f c
    · split
      · exact f c
      · exact ih _
theorem stops_past {g till : Int} {c : Int} (hc : till < c) {ds : List Int} (hd : ∀ d ∈ ds, till < d) : stopsF g till c ds = (-1, 0) := by
  cases ds with
  | nil => exact finF_lt hc
  | cons d ds =>
    rw [stopsF_cons]
    split
    · exact finF_lt hc
    · rw [if_pos (hd d List.mem_cons_self)]; exact finF_lt hc
theorem stops_law {n till δ : Int} (hn : 2 ≤ n) (hδ : δ = 0 ∨ δ = 1) : ∀ (l : List (Int × Int)) (c c' : Int), (∀ p ∈ l, p.1 - 1 + δ ≤ p.2 ∧ p.2 ≤ p.1 + δ) → l.Pairwise (fun p q => p.1 + 2 ≤ q.1) → c + δ ≤ c' →
    (stopsF (n - 1) till c (l.map (·.1))).1 ≠ 0 → (stopsF n till c' (l.map (·.2))).1 = -1 := fun l => by
  induction l with
  | nil =>
    intro c c' _ _ hc h
    have h : (finF till c).1 ≠ 0 := h
    by_cases ht : till < c
    · show (finF till c').1 = -1
      rw [finF_lt (by omega)]
    · rw [finF_ge (by omega)] at h; exact absurd rfl h
  | cons p l ih =>
    intro c c' hp hw hc h
    obtain ⟨D, T⟩ := p
    have hT := hp (D, T) List.mem_cons_self
    simp only at hT
    rw [List.map_cons, stopsF_cons] at h ⊢
    have hw1 := List.pairwise_cons.1 hw
    have past : ∀ c, till < c → till ≤ D → (stopsF n till c (l.map (·.2))).1 = -1 := fun c hc ht => by
      rw [stops_past hc fun d hd => by
        obtain ⟨q, hq, rfl⟩ := List.mem_map.1 hd
        have h1 := hw1.1 q hq
        have h2 := hp q (List.mem_cons_of_mem _ hq)
        omega]
    by_cases h1 : c < D
    · rw [if_pos h1] at h
      have ht : till < c := by
        by_cases ht : till < c
        · exact ht
        · rw [finF_ge (by omega)] at h; exact absurd rfl h
      split
      · rw [finF_lt (by omega)]
      · split
        · rw [finF_lt (by omega)]
        · exfalso; omega
    · rw [if_neg h1] at h
      by_cases h2 : till < D
      · rw [if_pos h2] at h
        have ht : till < c := by omega
        split
        · rw [finF_lt (by omega)]
        · split
          · rw [finF_lt (by omega)]
          · exact past _ (by omega) (by omega)
      · rw [if_neg h2] at h
        split
        · exfalso; omega
        · split
          · rw [finF_lt (by omega)]
          · exact ih _ _ (fun q hq => hp q (List.mem_cons_of_mem _ hq)) hw1.2 (by omega) h
/-- The days. -/
abbrev gapF (g : Int) : Int := 86400 * (2 + g.tmod 6) + 300 * g
def atF : List Int → Int → Int
  | [], a => a
  | g :: l, a => atF l (a + gapF g)
/-- Instants, one after another. -/
def atsF : Int → List Int → List Int
  | _, [] => []
  | a, g :: l => (a + gapF g) :: atsF (a + gapF g) l
theorem gapF_bd {g : Int} (h : 0 ≤ g ∧ g ≤ 255) : 172800 ≤ gapF g ∧ gapF g ≤ 681300 := by
  have h1 : g.tmod 6 = g % 6 := Int.tmod_eq_emod_of_nonneg h.1
  show 172800 ≤ 86400 * (2 + g.tmod 6) + 300 * g ∧ _ ≤ _
  show 172800 ≤ 86400 * (2 + g.tmod 6) + 300 * g ∧ 86400 * (2 + g.tmod 6) + 300 * g ≤ 681300
  rw [h1]; omega
theorem atsF_bd : ∀ (l : List Int) (a : Int), (∀ g ∈ l, 0 ≤ g ∧ g ≤ 255) → ∀ x ∈ atsF a l, a + 172800 ≤ x ∧ x ≤ a + 681300 * l.length := fun l => by
  induction l with
  | nil => intro a _ x hx; simp [atsF] at hx
  | cons g l ih =>
    intro a hg x hx
    have h1 := gapF_bd (hg g List.mem_cons_self)
    rw [List.length_cons]
    rcases List.mem_cons.1 hx with rfl | hx
    · omega
    · have := ih (a + gapF g) (fun y hy => hg y (List.mem_cons_of_mem _ hy)) x hx
      omega
theorem atsF_pair : ∀ (l : List Int) (a : Int), (∀ g ∈ l, 0 ≤ g ∧ g ≤ 255) → (atsF a l).Pairwise (fun x y => x + 172800 ≤ y) := fun l => by
  induction l with
  | nil => intro a _; exact List.Pairwise.nil
  | cons g l ih =>
    intro a hg
    refine List.pairwise_cons.2 ⟨fun y hy => (atsF_bd l _ (fun y hy => hg y (List.mem_cons_of_mem _ hy)) y hy).1, ih _ fun y hy => hg y (List.mem_cons_of_mem _ hy)⟩
theorem days_law {o till : Int} {n : Int} {l : List Int} {a : Int} (ho : -43200 ≤ o ∧ o ≤ 43200) (hg : ∀ g ∈ l, 0 ≤ g ∧ g ≤ 255) (hn : 2 ≤ n)
    (h : (stopsF (n - 1) till (n - 1) ((atsF a l).map (· / 86400))).1 ≠ 0) : (stopsF n till n ((atsF a l).map fun x => (x + o) / 86400)).1 = -1 := by
  have e1 : (atsF a l).map (· / 86400) = ((atsF a l).map fun x => (x / 86400, (x + o) / 86400)).map (·.1) := by rw [List.map_map]; rfl
  have e2 : (atsF a l).map (fun x => (x + o) / 86400) = ((atsF a l).map fun x => (x / 86400, (x + o) / 86400)).map (·.2) := by rw [List.map_map]; rfl
  rw [e1] at h
  rw [e2]
  refine stops_law (δ := if o < 0 then 0 else 1) hn (by split <;> simp) _ (n - 1) n ?_ ?_ ?_ h
  · intro p hp
    obtain ⟨x, _, rfl⟩ := List.mem_map.1 hp
    show x / 86400 - 1 + _ ≤ (x + o) / 86400 ∧ (x + o) / 86400 ≤ x / 86400 + _
    split <;> omega
  · rw [List.pairwise_map]
    exact (atsF_pair l a hg).imp fun {x y} h => by show x / 86400 + 2 ≤ y / 86400; omega
  · split <;> omega
end Go.Proofs.RT
end
section
/- The conditions of the functions, printed by program; each is what the generator reckons (kernel_rfl). -/
namespace Go.Proofs
open Go.Vc
set_option maxRecDepth 100000 in
set_option maxHeartbeats 2000000 in
theorem vc3 (offset : Int) (gapsa : Option Addr) (gapsn : Nat) (gapsc : Nat) (goes0 : Int) (goes1 : Int) (w : World) (R : Ending → World → Prop) (h : ∀ (m1 : Nat), w.heap.size ≤ m1
    → (-9223372036854775808 ≤ offset ∧ offset ≤ 9223372036854775807) ∧ ∀ (m2 : Nat), w.heap.size ≤ m2 → ∀ (m3 : Nat), w.heap.size ≤ m3 → ∀ (m4 : Nat), w.heap.size ≤ m4 → ∃ (F1 :
    List Lf → World → Prop), ∃ (F2 : List Lf → Nat), (∀ (w2 : World), RowKit.Below w.heap.size w w2 → Kept [m4, m3, m2, m1] w w2 → w2.heap[m3]? = some (Obj.cells #[] 34) →
    w2.heap[m4]? = some (Obj.cells #[] 34) → F1 [Lf.bool false, Lf.int IntKind.i64 86400, Lf.sl (some { block := m3, off := 0 }) 0 0, Lf.sl (some { block := m4, off := 0 }) 0 0,
    Lf.int IntKind.i64 0] w2) ∧ ∀ (t1 : Bool) (x1 : Int) (a1 : Option Addr) (m7 m8 : Nat) (a2 : Option Addr) (m9 m10 : Nat) (x2 : Int) (w3 : World), RowKit.Below w.heap.size w w3 →
    F1 [Lf.bool t1, Lf.int IntKind.i64 x1, Lf.sl a1 m7 m8, Lf.sl a2 m9 m10, Lf.int IntKind.i64 x2] w3 → ∃ (F3 : List Lf → World → Prop), ((x2 < (↑gapsn : Int) → ∀ (w5 : World),
    RowKit.Below w.heap.size w w5 → Kept [m2, m1] w3 w5 → F3 [Lf.bool (decide (x2 < 12))] w5) ∧ ((↑gapsn : Int) ≤ x2 → ∀ (w6 : World), RowKit.Below w.heap.size w w6 → Kept [m2, m1]
    w3 w6 → F3 [Lf.bool false] w6)) ∧ ∀ (t2 : Bool) (w7 : World), RowKit.Below w.heap.size w w7 → F3 [Lf.bool t2] w7 → (t2 = true → ∃ (m13 : Nat), ∃ (m14 : Nat), gapsa = some
    { block := m13, off := m14 } ∧ (0 ≤ x2 ∧ x2 < (↑gapsn : Int)) ∧ ∃ (x4 : Int), w7.cell? { block := m13, off := m14 + x2.toNat * 1 } = some (Value.int IntKind.u8 x4) ∧ (m13 <
    w.heap.size ∨ m13 ≠ m2 ∧ m13 ≠ m1) ∧ (-9223372036854775808 ≤ x4 ∧ x4 ≤ 9223372036854775807) ∧ (6 : Int) ≠ 0 ∧ ((-9223372036854775808 : Int) ≤ 2 + x4.tmod 6 ∧ 2 + x4.tmod (6 :
    Int) ≤ 9223372036854775807) ∧ ((-9223372036854775808 : Int) ≤ 86400 * (2 + x4.tmod 6) ∧ 86400 * (2 + x4.tmod 6) ≤ 9223372036854775807) ∧ ∃ (m15 : Nat), ∃ (m16 : Nat), gapsa =
    some { block := m15, off := m16 } ∧ (0 ≤ x2 ∧ x2 < (↑gapsn : Int)) ∧ ∃ (x5 : Int), w7.cell? { block := m15, off := m16 + x2.toNat * 1 } = some (Value.int IntKind.u8 x5) ∧ (m15
    < w.heap.size ∨ m15 ≠ m2 ∧ m15 ≠ m1) ∧ (-9223372036854775808 ≤ x5 ∧ x5 ≤ 9223372036854775807) ∧ ((-9223372036854775808 : Int) ≤ 300 * x5 ∧ 300 * x5 ≤ 9223372036854775807) ∧
    ((-9223372036854775808 : Int) ≤ 86400 * (2 + x4.tmod 6) + 300 * x5 ∧ 86400 * (2 + x4.tmod 6) + 300 * x5 ≤ 9223372036854775807) ∧ (-9223372036854775808 ≤ x1 + (86400 * (2 +
    x4.tmod 6) + 300 * x5) ∧ x1 + (86400 * (2 + x4.tmod 6) + 300 * x5) ≤ 9223372036854775807) ∧ ∀ (w8 : World), RowKit.Below w.heap.size w w8 → Kept [m2, m1] w7 w8 → Calls
    Tryz.prog 6 #[Value.agg #[Value.int IntKind.i64 offset, Value.slice none 0 0], Value.int IntKind.i64 (x1 + (86400 * (2 + x4.tmod 6) + 300 * x5))] w8 fun (e1 : Ending) (w9 :
    World) => ∃ (x6 : Int), ∃ (x7 : Int), ∃ (x8 : Int), e1 = Ending.returned (Value.tuple #[Value.int IntKind.i64 x6, Value.int IntKind.i64 x7, Value.int IntKind.i64 x8]) ∧ KeepX
    true w.heap.size [m2, m1] (fun _ => False) w8 w9 ∧ ∃ (F4 : List Lf → World → Prop), ((x8 ≠ 0 → ∀ (w11 : World), RowKit.Below w.heap.size w w11 → Kept [m2, m1] w9 w11 → F4
    [Lf.bool true] w11) ∧ (x8 = 0 → ((86400 : Int) ≠ 0 ∧ -9223372036854775808 ≤ (x1 + (86400 * (2 + x4.tmod 6) + 300 * x5)).tdiv 86400 ∧ (x1 + (86400 * (2 + x4.tmod 6) + 300 *
    x5)).tdiv (86400 : Int) ≤ 9223372036854775807) ∧ (-9223372036854775808 ≤ (x1 + (86400 * (2 + x4.tmod 6) + 300 * x5)).tdiv 86400 - 1 ∧ (x1 + (86400 * (2 + x4.tmod 6) + 300 *
    x5)).tdiv 86400 - (1 : Int) ≤ 9223372036854775807) ∧ (x6 < (x1 + (86400 * (2 + x4.tmod 6) + 300 * x5)).tdiv 86400 - 1 → ∀ (w12 : World), RowKit.Below w.heap.size w w12 → Kept
    [m2, m1] w9 w12 → F4 [Lf.bool true] w12) ∧ ((x1 + (86400 * (2 + x4.tmod 6) + 300 * x5)).tdiv 86400 - 1 ≤ x6 → ((86400 : Int) ≠ 0 ∧ -9223372036854775808 ≤ (x1 + (86400 * (2 +
    x4.tmod 6) + 300 * x5)).tdiv 86400 ∧ (x1 + (86400 * (2 + x4.tmod 6) + 300 * x5)).tdiv (86400 : Int) ≤ 9223372036854775807) ∧ (-9223372036854775808 ≤ (x1 + (86400 * (2 + x4.tmod
    6) + 300 * x5)).tdiv 86400 + 1 ∧ (x1 + (86400 * (2 + x4.tmod 6) + 300 * x5)).tdiv 86400 + (1 : Int) ≤ 9223372036854775807) ∧ ∀ (w13 : World), RowKit.Below w.heap.size w w13 →
    Kept [m2, m1] w9 w13 → F4 [Lf.bool (decide ((x1 + (86400 * (2 + x4.tmod 6) + 300 * x5)).tdiv 86400 + 1 < x6))] w13))) ∧ ∀ (t3 : Bool) (w14 : World), RowKit.Below w.heap.size w
    w14 → F4 [Lf.bool t3] w14 → (t3 = true → ∀ (w15 : World), RowKit.Below w.heap.size w w15 → Kept [m2, m1] w14 w15 → R (Ending.returned (Value.bool false)) w15) ∧ (t3 = false →
    ((86400 : Int) ≠ 0 ∧ -9223372036854775808 ≤ (x1 + (86400 * (2 + x4.tmod 6) + 300 * x5)).tdiv 86400 ∧ (x1 + (86400 * (2 + x4.tmod 6) + 300 * x5)).tdiv (86400 : Int) ≤
    9223372036854775807) ∧ ∀ (w16 : World), RowKit.Below w.heap.size w w16 → Kept [m2, m1] w14 w16 → ∀ (m20 : Nat) (w17 : World), m20 = w16.heap.size → w17 = w16.alloc (Obj.cells
    #[Value.int IntKind.i64 0] 3) → ∀ (m21 : Nat), w17.heap.size ≤ m21 → ∀ (w18 : World), RowKit.Below w.heap.size w w18 → Kept [m21, m2, m1] w17 w18 → w18.heap[m21]? = some
    (Obj.cells #[Value.int IntKind.i64 ((x1 + (86400 * (2 + x4.tmod 6) + 300 * x5)).tdiv 86400), Value.slice (some { block := m20, off := 0 }) 1 1] 34) → RunsTo Tryz.prog
    (Builtin.append_ #[28, 28] 28 #[Value.slice a1 m7 m8, Value.slice (some { block := m21, off := 0 }) 1 1]) w18 fun (v1 : Value) (w19 : World) => ∃ (a3 : Option Addr), ∃ (m23 :
    Nat), ∃ (m24 : Nat), v1 = Value.slice a3 m23 m24 ∧ KeepX true w.heap.size [m21, m2, m1] (fun _ => False) w18 w19 ∧ ∀ (w20 : World), RowKit.Below w.heap.size w w20 → Kept [m21,
    m2, m1] w19 w20 → ∀ (m26 : Nat) (w21 : World), m26 = w20.heap.size → w21 = w20.alloc (Obj.cells #[Value.int IntKind.i64 0] 3) → ∀ (m27 : Nat), w21.heap.size ≤ m27 → ∀ (w22 :
    World), RowKit.Below w.heap.size w w22 → Kept [m27, m21, m2, m1] w21 w22 → w22.heap[m27]? = some (Obj.cells #[Value.int IntKind.i64 x6, Value.slice (some
    { block := m26, off := 0 }) 1 1] 34) → RunsTo Tryz.prog (Builtin.append_ #[28, 28] 28 #[Value.slice a2 m9 m10, Value.slice (some { block := m27, off := 0 }) 1 1]) w22 fun (v2 :
    Value) (w23 : World) => ∃ (a4 : Option Addr), ∃ (m29 : Nat), ∃ (m30 : Nat), v2 = Value.slice a4 m29 m30 ∧ KeepX true w.heap.size [m27, m21, m2, m1] (fun _ => False) w22 w23 ∧
    (-9223372036854775808 ≤ x2 + 1 ∧ x2 + (1 : Int) ≤ 9223372036854775807) ∧ ∀ (w24 : World), RowKit.Below w.heap.size w w24 → Kept [m27, m21, m2, m1] w23 w24 → F1 [Lf.bool t1,
    Lf.int IntKind.i64 (x1 + (86400 * (2 + x4.tmod 6) + 300 * x5)), Lf.sl a3 m23 m24, Lf.sl a4 m29 m30, Lf.int IntKind.i64 (x2 + 1)] w24 ∧ F2 [Lf.bool t1, Lf.int IntKind.i64 (x1 +
    (86400 * (2 + x4.tmod 6) + 300 * x5)), Lf.sl a3 m23 m24, Lf.sl a4 m29 m30, Lf.int IntKind.i64 (x2 + 1)] < F2 [Lf.bool t1, Lf.int IntKind.i64 x1, Lf.sl a1 m7 m8, Lf.sl a2 m9
    m10, Lf.int IntKind.i64 x2])) ∧ (t2 = false → (-9223372036854775808 ≤ goes0 ∧ goes0 ≤ 9223372036854775807) ∧ (20 : Int) ≠ 0 ∧ ((-9223372036854775808 : Int) ≤ 2 + goes0.tmod 20
    ∧ 2 + goes0.tmod (20 : Int) ≤ 9223372036854775807) ∧ ((86400 : Int) ≠ 0 ∧ -9223372036854775808 ≤ x1.tdiv 86400 ∧ x1.tdiv (86400 : Int) ≤ 9223372036854775807) ∧
    (-9223372036854775808 ≤ goes1 ∧ goes1 ≤ 9223372036854775807) ∧ (9 : Int) ≠ 0 ∧ (-9223372036854775808 ≤ x1.tdiv 86400 + goes1.tmod 9 ∧ x1.tdiv 86400 + goes1.tmod (9 : Int) ≤
    9223372036854775807) ∧ ((-9223372036854775808 : Int) ≤ 2 + goes0.tmod 20 - 1 ∧ 2 + goes0.tmod 20 - (1 : Int) ≤ 9223372036854775807) ∧ ∀ (m32 : Nat), w7.heap.size ≤ m32 → ∀ (w25
    : World), RowKit.Below w.heap.size w w25 → Kept [m32, m2, m1] w7 w25 → w25.heap[m32]? = some (Obj.cells #[Value.int IntKind.i64 (2 + goes0.tmod 20 - 1)] 3) → Calls Tryz.prog 8
    #[Value.slice (some { block := m32, off := 0 }) 1 1] w25 fun (e2 : Ending) (w26 : World) => ∃ (a5 : Option Addr), ∃ (m34 : Nat), ∃ (m35 : Nat), ∃ (a6 : Option Addr), ∃ (m36 :
    Nat), ∃ (m37 : Nat), ∃ (a7 : Option Addr), ∃ (m38 : Nat), ∃ (m39 : Nat), ∃ (x10 : Int), ∃ (x11 : Int), e2 = Ending.returned (Value.agg #[Value.slice a5 m34 m35, Value.slice a6
    m36 m37, Value.slice a7 m38 m39, Value.int IntKind.i64 x10, Value.int IntKind.i64 x11]) ∧ KeepX true w.heap.size [m32, m2, m1] (fun _ => False) w25 w26 ∧ ∀ (w27 : World),
    RowKit.Below w.heap.size w w27 → Kept [m32, m2, m1] w26 w27 → Calls Tryz.prog 7 #[Value.agg #[Value.slice a5 m34 m35, Value.slice a6 m36 m37, Value.slice a7 m38 m39, Value.int
    IntKind.i64 x10, Value.int IntKind.i64 x11], Value.slice a1 m7 m8, Value.int IntKind.i64 (x1.tdiv 86400 + goes1.tmod 9)] w27 fun (e3 : Ending) (w28 : World) => ∃ (x12 : Int), ∃
    (x13 : Int), ∃ (x14 : Int), e3 = Ending.returned (Value.tuple #[Value.int IntKind.i64 x12, Value.int IntKind.i64 x13, Value.int IntKind.i64 x14]) ∧ KeepX true w.heap.size [m32,
    m2, m1] (fun _ => False) w27 w28 ∧ ∀ (m42 : Nat), w28.heap.size ≤ m42 → ∀ (w29 : World), RowKit.Below w.heap.size w w29 → Kept [m42, m32, m2, m1] w28 w29 → w29.heap[m42]? =
    some (Obj.cells #[Value.int IntKind.i64 (2 + goes0.tmod 20)] 3) → Calls Tryz.prog 8 #[Value.slice (some { block := m42, off := 0 }) 1 1] w29 fun (e4 : Ending) (w30 : World) =>
    ∃ (a8 : Option Addr), ∃ (m44 : Nat), ∃ (m45 : Nat), ∃ (a9 : Option Addr), ∃ (m46 : Nat), ∃ (m47 : Nat), ∃ (a10 : Option Addr), ∃ (m48 : Nat), ∃ (m49 : Nat), ∃ (x15 : Int), ∃
    (x16 : Int), e4 = Ending.returned (Value.agg #[Value.slice a8 m44 m45, Value.slice a9 m46 m47, Value.slice a10 m48 m49, Value.int IntKind.i64 x15, Value.int IntKind.i64 x16]) ∧
    KeepX true w.heap.size [m42, m32, m2, m1] (fun _ => False) w29 w30 ∧ ∀ (w31 : World), RowKit.Below w.heap.size w w31 → Kept [m42, m32, m2, m1] w30 w31 → Calls Tryz.prog 7
    #[Value.agg #[Value.slice a8 m44 m45, Value.slice a9 m46 m47, Value.slice a10 m48 m49, Value.int IntKind.i64 x15, Value.int IntKind.i64 x16], Value.slice a2 m9 m10, Value.int
    IntKind.i64 (x1.tdiv 86400 + goes1.tmod 9)] w31 fun (e5 : Ending) (w32 : World) => ∃ (x17 : Int), ∃ (x18 : Int), ∃ (x19 : Int), e5 = Ending.returned (Value.tuple #[Value.int
    IntKind.i64 x17, Value.int IntKind.i64 x18, Value.int IntKind.i64 x19]) ∧ KeepX true w.heap.size [m42, m32, m2, m1] (fun _ => False) w31 w32 ∧ ∃ (F5 : List Lf → World → Prop),
    ((x14 ≠ 0 → ∀ (w34 : World), RowKit.Below w.heap.size w w34 → Kept [m42, m32, m2, m1] w32 w34 → F5 [Lf.bool true] w34) ∧ (x14 = 0 → (x19 ≠ 0 → ∀ (w35 : World), RowKit.Below
    w.heap.size w w35 → Kept [m42, m32, m2, m1] w32 w35 → F5 [Lf.bool true] w35) ∧ (x19 = 0 → (0 < x12 → ∀ (w36 : World), RowKit.Below w.heap.size w w36 → Kept [m42, m32, m2, m1]
    w32 w36 → F5 [Lf.bool true] w36) ∧ (x12 ≤ 0 → ∀ (w37 : World), RowKit.Below w.heap.size w w37 → Kept [m42, m32, m2, m1] w32 w37 → F5 [Lf.bool (decide (0 < x17))] w37)))) ∧ ∀
    (t4 : Bool) (w38 : World), RowKit.Below w.heap.size w w38 → F5 [Lf.bool t4] w38 → (t4 = true → ∀ (w39 : World), RowKit.Below w.heap.size w w39 → Kept [m42, m32, m2, m1] w38 w39
    → R (Ending.returned (Value.bool false)) w39) ∧ (t4 = false → ∃ (F6 : List Lf → World → Prop), ((x12 = 0 → ∀ (w41 : World), RowKit.Below w.heap.size w w41 → Kept [m42, m32, m2,
    m1] w38 w41 → Calls Tryz.prog 9 #[] w41 fun (e6 : Ending) (w42 : World) => ∃ (t5 : Bool), e6 = Ending.returned (Value.bool t5) ∧ KeepX true w.heap.size [m42, m32, m2, m1] (fun
    _ => False) w41 w42 ∧ (t5 = true → ∀ (w43 : World), RowKit.Below w.heap.size w w43 → Kept [m42, m32, m2, m1] w42 w43 → Calls Tryz.prog 10 #[] w43 fun (e7 : Ending) (w44 :
    World) => ∃ (t6 : Bool), e7 = Ending.returned (Value.bool t6) ∧ KeepX true w.heap.size [m42, m32, m2, m1] (fun _ => False) w43 w44 ∧ ∀ (w45 : World), RowKit.Below w.heap.size w
    w45 → Kept [m42, m32, m2, m1] w44 w45 → F6 [Lf.bool t6] w45) ∧ (t5 = false → ∀ (w46 : World), RowKit.Below w.heap.size w w46 → Kept [m42, m32, m2, m1] w42 w46 → F6 [Lf.bool
    false] w46)) ∧ (x12 ≠ 0 → (x17 < 0 → ∀ (w47 : World), RowKit.Below w.heap.size w w47 → Kept [m42, m32, m2, m1] w38 w47 → Calls Tryz.prog 9 #[] w47 fun (e8 : Ending) (w48 :
    World) => ∃ (t7 : Bool), e8 = Ending.returned (Value.bool t7) ∧ KeepX true w.heap.size [m42, m32, m2, m1] (fun _ => False) w47 w48 ∧ (t7 = true → ∀ (w49 : World), RowKit.Below
    w.heap.size w w49 → Kept [m42, m32, m2, m1] w48 w49 → Calls Tryz.prog 10 #[] w49 fun (e9 : Ending) (w50 : World) => ∃ (t8 : Bool), e9 = Ending.returned (Value.bool t8) ∧ KeepX
    true w.heap.size [m42, m32, m2, m1] (fun _ => False) w49 w50 ∧ ∀ (w51 : World), RowKit.Below w.heap.size w w51 → Kept [m42, m32, m2, m1] w50 w51 → F6 [Lf.bool t8] w51) ∧ (t7 =
    false → ∀ (w52 : World), RowKit.Below w.heap.size w w52 → Kept [m42, m32, m2, m1] w48 w52 → F6 [Lf.bool false] w52)) ∧ (0 ≤ x17 → ∀ (w53 : World), RowKit.Below w.heap.size w
    w53 → Kept [m42, m32, m2, m1] w38 w53 → F6 [Lf.bool false] w53))) ∧ ∀ (t9 : Bool) (w54 : World), RowKit.Below w.heap.size w w54 → F6 [Lf.bool t9] w54 → ∀ (w55 : World),
    RowKit.Below w.heap.size w w55 → Kept [m42, m32, m2, m1] w54 w55 → R (Ending.returned (Value.bool t9)) w55))) : Calls Tryz.prog 3 #[Value.int IntKind.i16 offset, Value.slice
    gapsa gapsn gapsc, Value.agg #[Value.int IntKind.u8 goes0, Value.int IntKind.u8 goes1]] w R := calls_of_vcj (pure := true) (wrapAt := []) (muts := []) (esc := [81, 87]) (joins
    := [(2000004, [(35, 4)]), (2000008, [(77, 4)]), (2000015, [(137, 4)]), (2000017, [(6, 4)])]) (args := [SV.pv (PV.one (Lf.int IntKind.i16 offset)), SV.pv (PV.one (Lf.sl gapsa
    gapsn gapsc)), SV.pv (PV.agg [Lf.int IntKind.u8 goes0, Lf.int IntKind.u8 goes1])]) (vs := [Value.int IntKind.i16 offset, Value.slice gapsa gapsn gapsc, Value.agg #[Value.int
    IntKind.u8 goes0, Value.int IntKind.u8 goes1]]) Tryz.func3 rfl rfl rfl (Eq.mp (by kernel_rfl) h) 
end Go.Proofs
end
section
/- Whose day: rows of days. -/
namespace Go.Proofs.RT
open Go.Vc Go.RowKit Go.Proofs
def usedD (a : Option Addr) (ds : List Dy) (b : Nat) : Prop := (ds ≠ [] ∧ ∃ o, a = some ⟨b, o, none⟩) ∨ ∃ d ∈ ds, d.2.1 = some ⟨b, 0, none⟩
structure DaysR (B : Nat) (own : List Nat) (ds : List Dy) (a : Option Addr) (n c : Nat) (W : World) : Prop where
  len : n = ds.length
  row : (ds = [] ∧ (∃ b0, a = some ⟨b0, 0, none⟩) ∧ c = 0) ∨ (ds ≠ [] ∧ Row 34 2 B own a n c (ds.flatMap dayC) W)
  t : ∀ d ∈ ds, ∃ b, d.2.1 = some ⟨b, 0, none⟩ ∧ b ∉ own ∧ W.heap[b]? = some (.cells #[I 0] 3 (0, 0))
section
variable {B : Nat} {own : List Nat} {ds : List Dy} {a : Option Addr} {n c : Nat} {W W' : World}
theorem DaysR.isRow (h : DaysR B own ds a n c W) (hd : ds ≠ []) : Row 34 2 B own a n c (ds.flatMap dayC) W := by
  rcases h.row with ⟨h0, _⟩ | ⟨_, R⟩
  · exact absurd h0 hd
  · exact R
theorem DaysR.lt (h : DaysR B own ds a n c W) {b : Nat} (hu : usedD a ds b) : b < W.heap.size ∧ b ∉ own := by
  rcases hu with ⟨hd, o, ha⟩ | ⟨d, hd, e⟩
  · have R := h.isRow hd
    exact ⟨(R.lt b o ha).2, R.ns b o ha⟩
  · obtain ⟨b', e', h1, h2⟩ := h.t d hd
    rw [e] at e'; cases e'
    exact ⟨lt_of_some h2, h1⟩
theorem DaysR.same {own' : List Nat} (h : DaysR B own ds a n c W) (hk : ∀ b, usedD a ds b → W'.heap[b]? = W.heap[b]?) (ho : ∀ b, usedD a ds b → b ∉ own') : DaysR B own' ds a n c W' := by
  refine ⟨h.len, ?_, fun d hd => ?_⟩
  · rcases h.row with h0 | ⟨h0, R⟩
    · exact .inl h0
    · have R' := R.of (w' := W') fun b o ha => hk b (.inl ⟨h0, o, ha⟩)
      exact .inr ⟨h0, R'.own, fun b o ha => ho b (.inl ⟨h0, o, ha⟩)⟩
  · obtain ⟨b, e, h1, h2⟩ := h.t d hd
    exact ⟨b, e, ho b (.inr ⟨d, hd, e⟩), by rw [hk b (.inr ⟨d, hd, e⟩)]; exact h2⟩
theorem DaysR.days (h : DaysR B own ds a n c W) : DaysIn ds a W := by
  refine ⟨?_, fun d hd => ?_⟩
  · rcases h.row with ⟨rfl, _⟩ | ⟨_, R⟩
    · intro i v hv; simp at hv
    · exact R.cells
  · obtain ⟨b, e, _, h2⟩ := h.t d hd
    rw [e]; exact Cells.obj (vs := [I 0]) h2
/-- One day more. -/
theorem appDay {E : Nat → Prop} {m mt : Nat} {x : Int} {cc : Nat} (h : DaysR B own ds a n c W) (hB : B ≤ W.heap.size) (hn : ds.length ≤ 1000) (hE : ∀ b, usedD a ds b → ¬ E b) (hEl : ∀ b, E b → b < W.heap.size) (hown : ∀ y ∈ own, y < W.heap.size)
    (hm : W.heap[m]? = some (.cells #[I x, .slice (some ⟨mt, 0, none⟩) 1 1] 34 (0, 0))) (ht : W.heap[mt]? = some (.cells #[I 0] 3 (0, 0))) (hto : mt ∉ own) (htE : ¬ E mt) {R : Value → World → Prop}
    (hR : ∀ a' c' W', DaysR B own (ds ++ [(x, some ⟨mt, 0, none⟩, 1)]) a' (n + 1) c' W' → (∀ b, usedD a' (ds ++ [(x, some ⟨mt, 0, none⟩, 1)]) b → ¬ E b) → (∀ b, E b → W'.heap[b]? = W.heap[b]?) → ∀ S, Chg S W W' → (∀ s ∈ S, B ≤ s ∧ s ∉ own) → R (.slice a' (n + 1) c') W') :
    RunsTo Tryz.prog (Builtin.append_ #[28, 28] 28 #[.slice a n c, .slice (some ⟨m, 0, none⟩) 1 cc]) W R := by
  have hlen := h.len
  have news : Cells W (some ⟨m, 0, none⟩) [I x, .slice (some ⟨mt, 0, none⟩) 1 1] := Cells.obj (vs := [_, _]) hm
  rcases h.row with ⟨h0, ⟨b0, rfl⟩, rfl⟩ | ⟨h0, R0⟩
  · subst h0
    have hn0 : n = 0 := hlen
    subst hn0
    have R0 : RowE 34 2 B (List.range W.heap.size) (some ⟨b0, 0, none⟩) 0 0 [] W := RowE.lit
    refine append_rowE (P := Tryz.prog) (bytes := 32) (by kernel_rfl) (by omega) R0 (m := 1) news rfl (List.forall_mem_cons.2 ⟨rfl, List.forall_mem_cons.2 ⟨rfl, by simp⟩⟩) (by omega) (by omega) hB (fun y hy => List.mem_range.1 hy) (by omega) fun a' c' W' R' S hS hs => ?_
    have hge : ∀ s ∈ S, W.heap.size ≤ s := fun s hm => by
      have := (hs s hm).2
      rw [List.mem_range] at this; omega
    have keep : ∀ b, b < W.heap.size → W'.heap[b]? = W.heap[b]? := fun b hb => hS.keep b hb fun hm => by have := hge b hm; omega
    have hgeA : ∀ b o, a' = some ⟨b, o, none⟩ → W.heap.size ≤ b := fun b o e => by
      have := R'.ns b o e
      rw [List.mem_range] at this; omega
    have htl := lt_of_some ht
    refine hR a' c' W' ⟨by simp, .inr ⟨by simp, R'.own, fun b o e hm => by have := hgeA b o e; have := hown b hm; omega⟩, fun d hd => ?_⟩ (fun b hu hb => ?_) (fun b hb => keep b (hEl b hb)) S hS fun s hm => ⟨(hs s hm).1, fun ho => by have := hge s hm; have := hown s ho; omega⟩
    · have hd : d = (x, some ⟨mt, 0, none⟩, 1) := by simpa using hd
      subst hd
      exact ⟨mt, rfl, hto, by rw [keep mt htl]; exact ht⟩
    · have hbl := hEl b hb
      rcases hu with ⟨_, o, e⟩ | ⟨d, hd, e⟩
      · have := hgeA b o e; omega
      · have hd : d = (x, some ⟨mt, 0, none⟩, 1) := by simpa using hd
        subst hd
        have e : (some ⟨mt, 0, none⟩ : Option Addr) = some ⟨b, 0, none⟩ := e
        injection e with e
        injection e with e _
        subst e
        exact htE hb
  · have R1 : Row 34 2 B [] a n c (ds.flatMap dayC) W := R0.less (by simp)
    refine append_same (P := Tryz.prog) (bytes := 32) (by kernel_rfl) (by omega) R1 (m := 1) news rfl (List.forall_mem_cons.2 ⟨rfl, List.forall_mem_cons.2 ⟨rfl, by simp⟩⟩) (by omega) (by omega) hB fun a' c' W' R' same out S hS hs => ?_
    have nE : ∀ b, E b → ∀ o, a ≠ some ⟨b, o, none⟩ := fun b hb o e => hE b (.inl ⟨h0, o, e⟩) hb
    have nO : ∀ b, b ∈ own → ∀ o, a ≠ some ⟨b, o, none⟩ := fun b hb o e => R0.ns b o e hb
    have htl := lt_of_some ht
    refine hR a' c' W' ⟨by simp [hlen], .inr ⟨by simp, by rw [List.flatMap_append]; exact R'.own, fun b o e hm => ?_⟩, fun d hd => ?_⟩ (fun b hu hb => ?_) (fun b hb => same b (hEl b hb) (nE b hb)) S hS fun s hm => ⟨(hs s hm).1, fun ho => ?_⟩
    · have := hown b hm
      rcases out b o e with h1 | ⟨o', h1⟩
      · omega
      · exact nO b hm o' h1
    · rcases List.mem_append.1 hd with hd | hd
      · obtain ⟨b, e, h1, h2⟩ := h.t d hd
        exact ⟨b, e, h1, by rw [same b (lt_of_some h2) (row_ne R1 h2 (by decide))]; exact h2⟩
      · have hd : d = (x, some ⟨mt, 0, none⟩, 1) := by simpa using hd
        subst hd
        exact ⟨mt, rfl, hto, by rw [same mt htl (row_ne R1 ht (by decide))]; exact ht⟩
    · have hbl := hEl b hb
      rcases hu with ⟨_, o, e⟩ | ⟨d, hd, e⟩
      · rcases out b o e with h1 | ⟨o', h1⟩
        · omega
        · exact nE b hb o' h1
      · rcases List.mem_append.1 hd with hd | hd
        · exact hE b (.inr ⟨d, hd, e⟩) hb
        · have hd : d = (x, some ⟨mt, 0, none⟩, 1) := by simpa using hd
          subst hd
          have e : (some ⟨mt, 0, none⟩ : Option Addr) = some ⟨b, 0, none⟩ := e
          injection e with e
          injection e with e _
          subst e
          exact htE hb
    · have := hown s ho
      rcases (hs s hm).2 with h1 | ⟨o, h1⟩
      · omega
      · exact nO s ho o h1
end
end Go.Proofs.RT
end
section
/- Whose day: the law, walked. -/
namespace Go.Proofs.RT
open Go.Vc Go.RowKit Go.Proofs
theorem atM_one (o n : Int) (hn : 0 ≤ n ∧ n ≤ 3155760000) : (atM (o, []) n).2.2 = o := by
  show (stepE n (0, 0, 0) (0, 3155760000, o)).2.2 = o
  unfold stepE
  rw [if_pos hn]
theorem atF_snoc (l : List Int) (g : Int) : ∀ a, atF (l ++ [g]) a = atF l a + gapF g := by
  induction l with
  | nil => intro a; rfl
  | cons h l ih => intro a; exact ih _
theorem atsF_snoc (l : List Int) (g : Int) : ∀ a, atsF a (l ++ [g]) = atsF a l ++ [atF l a + gapF g] := by
  induction l with
  | nil => intro a; rfl
  | cons h l ih => intro a; show (a + gapF h) :: _ = (a + gapF h) :: _ ++ _; rw [List.cons_append]; congr 1; exact ih _
theorem atsF_len : ∀ (l : List Int) (a : Int), (atsF a l).length = l.length := fun l => by
  induction l with
  | nil => intro a; rfl
  | cons g l ih => intro a; show (_ :: atsF _ l).length = _; rw [List.length_cons, List.length_cons, ih]
theorem atF_bd : ∀ (l : List Int) (a : Int), (∀ g ∈ l, 0 ≤ g ∧ g ≤ 255) → a ≤ atF l a ∧ atF l a ≤ a + 681300 * l.length := fun l => by
  induction l with
  | nil => intro a _; show a ≤ a ∧ a ≤ _; simp
  | cons g l ih =>
    intro a hg
    have h1 := gapF_bd (hg g List.mem_cons_self)
    have h2 := ih (a + gapF g) fun y hy => hg y (List.mem_cons_of_mem _ hy)
    rw [List.length_cons]
    show a ≤ atF l (a + gapF g) ∧ atF l (a + gapF g) ≤ _
    omega
theorem daysOk_of {ds : List Dy} {L : List Int} (hL : ds.map (·.1) = L) (hp : L.Pairwise (fun x y => x + 1 ≤ y)) (h1 : ∀ x ∈ L, 1 ≤ x ∧ x ≤ 36524) (hlen : ds.length ≤ 400) : DaysOk ds := by
  subst hL
  refine ⟨hlen, fun i hi => ?_⟩
  have hb := h1 ds[i].1 (List.mem_map.2 ⟨_, List.getElem_mem hi, rfl⟩)
  refine ⟨?_, hb.2⟩
  unfold prevD
  split
  · omega
  · have := List.pairwise_iff_getElem.1 hp (i - 1) i (by rw [List.length_map]; omega) (by simpa using hi) (by omega)
    simp only [List.getElem_map] at this
    rw [List.getD_eq_getElem?_getD, getElem_of_lt (show i - 1 < ds.length by omega)]
    exact this
theorem days_ok {ds : List Dy} {l : List Int} {o : Int} (hL : ds.map (·.1) = (atsF 86400 l).map fun x => (x + o) / 86400) (hg : ∀ g ∈ l, 0 ≤ g ∧ g ≤ 255) (hl : l.length ≤ 12) (hd : ds.length ≤ 400) (ho : -43200 ≤ o ∧ o ≤ 43200) : DaysOk ds := by
  refine daysOk_of hL ?_ ?_ hd
  · rw [List.pairwise_map]
    exact (atsF_pair l 86400 hg).imp fun {x y} h => by omega
  · intro x hx
    obtain ⟨y, hy, rfl⟩ := List.mem_map.1 hx
    have := atsF_bd l 86400 hg y hy
    omega
/-- How things stand before a round. -/
structure DInv (w : World) (gaps : List Int) (o : Int) (own : List Nat) (x1 : Int) (a1 : Option Addr) (n1 c1 : Nat) (a2 : Option Addr) (n2 c2 : Nat) (x2 : Int) (W : World) : Prop where
  ex : ∃ ds1 ds2, ds1.map (·.1) = ((atsF 86400 (gaps.take x2.toNat)).map fun x => (x + 0) / 86400) ∧ ds2.map (·.1) = ((atsF 86400 (gaps.take x2.toNat)).map fun x => (x + o) / 86400) ∧ DaysR w.heap.size own ds1 a1 n1 c1 W ∧ DaysR w.heap.size own ds2 a2 n2 c2 W ∧ ∀ b, usedD a1 ds1 b → ¬ usedD a2 ds2 b
  x : (0 ≤ x2 ∧ x2 ≤ gaps.length) ∧ x2 ≤ 12
  at' : x1 = atF (gaps.take x2.toNat) 86400
section
variable {w : World} {gaps : List Int} {o : Int} {own own' : List Nat} {x1 : Int} {a1 a2 : Option Addr} {n1 c1 n2 c2 : Nat} {x2 : Int} {W W' : World}
theorem DInv.same (h : DInv w gaps o own x1 a1 n1 c1 a2 n2 c2 x2 W) (hk : ∀ b, b < W.heap.size → b ∉ own → W'.heap[b]? = W.heap[b]?) (ho : ∀ b ∈ own', b ∈ own ∨ W.heap.size ≤ b) : DInv w gaps o own' x1 a1 n1 c1 a2 n2 c2 x2 W' := by
  obtain ⟨ds1, ds2, e1, e2, h1, h2, h3⟩ := h.ex
  have av : ∀ b, b < W.heap.size ∧ b ∉ own → b ∉ own' := fun b hb hm => by
    rcases ho b hm with h | h
    · exact hb.2 h
    · omega
  exact ⟨⟨ds1, ds2, e1, e2, h1.same (fun b hu => hk b (h1.lt hu).1 (h1.lt hu).2) fun b hu => av b (h1.lt hu), h2.same (fun b hu => hk b (h2.lt hu).1 (h2.lt hu).2) fun b hu => av b (h2.lt hu), h3⟩, h.x, h.at'⟩
theorem DInv.kept (h : DInv w gaps o own x1 a1 n1 c1 a2 n2 c2 x2 W) (hk : Kept own W W') : DInv w gaps o own x1 a1 n1 c1 a2 n2 c2 x2 W' := h.same (fun b h1 h2 => hk.block b h1 h2) fun b hb => .inl hb
theorem DInv.below (h : DInv w gaps o own x1 a1 n1 c1 a2 n2 c2 x2 W) (hk : Below W.heap.size W W') : DInv w gaps o own x1 a1 n1 c1 a2 n2 c2 x2 W' := h.same (fun b h1 _ => hk.block b h1) fun b hb => .inl hb
end
def u8s (l : List Int) : List Value := l.map (Value.int .u8)
set_option maxRecDepth 100000 in
set_option maxHeartbeats 4000000 in
theorem TopDaysZone_any {w : World} {o g0 g1 : Int} {gaps : List Int} {ga : Option Addr} {gc : Nat} (hga : Cells w ga (u8s gaps)) (hg : ∀ g ∈ gaps, 0 ≤ g ∧ g ≤ 255) (ho : -32768 ≤ o ∧ o ≤ 32767) (h0 : 0 ≤ g0 ∧ g0 ≤ 255) (h1 : 0 ≤ g1 ∧ g1 ≤ 255) (hlen : (gaps.length : Int) ≤ 9223372036854775807) :
    Calls Tryz.prog 3 #[.int .i16 o, .slice ga gaps.length gc, .agg #[.int .u8 g0, .int .u8 g1]] w (Pure w (.bool true)) := by
  refine vc3 _ _ _ _ _ _ w _ fun m1 p1 => ⟨by omega, fun m2 p2 m3 p3 m4 p4 => ?_⟩
  refine ⟨fun ls W => match ls with | [.bool _, .int _ x1, .sl a1 n1 c1, .sl a2 n2 c2, .int _ x2] => DInv w gaps o [m2, m1] x1 a1 n1 c1 a2 n2 c2 x2 W | _ => False, fun ls => match ls with | [_, _, _, _, .int _ x] => ((gaps.length : Int) - x).toNat | _ => 0, fun w2 hb2 hk2 hc3 hc4 => ⟨⟨[], [], rfl, rfl, ⟨rfl, .inl ⟨rfl, ⟨m3, rfl⟩, rfl⟩, by simp⟩, ⟨rfl, .inl ⟨rfl, ⟨m4, rfl⟩, rfl⟩, by simp⟩, fun b hu => by rcases hu with ⟨h, _⟩ | ⟨d, hd, _⟩; exact absurd rfl h; simp at hd⟩, by omega, rfl⟩, ?_⟩
  intro t1 x1 a1 n1 c1 a2 n2 c2 x2 w3 hb3 I3
  have I3 : DInv w gaps o [m2, m1] x1 a1 n1 c1 a2 n2 c2 x2 w3 := I3
  have hx := I3.x
  refine ⟨fun ls W => match ls with | [.bool t] => t = decide (x2 < (gaps.length : Int) ∧ x2 < 12) ∧ DInv w gaps o [m2, m1] x1 a1 n1 c1 a2 n2 c2 x2 W | _ => False, ⟨fun h w5 hb5 hk5 => ⟨by rw [Bool.eq_iff_iff]; simp only [decide_eq_true_eq]; omega, I3.kept hk5⟩, fun h w6 hb6 hk6 => ⟨by symm; rw [decide_eq_false_iff_not]; omega, I3.kept hk6⟩⟩, ?_⟩
  rintro t2 w7 hb7 ⟨rfl, I7⟩
  have hgt : ∀ g ∈ gaps.take x2.toNat, 0 ≤ g ∧ g ≤ 255 := fun g hm => hg g (List.mem_of_mem_take hm)
  have hat := I7.at'
  have hbd := atF_bd _ 86400 hgt
  rw [← hat, List.length_take] at hbd
  have hbd2 : 86400 ≤ x1 ∧ x1 ≤ 86400 + 681300 * 12 := by omega
  refine ⟨fun ht => ?_, fun ht => ?_⟩
  · have ht := of_decide_eq_true ht
    have hi : x2.toNat < gaps.length := by omega
    obtain ⟨bg, og, eg, hvg⟩ := hga x2.toNat (.int .u8 gaps[x2.toNat]) (by unfold u8s; rw [List.getElem?_map, getElem_of_lt hi]; rfl)
    have hgb := hg _ (List.getElem_mem hi)
    generalize hG : gaps[x2.toNat] = g at hvg hgb
    have hm6 : g.tmod 6 = g % 6 := Int.tmod_eq_emod_of_nonneg hgb.1
    have hmb : 0 ≤ g.tmod 6 ∧ g.tmod 6 ≤ 5 := by rw [hm6]; omega
    have hgf := gapF_bd hgb
    have hgl := cell_lt hvg
    refine ⟨bg, og, eg, by omega, g, cell_at' (cell_keep hb7 hvg) (by omega), .inl hgl, by omega, by omega, by omega, by omega, bg, og, eg, by omega, g, cell_at' (cell_keep hb7 hvg) (by omega), .inl hgl, by omega, by omega, by omega, by omega, fun w8 hb8 hk8 => ?_⟩
    have I8 := I7.kept hk8
    show Calls Tryz.prog 6 #[znV (o, []) none 0, I (x1 + gapF g)] w8 _
    refine Pure.calls (Says_ok (z := (o, [])) (fun i v hv => by simp [spansV] at hv) ⟨by show okOff o; unfold okOff; omega, by simp, fun i hi => by simp at hi⟩ (x1 + gapF g) (by omega)) fun w9 hd9 => ?_
    rw [atM_one o _ (by omega), downI_eq (by omega)]
    have hdv : (x1 + gapF g).tdiv 86400 = (x1 + gapF g) / 86400 := Int.tdiv_eq_ediv_of_nonneg (by omega)
    have I9 := I8.below hd9
    refine ⟨_, _, _, rfl, .all hd9, fun ls W => match ls with | [.bool t] => t = false ∧ DInv w gaps o [m2, m1] x1 a1 n1 c1 a2 n2 c2 x2 W | _ => False, ⟨fun h => absurd rfl h, fun _ => ?_⟩, ?_⟩
    · show ((86400 : Int) ≠ 0 ∧ _ ≤ (x1 + gapF g).tdiv 86400 ∧ _) ∧ (_ ≤ (x1 + gapF g).tdiv 86400 - 1 ∧ _) ∧ (_ < (x1 + gapF g).tdiv 86400 - 1 → _) ∧ ((x1 + gapF g).tdiv 86400 - 1 ≤ _ → _)
      rw [hdv]
      refine ⟨by omega, by omega, fun h => by omega, fun _ => ⟨by omega, by omega, fun w13 hb13 hk13 => ⟨?_, I9.kept hk13⟩⟩⟩
      rw [decide_eq_false_iff_not]; omega
    rintro t3 w14 hb14 ⟨rfl, I14⟩
    refine ⟨fun h => (nomatch h), fun _ => ?_⟩
    show ((86400 : Int) ≠ 0 ∧ _ ≤ (x1 + gapF g).tdiv 86400 ∧ (x1 + gapF g).tdiv 86400 ≤ _) ∧ _
    refine ⟨by rw [hdv]; omega, fun w16 hb16 hk16 m20 w17 e20 e17 m21 g21 w18 hb18 hk18 hc18 => ?_⟩
    have o1 := hk16.own m1 (by simp); have o2 := hk16.own m2 (by simp)
    have q17 : w17.heap.size = w16.heap.size + 1 := by rw [e17, alloc_size]
    have q18 := hk18.size
    have hb17 : Below w16.heap.size w16 w17 := by rw [e17]; exact (Below.refl _ w16).alloc (Nat.le_refl _) _
    have I16 := I14.kept hk16
    have ht17 : w17.heap[m20]? = some (.cells #[I 0] 3 (0, 0)) := by rw [e17, e20]; exact World.alloc_heap_new w16 _
    clear e17
    have ht18 : w18.heap[m20]? = some (.cells #[I 0] 3 (0, 0)) := by rw [hk18.block m20 (by omega) (by simp; omega)]; exact ht17
    obtain ⟨ds1, ds2, f1, f2, D1, D2, hdis⟩ := I16.ex
    have l1 : ds1.length ≤ 12 := by
      have := congrArg List.length f1
      have h3 := atsF_len (gaps.take x2.toNat) 86400
      rw [List.length_map, List.length_map, h3, List.length_take] at this
      omega
    have l2 : ds2.length ≤ 12 := by
      have := congrArg List.length f2
      have h3 := atsF_len (gaps.take x2.toNat) 86400
      rw [List.length_map, List.length_map, h3, List.length_take] at this
      omega
    have K18 : ∀ b, b < w16.heap.size → b ∉ [m2, m1] → w18.heap[b]? = w16.heap[b]? := fun b h1 h2 => by
      rw [hk18.block b (by omega) (by simp at h2 ⊢; omega), hb17.block b h1]
    have D1b := D1.same (W' := w18) (own' := [m21, m2, m1]) (fun b hu => K18 b (D1.lt hu).1 (D1.lt hu).2) fun b hu => by have := D1.lt hu; simp at this ⊢; omega
    have D2b := D2.same (W' := w18) (own' := [m21, m2, m1]) (fun b hu => K18 b (D2.lt hu).1 (D2.lt hu).2) fun b hu => by have := D2.lt hu; simp at this ⊢; omega
    have q16 := hb16.size; have z18 := hb18.size
    refine appDay D1b z18 (by omega) (E := usedD a2 ds2) hdis (fun b hb => (D2b.lt hb).1) (fun y hy => hk18.own y hy) hc18 ht18 (by simp; omega) (fun hu => by have := (D2.lt hu).1; omega) fun a3 c3 w19 D1c dis3 sameE S c19 hS => ?_
    have q19 := c19.size
    refine ⟨_, _, _, rfl, c19.own (fun y hy => ⟨hk18.own y hy, fun h => (hS y h).2 hy⟩) (by simp) (fun _ => ⟨z18, fun s hs => (hS s hs).1⟩), fun w20 hb20 hk20 m26 w21 e26 e21 m27 g27 w22 hb22 hk22 hc22 => ?_⟩
    have q20 := hk20.size; have q22 := hk22.size; have z22 := hb22.size
    have q21 : w21.heap.size = w20.heap.size + 1 := by rw [e21, alloc_size]
    have hb21 : Below w20.heap.size w20 w21 := by rw [e21]; exact (Below.refl _ w20).alloc (Nat.le_refl _) _
    have ht21 : w21.heap[m26]? = some (.cells #[I 0] 3 (0, 0)) := by rw [e21, e26]; exact World.alloc_heap_new w20 _
    clear e21
    have o21 := hk20.own m21 (by simp)
    have ht22 : w22.heap[m26]? = some (.cells #[I 0] 3 (0, 0)) := by rw [hk22.block m26 (by omega) (by simp; omega)]; exact ht21
    have D2c := D2b.same (W' := w19) (own' := [m21, m2, m1]) (fun b hu => sameE b hu) fun b hu => (D2b.lt hu).2
    have K22 : ∀ b, b < w19.heap.size → b ∉ [m21, m2, m1] → w22.heap[b]? = w19.heap[b]? := fun b h1 h2 => by
      rw [hk22.block b (by omega) (by simp at h2 ⊢; omega), hb21.block b (by omega), hk20.block b h1 h2]
    have D1d := D1c.same (W' := w22) (own' := [m27, m21, m2, m1]) (fun b hu => K22 b (D1c.lt hu).1 (D1c.lt hu).2) fun b hu => by have := D1c.lt hu; simp at this ⊢; omega
    have D2d := D2c.same (W' := w22) (own' := [m27, m21, m2, m1]) (fun b hu => K22 b (D2c.lt hu).1 (D2c.lt hu).2) fun b hu => by have := D2c.lt hu; simp at this ⊢; omega
    refine appDay D2d z22 (by omega) (E := usedD a3 (ds1 ++ [((x1 + gapF g).tdiv 86400, some ⟨m20, 0, none⟩, 1)])) (fun b hu hE => dis3 b hE hu) (fun b hb => (D1d.lt hb).1) (fun y hy => hk22.own y hy) hc22 ht22 (by simp; omega) (fun hu => by have := (D1c.lt hu).1; omega) fun a4 c4 w23 D2e dis4 sameE4 S4 c23 hS4 => ?_
    have D1e := D1d.same (W' := w23) (own' := [m27, m21, m2, m1]) (fun b hu => sameE4 b hu) fun b hu => (D1d.lt hu).2
    refine ⟨_, _, _, rfl, c23.own (fun y hy => ⟨hk22.own y hy, fun h => (hS4 y h).2 hy⟩) (by simp) (fun _ => ⟨z22, fun s hs => (hS4 s hs).1⟩), by omega, fun w24 hb24 hk24 => ⟨?_, ?_⟩⟩
    rotate_left
    · show ((gaps.length : Int) - (x2 + 1)).toNat < ((gaps.length : Int) - x2).toNat
      omega
    have hk : gaps.take (x2 + 1).toNat = gaps.take x2.toNat ++ [g] := by
      rw [show (x2 + 1).toNat = x2.toNat + 1 by omega, List.take_add_one, getElem_of_lt hi, hG]; rfl
    refine ⟨⟨_, _, ?_, ?_, D1e.same (W' := w24) (own' := [m2, m1]) (fun b hu => hk24.block b (D1e.lt hu).1 (D1e.lt hu).2) (fun b hu => by have := (D1e.lt hu).2; simp at this ⊢; omega), D2e.same (W' := w24) (own' := [m2, m1]) (fun b hu => hk24.block b (D2e.lt hu).1 (D2e.lt hu).2) (fun b hu => by have := (D2e.lt hu).2; simp at this ⊢; omega), fun b h1 h2 => dis4 b h2 h1⟩, by omega, ?_⟩
    · rw [hk, atsF_snoc, List.map_append, List.map_append, f1, ← hat]
      simp [hdv]
    · rw [hk, atsF_snoc, List.map_append, List.map_append, f2, ← hat]
      simp
    · rw [hk, atF_snoc, ← hat]
  have hm20 : g0.tmod 20 = g0 % 20 := Int.tmod_eq_emod_of_nonneg h0.1
  have hm9 : g1.tmod 9 = g1 % 9 := Int.tmod_eq_emod_of_nonneg h1.1
  have hm20b : 0 ≤ g0.tmod 20 ∧ g0.tmod 20 ≤ 19 := by rw [hm20]; omega
  have hm9b : 0 ≤ g1.tmod 9 ∧ g1.tmod 9 ≤ 8 := by rw [hm9]; omega
  have hdv : x1.tdiv 86400 = x1 / 86400 := Int.tdiv_eq_ediv_of_nonneg (by omega)
  have hdb : 1 ≤ x1.tdiv 86400 ∧ x1.tdiv 86400 ≤ 100 := by rw [hdv]; omega
  generalize hN : 2 + g0.tmod 20 = N
  generalize hU : x1.tdiv 86400 + g1.tmod 9 = U
  have hNb : 2 ≤ N ∧ N ≤ 21 := by omega
  have hUb : 0 ≤ U ∧ U ≤ 36524 := by omega
  refine ⟨by omega, by omega, by omega, by omega, by omega, by omega, by omega, by omega, fun m32 g32 w25 hb25 hk25 hc25 => ?_⟩
  have o1 := hk25.own m1 (by simp); have o2 := hk25.own m2 (by simp)
  have I25 := I7.same (W' := w25) (own' := [m32, m2, m1]) (fun b h1 h2 => hk25.block b h1 (by simp at h2 ⊢; omega)) (fun b hb => by simp at hb ⊢; omega)
  refine (pubGoing_one (g := N - 1) (Cells.obj (vs := [I (N - 1)]) hc25)).mono fun e w26 he => ?_
  obtain ⟨ra, rc, wa, wc, va, vc, S, rfl, hb26, hR26⟩ := he
  refine ⟨_, _, _, _, _, _, _, _, _, _, _, rfl, .all hb26, fun w27 hb27 hk27 => ?_⟩
  have o32 := hk25.own m32 (by simp)
  have I27 := (I25.below hb26).kept hk27
  have hR27 : RuIn (oneR (N - 1)) ra wa va S w27 := hR26 w27 fun k h1 h2 => hk27.block k h2 (by simp; omega)
  obtain ⟨ds1, ds2, f1, f2, D1, D2, _⟩ := I27.ex
  have hl12 : (gaps.take x2.toNat).length ≤ 12 := by rw [List.length_take]; omega
  have l1 : ds1.length ≤ 12 := by
    have := congrArg List.length f1
    rw [List.length_map, List.length_map, atsF_len] at this
    omega
  have l2 : ds2.length ≤ 12 := by
    have := congrArg List.length f2
    rw [List.length_map, List.length_map, atsF_len] at this
    omega
  obtain rfl := D1.len
  obtain rfl := D2.len
  refine Pure.calls (Stops_one (t := Tg (N - 1)) hR27 (oneR_ok (by omega)) D1.days (days_ok f1 hgt hl12 (by omega) (by omega)) hUb rfl) fun w28 hd28 => ⟨_, _, _, rfl, .all hd28, fun m42 g42 w29 hb29 hk29 hc29 => ?_⟩
  have q26 := hb26.size; have q27 := hk27.size; have q28 := hd28.size; have q29 := hk29.size
  have o42 := hk29.own m42 (by simp)
  have D2a := D2.same (W' := w29) (own' := [m42, m32, m2, m1]) (fun b hu => by
    have := D2.lt hu
    rw [hk29.block b (by omega) (by simp at this ⊢; omega), hd28.block b this.1]) fun b hu => by have := D2.lt hu; simp at this ⊢; omega
  refine (pubGoing_one (g := N) (Cells.obj (vs := [I N]) hc29)).mono fun e w30 he => ?_
  obtain ⟨ra', rc', wa', wc', va', vc', S', rfl, hb30, hR30⟩ := he
  refine ⟨_, _, _, _, _, _, _, _, _, _, _, rfl, .all hb30, fun w31 hb31 hk31 => ?_⟩
  have hR31 : RuIn (oneR N) ra' wa' va' S' w31 := hR30 w31 fun k h1 h2 => hk31.block k h2 (by simp; omega)
  have D2b := D2a.same (W' := w31) (own' := [m42, m32, m2, m1]) (fun b hu => by
    have hl := D2a.lt hu
    have q30 := hb30.size
    rw [hk31.block b (by omega) hl.2, hb30.block b (by omega)]) fun b hu => (D2a.lt hu).2
  refine Pure.calls (Stops_one (t := Tg N) hR31 (oneR_ok (by omega)) D2b.days (days_ok f2 hgt hl12 (by omega) (by omega)) hUb rfl) fun w32 hd32 => ⟨_, _, _, rfl, .all hd32, ?_⟩
  have key : (stopsF (N - 1) U (N - 1) (ds1.map (·.1))).1 ≠ 0 → (stopsF N U N (ds2.map (·.1))).1 = -1 := fun h => by
    rw [f1] at h
    rw [f2]
    refine days_law (l := gaps.take x2.toNat) (a := 86400) (by omega) hgt hNb.1 ?_
    simpa using h
  have or1 := stopsF_or (N - 1) U (ds1.map (·.1)) (N - 1)
  have or2 := stopsF_or N U (ds2.map (·.1)) N
  show ∃ F5 : List Lf → World → Prop, _
  generalize hx1 : (stopsF (N - 1) U (N - 1) (ds1.map (·.1))).1 = X at key or1
  generalize hx2 : (stopsF N U N (ds2.map (·.1))).1 = Y at key or2
  refine ⟨fun ls _ => match ls with | [.bool t] => t = false | _ => False, ⟨fun h => absurd rfl h, fun _ => ⟨fun h => absurd rfl h, fun _ => ⟨fun h => by omega, fun _ w37 _ _ => by show decide (0 < Y) = false; rw [decide_eq_false_iff_not]; omega⟩⟩⟩, ?_⟩
  rintro t4 w38 hb38 rfl
  refine ⟨fun h => (nomatch h), fun _ => ⟨fun ls _ => match ls with | [.bool t] => t = true | _ => False, ⟨fun hz w41 hb41 _ => ?_, fun hz => ⟨fun hy w47 hb47 _ => ?_, fun hy => by have := key hz; omega⟩⟩, ?_⟩⟩
  · refine Pure.calls (pubTowns_any w41) fun w42 hd42 => ⟨_, rfl, .all hd42, fun _ w43 hb43 _ => ?_, fun h => (nomatch h)⟩
    exact Pure.calls pubRound_any fun w44 hd44 => ⟨_, rfl, .all hd44, fun w45 _ _ => rfl⟩
  · refine Pure.calls (pubTowns_any w47) fun w48 hd48 => ⟨_, rfl, .all hd48, fun _ w49 hb49 _ => ?_, fun h => (nomatch h)⟩
    exact Pure.calls pubRound_any fun w50 hd50 => ⟨_, rfl, .all hd50, fun w51 _ _ => rfl⟩
  · rintro t9 w54 hb54 rfl w55 hb55 _
    exact ⟨rfl, hb55⟩
end Go.Proofs.RT
end
section
/- The laws' arguments, opened. -/
namespace Go.Proofs.RT
open Go.Vc Go.RowKit Go.Proofs

theorem Tryz.own : ownKnob Tryz.prog.godebug = none := by kernel_rfl
theorem Tryz.laidOut : laidOutB Tryz.prog = true := by kernel_rfl
abbrev Lu : Leaf := .int .u8
theorem leaves_i16 : leaves Tryz.prog 5 22 = some [.int .i16] := by kernel_rfl
theorem agg_i16 : isAggB Tryz.prog 22 = false := by kernel_rfl
theorem leaves_u8s : leaves Tryz.prog 7 23 = some [.sl [Lu]] := by kernel_rfl
theorem agg_u8s : isAggB Tryz.prog 23 = false := by kernel_rfl
theorem leaves_b2 : leaves Tryz.prog 7 24 = some [Lu, Lu] := by kernel_rfl
theorem agg_b2 : isAggB Tryz.prog 24 = true := by kernel_rfl
section
variable {w : World}
theorem take_u8 {ls : List Leaf} {cs : List Value} (h : LeavesAre w (Lu :: ls) cs) : ∃ x r, cs = .int .u8 x :: r ∧ (0 ≤ x ∧ x ≤ 255) ∧ LeavesAre w ls r := by
  obtain ⟨v, r, rfl, h1, h2⟩ := h.cons'
  obtain ⟨x, rfl, hx⟩ := h1.int'
  exact ⟨x, r, rfl, by simpa [rng, IntKind.min, IntKind.max] using hx, h2⟩
theorem take_u8s {v : Value} (h : LeafIs w (.sl [Lu]) v) : ∃ a c, ∃ l : List Int, v = .slice a l.length c ∧ l.length ≤ maxLen ∧ (∀ x ∈ l, 0 ≤ x ∧ x ≤ 255) ∧ Cells w a (u8s l) := by
  obtain ⟨a, c, l, rfl, h1, h2, h3, h4⟩ := h.sl' (fun b : Int => [Value.int .u8 b]) (fun x => 0 ≤ x ∧ x ≤ 255) fun x hx => by
    obtain ⟨x0, r, rfl, g0, hx⟩ := take_u8 hx
    rw [hx.nil']
    exact ⟨x0, rfl, g0⟩
  refine ⟨a, c, l, rfl, by omega, h4, ?_⟩
  have e : (l.flatMap fun b : Int => [Value.int .u8 b]) = u8s l := by
    clear h h1 h2 h3 h4
    induction l with
    | nil => rfl
    | cons x l ih => rw [List.flatMap_cons, ih]; rfl
  rw [← e]
  exact h3
variable {w : World} {H : Type} {enc : TypeId × Value → H} {base b0 : Nat} {held : Bool} {spare : Nat → Bool} {reach : Reach}
set_option maxRecDepth 100000 in
theorem open_i16 {v : Value} {d : DataW H} {ps : List MemPlace} (hv : Value.okWide Tryz.prog w reach b0 22 v) (hd : DataW.Trod enc Tryz.prog w base spare held 22 v d ps) : ∃ x, v = .int .i16 x ∧ (-32768 ≤ x ∧ x ≤ 32767) := by
  obtain ⟨x, rfl, hx⟩ := (Go.Vc.open_one agg_i16 leaves_i16 hv hd).int'
  exact ⟨x, rfl, by simpa [rng, IntKind.min, IntKind.max] using hx⟩
set_option maxRecDepth 100000 in
theorem open_u8s {v : Value} {d : DataW H} {ps : List MemPlace} (hv : Value.okWide Tryz.prog w reach b0 23 v) (hd : DataW.Trod enc Tryz.prog w base spare held 23 v d ps) : ∃ a c, ∃ l : List Int, v = .slice a l.length c ∧ l.length ≤ maxLen ∧ (∀ x ∈ l, 0 ≤ x ∧ x ≤ 255) ∧ Cells w a (u8s l) := take_u8s (Go.Vc.open_one agg_u8s leaves_u8s hv hd)
set_option maxRecDepth 100000 in
theorem open_b2 {v : Value} {d : DataW H} {ps : List MemPlace} (hv : Value.okWide Tryz.prog w reach b0 24 v) (hd : DataW.Trod enc Tryz.prog w base spare held 24 v d ps) : ∃ x0 x1 : Int, v = .agg #[.int .u8 x0, .int .u8 x1] ∧ (0 ≤ x0 ∧ x0 ≤ 255) ∧ 0 ≤ x1 ∧ x1 ≤ 255 := by
  obtain ⟨cs, rfl, h⟩ := Go.Vc.open_agg agg_b2 leaves_b2 hv hd
  obtain ⟨x0, _, rfl, g0, h⟩ := take_u8 h
  obtain ⟨x1, _, rfl, g1, h⟩ := take_u8 h
  rw [h.nil']
  exact ⟨x0, x1, rfl, g0, g1⟩
end
end Go.Proofs.RT
end
