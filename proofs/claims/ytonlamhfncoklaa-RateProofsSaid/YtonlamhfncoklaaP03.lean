/- Part 3: own lemmas, and the conditions of the functions. -/
import Derived.Laws.IdiomRangeMap
import Derived.Test.YtonlamhfncoklaaP02
section
/- Ranges over maps that the loop does not write. -/
namespace Go.Vc
open Go.RowKit

/-- A map in memory, entry by entry. -/
structure MapB {K : Type} (w : World) (tm : Nat) (enc : K → Value) (m : List (K × Value)) (es : Array MapEntry) (clock : Nat) : Prop where
  at_ : w.heap[tm]? = some (.map es clock)
  is : es.toList.map (fun e => (e.key, e.val)) = m.map fun x => (enc x.1, x.2)
  nd : (es.toList.map (·.born)).Nodup
  old : ∀ e ∈ es.toList, e.born < clock

/-- An iterator over it: 'seen': the keys that it has handed out. -/
structure IterB {K : Type} (w : World) (it tm : Nat) (enc : K → Value) (m : List (K × Value)) (seen : List K) (es : Array MapEntry) (clock : Nat) (sn : Array Nat) : Prop where
  map : MapB w tm enc m es clock
  iter : w.heap[it]? = some (.mapIter (some tm) clock sn clock)
  ne : it ≠ tm
  sn : ∀ (i : Nat) (e : MapEntry) (x : K × Value), es.toList[i]? = some e → m[i]? = some x → (sn.contains e.born = true ↔ x.1 ∈ seen)

section
variable {P : Program} {K : Type} {enc : K → Value} {m : List (K × Value)} {es : Array MapEntry} {clock : Nat} {w w' : World} {tm it : Nat} {seen : List K} {sn : Array Nat}

theorem MapB.keep (h : MapB w tm enc m es clock) (hb : w'.heap[tm]? = w.heap[tm]?) : MapB w' tm enc m es clock := ⟨hb.trans h.at_, h.is, h.nd, h.old⟩
theorem MapB.lt (h : MapB w tm enc m es clock) : tm < w.heap.size := lt_of_some h.at_
theorem MapB.mapIs (h : MapB w tm enc m es clock) : MapIs w tm enc m := ⟨es, clock, h.at_, h.is⟩
theorem IterB.keep (h : IterB w it tm enc m seen es clock sn) (hb : w'.heap[tm]? = w.heap[tm]?) (hi : w'.heap[it]? = w.heap[it]?) : IterB w' it tm enc m seen es clock sn := ⟨h.map.keep hb, hi.trans h.iter, h.ne, h.sn⟩
theorem IterB.chg {S : List Nat} (h : IterB w it tm enc m seen es clock sn) (hc : Chg S w w') (h1 : tm ∉ S) (h2 : it ∉ S) : IterB w' it tm enc m seen es clock sn := h.keep (hc.keep _ h.map.lt h1) (hc.keep _ (lt_of_some h.iter) h2)
theorem IterB.lt (h : IterB w it tm enc m seen es clock sn) : it < w.heap.size := lt_of_some h.iter

theorem range_map {t kt vt : TypeId} (ht : P.underlying t = some (.map kt vt)) (h : MapB w tm enc m es clock) {R : Value → World → Prop}
    (hR : ∀ w', Below w.heap.size w w' → IterB w' w.heap.size tm enc m [] es clock #[] → R (.pointer (some ⟨w.heap.size, 0, none⟩)) w') : RunsTo P (Instr.range t (.map (some tm))) w R := by
  refine ⟨_, _, run_range_map w t kt vt tm es clock ht h.at_, hR _ ((Below.refl _ _).alloc (Nat.le_refl _) _) ⟨⟨?_, h.is, h.nd, h.old⟩, ?_, ?_, fun i e x _ _ => by simp⟩⟩
  · rw [show (w.alloc (.mapIter (some tm) clock #[] clock)).heap[tm]? = w.heap[tm]? from by show (w.heap.push _)[tm]? = _; rw [Array.getElem?_push, if_neg (by have := h.lt; omega)]]; exact h.at_
  · exact heap_alloc_new w _
  · have := h.lt; omega

/-- The iterator handed this one out at last. -/
structure IterE {K : Type} (w : World) (it tm : Nat) (enc : K → Value) (m : List (K × Value)) (seen : List K) (es : Array MapEntry) (clock : Nat) (sn : Array Nat) (k : K) (v : Value) : Prop where
  iter : IterB w it tm enc m seen es clock sn
  last : ∃ e ∈ es.toList, e.key = enc k ∧ e.val = v ∧ sn.back? = some e.born

theorem entry_map {k : K} {v : Value} (h : IterE w it tm enc m seen es clock sn k v) {R : Value → World → Prop} (hR : R (.tuple #[enc k, v]) w) : RunsTo P (Instr.entry (.pointer (some ⟨it, 0, none⟩))) w R := by
  obtain ⟨hi, e, he, e1, e2, hb⟩ := h
  have hf : es.find? (·.born == e.born) = some e := by rw [← Array.find?_toList]; exact find_born e es.toList hi.map.nd he
  refine ⟨_, w, ?_, hR⟩
  simp only [Instr.entry, getObj, Sem.run_bind, Sem.run, hi.iter, hi.map.at_, Result.andThen, hb, bne_self_eq_false, Bool.false_eq_true, if_false, hf, e1, e2]
  rfl

theorem run_next (ty : TypeId) (hit : w.heap[it]? = some (.mapIter (some tm) clock sn clock)) (hb : w.heap[tm]? = some (.map es clock)) (hold : ∀ x ∈ es.toList, x.born < clock) :
    ((leftOf es sn).size = 0 ∧ (Instr.next (.pointer (some ⟨it, 0, none⟩)) false ty).run P w = .ok (.tuple #[.bool false]) w) ∨
    ∃ e ∈ (leftOf es sn).toList, ∃ w1 : World, (w1 = w ∨ w1 = w.drew) ∧ (Instr.next (.pointer (some ⟨it, 0, none⟩)) false ty).run P w = .ok (.tuple #[.bool true, e.key, e.val]) (w1.putObj it (.mapIter (some tm) clock (sn.push e.born) clock)) := by
  simp only [Instr.next, getObj, Sem.run_bind, Sem.run, hit, hb, Result.andThen, next_test_false sn es clock clock hold (Nat.le_refl _), Bool.false_eq_true, if_false]
  unfold leftOf
  have hmem : ∀ x ∈ (Array.filter (fun e => !sn.contains e.born) es).toList, x.born < clock := fun x hx => hold x (by simp at hx ⊢; exact hx.1)
  generalize Array.filter (fun e => !sn.contains e.born) es = L at hmem ⊢
  have e1 : L.filter (fun x => decide (x.born < clock)) = L := Array.filter_eq_self.2 (fun x hx => by simpa using hmem x (by simpa using hx))
  have e2 : L.filter (fun x => decide (x.born ≥ clock)) = #[] := by
    rw [Array.filter_eq_empty_iff]
    intro x hx
    have := hmem x (by simpa using hx)
    simp
    omega
  simp only [e1, e2, Array.append_empty]
  by_cases h0 : L.size = 0
  · left
    have : L = #[] := Array.eq_empty_of_size_eq_zero h0
    subst this
    refine ⟨rfl, ?_⟩
    simp [choose, Sem.run, Question.forced]
  · right
    have hne : L.isEmpty = false := by simp [Array.isEmpty, h0]
    simp only [hne, Bool.false_eq_true, if_false, Array.empty_append, Array.size_map]
    have hch : ∃ (j : Nat) (w1 : World), j < L.size ∧ (w1 = w ∨ w1 = w.drew) ∧ (choose (Question.mapNext L.size)).run P w = .ok j w1 := by
      by_cases hf : L.size ≤ 1
      · exact ⟨0, w, by omega, .inl rfl, by simp [choose, Sem.run, Question.forced, hf]⟩
      · exact ⟨_, w.drew, Nat.mod_lt _ (by omega), .inr rfl, by
          simp only [choose, Sem.run, Question.forced, decide_eq_true_eq, hf, if_false, Question.cut]
          rfl⟩
    obtain ⟨j, w1, hj, hal, hrun⟩ := hch
    refine ⟨L[j], by simp, w1, hal, ?_⟩
    have hit1 : w1.heap[it]? = some (.mapIter (some tm) clock sn clock) := by rcases hal with rfl | rfl <;> exact hit
    have hset : ∀ (o' : Obj), (setObj it o').run P w1 = .ok () (w1.putObj it o') := fun o' => by
      simp only [setObj, Sem.run]
      rw [hit1]
      rfl
    simp only [hrun, Array.getElem?_map, Array.getElem?_eq_getElem hj, Option.map_some, Sem.run_bind, hset, Result.andThen]
    rfl

theorem next_map {ty : TypeId} (h : IterB w it tm enc m seen es clock sn) (hnk : (m.map (·.1)).Nodup) {R : Value → World → Prop}
    (h1 : ∀ k v w' sn', (k, v) ∈ m → k ∉ seen → Chg [it] w w' → IterE w' it tm enc m (k :: seen) es clock sn' k v → R (.tuple #[.bool true, enc k, v]) w')
    (h2 : (∀ x ∈ m, x.1 ∈ seen) → R (.tuple #[.bool false]) w) : RunsTo P (Instr.next (.pointer (some ⟨it, 0, none⟩)) false ty) w R := by
  have hlen : es.toList.length = m.length := by simpa using congrArg List.length h.map.is
  have pair : ∀ (i : Nat) (e : MapEntry) (x : K × Value), es.toList[i]? = some e → m[i]? = some x → e.key = enc x.1 ∧ e.val = x.2 := fun i e x he hx => by
    have := congrArg (fun l => l[i]?) h.map.is
    simp only [List.getElem?_map, he, hx, Option.map_some, Option.some.injEq, Prod.mk.injEq] at this
    exact this
  rcases run_next (P := P) ty h.iter h.map.at_ h.map.old with ⟨h0, hr⟩ | ⟨e, he, w1, hw1, hr⟩
  · refine ⟨_, w, hr, h2 fun x hx => ?_⟩
    obtain ⟨i, hi, rfl⟩ := List.mem_iff_getElem.1 hx
    have hie : i < es.toList.length := by omega
    have hc := (h.sn i es.toList[i] m[i] (List.getElem?_eq_getElem hie) (List.getElem?_eq_getElem hi)).1
    refine hc ?_
    have hL : leftOf es sn = #[] := Array.eq_empty_of_size_eq_zero h0
    unfold leftOf at hL
    rw [Array.filter_eq_empty_iff] at hL
    have := hL es.toList[i] (by rw [← Array.mem_toList_iff]; exact List.getElem_mem hie)
    simpa using this
  · have hmem : e ∈ es.toList ∧ sn.contains e.born = false := by
      simp only [leftOf, Array.toList_filter, List.mem_filter, Bool.not_eq_true'] at he
      exact he
    obtain ⟨i, hi, rfl⟩ := List.mem_iff_getElem.1 hmem.1
    have him : i < m.length := by omega
    have hei : es.toList[i]? = some es.toList[i] := List.getElem?_eq_getElem hi
    have hmi : m[i]? = some m[i] := List.getElem?_eq_getElem him
    obtain ⟨q1, q2⟩ := pair i _ _ hei hmi
    have hno : m[i].1 ∉ seen := fun hs => by
      have := (h.sn i _ _ hei hmi).2 hs
      rw [hmem.2] at this; cases this
    have hsame : w1.heap = w.heap ∧ w1.os = w.os ∧ w1.tape = w.tape ∧ w1.output = w.output := by rcases hw1 with rfl | rfl <;> exact ⟨rfl, rfl, rfl, rfl⟩
    have hlt : it < w1.heap.size := by rw [hsame.1]; exact h.lt
    have hcg : Chg [it] w (w1.putObj it (.mapIter (some tm) clock (sn.push es.toList[i].born) clock)) := ⟨hsame.2.1, hsame.2.2.1, hsame.2.2.2, by rw [World.putObj_size, hsame.1]; exact Nat.le_refl _, fun k hk hn => by
      rw [World.putObj_heap_other (by simpa using hn), hsame.1]⟩
    refine ⟨_, _, hr, ?_⟩
    rw [q1, q2]
    refine h1 m[i].1 m[i].2 _ _ (List.getElem_mem him) hno hcg ⟨⟨h.map.keep (hcg.keep _ h.map.lt (by simpa using fun e => h.ne e.symm)), World.putObj_heap_same hlt, h.ne, fun j e' x' hj hx' => ?_⟩, es.toList[i], hmem.1, q1, q2, by simp⟩
    have hold := h.sn j e' x' hj hx'
    rw [Array.contains_push]
    simp only [Bool.or_eq_true, beq_iff_eq, List.mem_cons]
    by_cases hji : j = i
    · subst hji
      rw [hei] at hj; rw [hmi] at hx'
      obtain rfl := Option.some.inj hj
      obtain rfl := Option.some.inj hx'
      simp
    · have hb : e'.born ≠ es.toList[i].born := fun hbe => by
        obtain ⟨hjl, hje⟩ := List.getElem?_eq_some_iff.1 hj
        have := (List.getElem_inj (i := j) (j := i) (h₀ := by simpa using hjl) (h₁ := by simpa using hi) h.map.nd).1 (by simp only [List.getElem_map]; rw [hje]; exact hbe)
        exact hji this
      have hk : x'.1 ≠ m[i].1 := fun hke => by
        obtain ⟨hjl, hje⟩ := List.getElem?_eq_some_iff.1 hx'
        have := (List.getElem_inj (i := j) (j := i) (h₀ := by simpa using hjl) (h₁ := by simpa using him) hnk).1 (by simp only [List.getElem_map]; rw [hje]; exact hke)
        exact hji this
      constructor
      · rintro (h | h)
        · exact .inr (hold.1 h)
        · exact absurd h (by first | exact hb | exact fun e => hb e.symm)
      · rintro (h | h)
        · exact absurd h hk
        · exact .inl (hold.2 h)

theorem MapB.update [DecidableEq K] {kt mt vt : TypeId} (hk : KeyLaw P kt enc) (hmt : P.underlying mt = some (.map kt vt)) (h : MapB w tm enc m es clock) (k : K) (v : Value) (hn : m.lookup k = none) {R : Value → World → Prop}
    (hR : ∀ w' es', MapB w' tm enc (m ++ [(k, v)]) es' (clock + 1) → Chg [tm] w w' → w'.heap.size = w.heap.size → R (.tuple #[]) w') :
    RunsTo P ((Instr.mapUpdate mt (.map (some tm)) (enc k) v) >>= fun _ => pure (Value.tuple #[])) w R := by
  obtain ⟨r, hr, hr2⟩ := run_findKey hk k w es.toList m h.is
  rw [hn] at hr2
  subst hr2
  have hg : (getObj tm).run P w = .ok (.map es clock) w := by simp [getObj, Sem.run, h.at_]
  have hrun : (Instr.mapUpdate mt (.map (some tm)) (enc k) v).run P w = .ok () (w.putObj tm (.map (es.push { key := enc k, val := v, born := clock }) (clock + 1))) := by
    simp [Instr.mapUpdate, Sem.run_bind, run_underlying hmt, hg, hk.chk, hr, setObj, Sem.run, h.at_, World.putObj]
  refine ⟨.tuple #[], _, by simp only [Sem.run_bind, hrun, Result.andThen_ok, Sem.run_pure], hR _ (es.push { key := enc k, val := v, born := clock }) ⟨World.putObj_heap_same h.lt, by simp [h.is], ?_, fun e he => ?_⟩ Chg.putObj (by rw [World.putObj_size])⟩
  · rw [Array.toList_push, List.map_append, List.nodup_append]
    refine ⟨h.nd, by simp, fun x hx y hy => ?_⟩
    obtain ⟨e, he, rfl⟩ := List.mem_map.1 hx
    simp only [List.map_cons, List.map_nil, List.mem_singleton] at hy
    have := h.old e he
    omega
  · rw [Array.toList_push] at he
    rcases List.mem_append.1 he with he | he
    · have := h.old e he; omega
    · simp only [List.mem_singleton] at he
      subst he
      show clock < clock + 1
      omega
end
end Go.Vc
end
