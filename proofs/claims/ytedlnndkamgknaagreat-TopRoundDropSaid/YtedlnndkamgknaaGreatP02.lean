/- Part 2: own lemmas, and the conditions of the functions. -/
import Derived.Test.YtedlnndkamgknaaGreatP01
section
/- The order of a drawn region: what its test says. -/
namespace Go.Vc
open Go.RowKit

theorem ancMask_spec {acc : List Nat} {j : Nat} : ∀ {es : List Edge} {m : Nat}, Nat.testBit (ancMask acc es m) j = true → Nat.testBit m j = true ∨ ∃ e ∈ es, Region.binds .any e = true ∧ (j = e.on ∨ Nat.testBit (acc.getD e.on 0) j = true)
  | [], m, h => .inl h
  | e :: es, m, h => by
    simp only [ancMask] at h
    cases hb : Region.binds .any e <;> simp only [hb, cond_true, cond_false] at h
    · rcases ancMask_spec h with h | ⟨e', he', h⟩
      · exact .inl h
      · exact .inr ⟨e', List.mem_cons_of_mem _ he', h⟩
    · rcases ancMask_spec h with h | ⟨e', he', h⟩
      · simp only [Nat.testBit_or, Bool.or_eq_true] at h
        rcases h with h | h | h
        · exact .inl h
        · refine .inr ⟨e, List.mem_cons_self, hb, .inl ?_⟩
          rw [Nat.one_shiftLeft, Nat.testBit_two_pow] at h
          exact (by simpa using h : e.on = j).symm
        · exact .inr ⟨e, List.mem_cons_self, hb, .inr h⟩
      · exact .inr ⟨e', List.mem_cons_of_mem _ he', h⟩

theorem getD_append_left {acc : List Nat} {x : List Nat} {i : Nat} (h : i < acc.length) : (acc ++ x).getD i 0 = acc.getD i 0 := by
  simp [List.getD_eq_getElem?_getD, List.getElem?_append_left h]

theorem ancAll_spec : ∀ (l : List Oper) (acc : List Nat), (∀ i, i < acc.length → (ancAll l acc).getD i 0 = acc.getD i 0) ∧ (∀ i o, l[i]? = some o → ∃ acc' : List Nat, (ancAll l acc).getD (acc.length + i) 0 = ancMask acc' o.after.toList 0 ∧ acc'.length = acc.length + i ∧ ∀ k, k < acc'.length → acc'.getD k 0 = (ancAll l acc).getD k 0)
  | [], acc => ⟨fun _ _ => rfl, fun i o h => by simp at h⟩
  | x :: l, acc => by
    obtain ⟨h1, h2⟩ := ancAll_spec l (acc ++ [ancMask acc x.after.toList 0])
    simp only [ancAll]
    refine ⟨fun i hi => by rw [h1 i (by simp; omega), getD_append_left hi], fun i o ho => ?_⟩
    cases i with
    | zero =>
      simp only [List.getElem?_cons_zero, Option.some.injEq] at ho
      subst ho
      refine ⟨acc, ?_, by simp, fun k hk => by rw [h1 k (by simp; omega), getD_append_left hk]⟩
      rw [h1 _ (by simp)]
      simp [List.getD_eq_getElem?_getD]
    | succ i =>
      simp only [List.getElem?_cons_succ] at ho
      obtain ⟨acc', e1, e2, e3⟩ := h2 i o ho
      simp only [List.length_append, List.length_cons, List.length_nil] at e1 e2
      exact ⟨acc', by rw [← e1]; congr 1; omega, by omega, e3⟩

def Closed (ops : Array Oper) (L : Nat → Prop) : Prop := ∀ i o, ops[i]? = some o → L i → ∀ e ∈ o.after, Region.binds .any e = true → L e.on

theorem anc_closed {ops : Array Oper} {L : Nat → Prop} (hL : Closed ops L) {j : Nat} : ∀ (n i : Nat), i < n → L i → Nat.testBit ((ancAll ops.toList []).getD i 0) j = true → L j
  | 0, i, h, _, _ => absurd h (Nat.not_lt_zero i)
  | n + 1, i, h, hi, hb => by
    cases ho : ops[i]? with
    | none =>
      exfalso
      have hlen : ∀ (l : List Oper) (acc : List Nat), (ancAll l acc).length = acc.length + l.length := by
        intro l
        induction l with
        | nil => intro acc; simp [ancAll]
        | cons x l ih => intro acc; simp only [ancAll, ih]; simp; omega
      have : ¬ i < (ancAll ops.toList []).length := by
        rw [hlen]; simp only [List.length_nil, Array.length_toList]
        have := Array.getElem?_eq_none_iff.1 ho
        omega
      rw [List.getD_eq_getElem?_getD, List.getElem?_eq_none (by omega)] at hb
      simp at hb
    | some o =>
      obtain ⟨acc', e1, e2, e3⟩ := (ancAll_spec ops.toList []).2 i o (by simpa using ho)
      simp only [List.length_nil, Nat.zero_add] at e1 e2
      rw [e1] at hb
      rcases ancMask_spec hb with hb | ⟨e, he, hbi, hb⟩
      · simp at hb
      · have hon := hL i o ho hi e (by simpa using he) hbi
        rcases hb with rfl | hb
        · exact hon
        · have hlt : e.on < acc'.length := by
            rcases Nat.lt_or_ge e.on acc'.length with h | h
            · exact h
            · rw [List.getD_eq_getElem?_getD, List.getElem?_eq_none h] at hb; simp at hb
          rw [e3 _ hlt] at hb
          exact anc_closed hL n e.on (by omega) hon hb

theorem mem_lazyGo {x : OpI} : ∀ {ts fl : List OpI}, x ∈ lazyGo ts fl → x ∈ ts ∨ x ∈ fl
  | [], fl, h => .inr h
  | t :: ts, fl, h => by
    simp only [lazyGo, List.mem_append, List.mem_filter, List.mem_cons] at h
    rcases h with ⟨h, _⟩ | rfl | h
    · exact .inr h
    · exact .inl List.mem_cons_self
    · rcases mem_lazyGo h with h | h
      · exact .inl (List.mem_cons_of_mem _ h)
      · exact .inr (List.mem_filter.1 h).1
theorem mem_lazyOrd {x : OpI} {l : List OpI} (h : x ∈ lazyOrd l) : x ∈ l := by
  rcases mem_lazyGo h with h | h <;> exact (List.mem_filter.1 h).1

theorem mem_opIs {P : Program} {ms : List Nat} {x : OpI} : ∀ {l : List Oper} {i : Nat}, x ∈ opIs P ms i l → ∃ j, x.i = i + j ∧ l[j]? = some x.o ∧ x.k = fkOf P x.o ∧ x.m = ms.getD x.i 0
  | [], i, h => by simp [opIs] at h
  | o :: r, i, h => by
    simp only [opIs, List.mem_cons] at h
    rcases h with rfl | h
    · exact ⟨0, rfl, rfl, rfl, rfl⟩
    · obtain ⟨j, h1, h2, h3⟩ := mem_opIs h
      exact ⟨j + 1, by omega, by simpa using h2, h3⟩

theorem okPairs_spec {ops : Array Oper} : ∀ {l : List OpI}, okPairs ops l = true → l.Pairwise fun q p => okPair ops q p = true
  | [], _ => .nil
  | q :: r, h => by
    simp only [okPairs, Bool.and_eq_true, List.all_eq_true] at h
    exact .cons h.1 (okPairs_spec h.2)

theorem dstEq_spec {a b : Option Tmp} : dstEq a b = true ↔ ∃ d, a = some d ∧ b = some d := by
  cases a <;> cases b <;> simp [dstEq]
  exact ⟨fun h => h.symm, fun h => h.symm⟩
theorem dstIn_spec {a : Option Tmp} {l : List Nat} : dstIn a l = true ↔ ∃ d, a = some d ∧ d ∈ l := by
  cases a <;> simp [dstIn, memB_spec]

/-- What is known of the order. -/
structure Lay (P : Program) (ops : Array Oper) (all : List OpI) : Prop where
  op : ∀ x ∈ all, ops[x.i]? = some x.o
  k : ∀ x ∈ all, x.k = fkOf P x.o
  anc : ∀ L : Nat → Prop, Closed ops L → ∀ x ∈ all, L x.i → ∀ j, Nat.testBit x.m j = true → L j
  cover : ∀ i, i < ops.size → ∃ x ∈ all, x.i = i
  edges : ∀ x ∈ all, ∀ e ∈ x.o.after, Region.binds .any e = true → e.on < ops.size
  pairs : all.Pairwise fun q p => okPair ops q p = true
  same : ∀ x ∈ all, ∀ y ∈ all, x.i = y.i → x = y
  self : ∀ x ∈ all, x.k.isTied = false → ∀ d, x.o.dst = some d → d ∉ looks ops x.o
  anc1 : ∀ x ∈ all, ∀ e ∈ x.o.after, Region.binds .any e = true → Nat.testBit x.m e.on = true
  irr : ∀ x ∈ all, Nat.testBit x.m x.i = false

theorem ancMask_mono {acc : List Nat} {j : Nat} : ∀ {es : List Edge} {m : Nat}, (Nat.testBit m j = true ∨ ∃ e ∈ es, Region.binds .any e = true ∧ j = e.on) → Nat.testBit (ancMask acc es m) j = true
  | [], m, h => by rcases h with h | ⟨e, he, _⟩; exact h; simp at he
  | e :: es, m, h => by
    simp only [ancMask]
    cases hb : Region.binds .any e <;> simp only [cond_true, cond_false]
    · refine ancMask_mono ?_
      rcases h with h | ⟨e', he', h1, h2⟩
      · exact .inl h
      · rcases List.mem_cons.1 he' with rfl | he'
        · rw [hb] at h1; cases h1
        · exact .inr ⟨e', he', h1, h2⟩
    · refine ancMask_mono ?_
      rcases h with h | ⟨e', he', h1, h2⟩
      · left; simp [Nat.testBit_or, h]
      · rcases List.mem_cons.1 he' with rfl | he'
        · left; simp [Nat.testBit_or, Nat.one_shiftLeft, h2]
        · exact .inr ⟨e', he', h1, h2⟩

theorem mem_markEx {f : OpI → Bool} {x : OpI} : ∀ {l : List OpI}, x ∈ markEx f l → ∃ y ∈ l, x = ⟨y.i, y.o, y.k, y.m, f y⟩
  | [], h => by simp [markEx] at h
  | y :: r, h => by
    simp only [markEx, List.mem_cons] at h
    rcases h with h | h
    · exact ⟨y, List.mem_cons_self, h⟩
    · obtain ⟨z, h1, h2⟩ := mem_markEx h
      exact ⟨z, List.mem_cons_of_mem _ h1, h2⟩
theorem opIs_x {P : Program} {ms : List Nat} {x : OpI} : ∀ {l : List Oper} {i : Nat}, x ∈ opIs P ms i l → x.x = false
  | [], i, h => by simp [opIs] at h
  | o :: r, i, h => by
    simp only [opIs, List.mem_cons] at h
    rcases h with rfl | h
    · rfl
    · exact opIs_x h

theorem lay_of {P : Program} {ops : Array Oper} {all : List OpI} {f : OpI → Bool} (ha : all = lazyOrd (markEx f (opIs P (ancAll ops.toList []) 0 ops.toList))) (h : drawOk ops all = true) : Lay P ops all := by
  have hm' : ∀ x ∈ all, ops[x.i]? = some x.o ∧ x.k = fkOf P x.o ∧ x.m = (ancAll ops.toList []).getD x.i 0 ∧ x.x = f ⟨x.i, x.o, x.k, x.m, false⟩ := fun x hx => by
    rw [ha] at hx
    obtain ⟨y, hy, rfl⟩ := mem_markEx (mem_lazyOrd hx)
    obtain ⟨j, h1, h2, h3, h4⟩ := mem_opIs hy
    have h5 := opIs_x hy
    refine ⟨?_, h3, h4, ?_⟩
    · show ops[y.i]? = some y.o
      rw [h1, Nat.zero_add]; simpa using h2
    · obtain ⟨i, o, k, m, b⟩ := y
      simp only at h5
      subst h5
      rfl
  have hm : ∀ x ∈ all, ops[x.i]? = some x.o ∧ x.k = fkOf P x.o ∧ x.m = (ancAll ops.toList []).getD x.i 0 := fun x hx => ⟨(hm' x hx).1, (hm' x hx).2.1, (hm' x hx).2.2.1⟩
  simp only [drawOk, Bool.and_eq_true, List.all_eq_true, List.any_eq_true, List.mem_range, Bool.or_eq_true, Bool.not_eq_true'] at h
  obtain ⟨h1, h2, h3⟩ := h
  refine ⟨fun x hx => (hm x hx).1, fun x hx => (hm x hx).2.1, fun L hL x hx hi j hj => ?_, fun i hi => ?_, fun x hx e he hb => ?_, okPairs_spec h1, fun x hx y hy he => ?_, fun x hx hf d hd hl => ?_, fun x hx e he hb => ?_, fun x hx => (h3 x hx).1⟩
  · rw [(hm x hx).2.2] at hj
    exact anc_closed hL _ x.i (Nat.lt_succ_self _) hi hj
  · obtain ⟨x, hx, hxi⟩ := h2 i hi
    exact ⟨x, hx, Nat.eq_of_beq_eq_true hxi⟩
  · have := (h3 x hx).2.2 e (by simpa using he)
    rw [hb] at this
    simpa [Nat.blt_eq] using this
  · obtain ⟨a1, a2, a3, a4⟩ := hm' x hx
    obtain ⟨b1, b2, b3, b4⟩ := hm' y hy
    rw [he, b1] at a1
    obtain ⟨i, o, k, m, b⟩ := x
    obtain ⟨i', o', k', m', b'⟩ := y
    simp only at he a2 a3 a4 b2 b3 b4 a1
    obtain rfl := Option.some.inj a1
    subst he
    subst a2; subst b2; subst a3; subst b3; subst a4; subst b4
    rfl
  · have := (h3 x hx).2.1
    rw [hf, dstIn_spec.2 ⟨d, hd, hl⟩] at this
    simp at this
  · obtain ⟨a1, a2, a3⟩ := hm x hx
    obtain ⟨acc', e1, _, _⟩ := (ancAll_spec ops.toList []).2 x.i x.o (by simpa using a1)
    simp only [List.length_nil, Nat.zero_add] at e1
    rw [a3, e1]
    exact ancMask_mono (.inr ⟨e, by simpa using he, hb, rfl⟩)

theorem lay_gen {P : Program} {ops : Array Oper} {all : List OpI} {ms : List Nat} {f : OpI → Bool} (ha : ∀ x ∈ all, ∃ y ∈ opIs P ms 0 ops.toList, x = ⟨y.i, y.o, y.k, y.m, f y⟩)
    (hanc : ∀ L : Nat → Prop, Closed ops L → ∀ i, L i → ∀ j, Nat.testBit (ms.getD i 0) j = true → L j)
    (hanc1 : ∀ (i : Nat) (o : Oper), ops[i]? = some o → ∀ e ∈ o.after, Region.binds .any e = true → Nat.testBit (ms.getD i 0) e.on = true)
    (h : drawOk ops all = true) : Lay P ops all := by
  have hm' : ∀ x ∈ all, ops[x.i]? = some x.o ∧ x.k = fkOf P x.o ∧ x.m = ms.getD x.i 0 ∧ x.x = f ⟨x.i, x.o, x.k, x.m, false⟩ := fun x hx => by
    obtain ⟨y, hy, rfl⟩ := ha x hx
    obtain ⟨j, h1, h2, h3, h4⟩ := mem_opIs hy
    have h5 := opIs_x hy
    refine ⟨?_, h3, h4, ?_⟩
    · show ops[y.i]? = some y.o
      rw [h1, Nat.zero_add]; simpa using h2
    · obtain ⟨i, o, k, m, b⟩ := y
      simp only at h5
      subst h5
      rfl
  have hm : ∀ x ∈ all, ops[x.i]? = some x.o ∧ x.k = fkOf P x.o ∧ x.m = ms.getD x.i 0 := fun x hx => ⟨(hm' x hx).1, (hm' x hx).2.1, (hm' x hx).2.2.1⟩
  simp only [drawOk, Bool.and_eq_true, List.all_eq_true, List.any_eq_true, List.mem_range, Bool.or_eq_true, Bool.not_eq_true'] at h
  obtain ⟨h1, h2, h3⟩ := h
  refine ⟨fun x hx => (hm x hx).1, fun x hx => (hm x hx).2.1, fun L hL x hx hi j hj => ?_, fun i hi => ?_, fun x hx e he hb => ?_, okPairs_spec h1, fun x hx y hy he => ?_, fun x hx hf d hd hl => ?_, fun x hx e he hb => ?_, fun x hx => (h3 x hx).1⟩
  · rw [(hm x hx).2.2] at hj
    exact hanc L hL x.i hi j hj
  · obtain ⟨x, hx, hxi⟩ := h2 i hi
    exact ⟨x, hx, Nat.eq_of_beq_eq_true hxi⟩
  · have := (h3 x hx).2.2 e (by simpa using he)
    rw [hb] at this
    simpa [Nat.blt_eq] using this
  · obtain ⟨a1, a2, a3, a4⟩ := hm' x hx
    obtain ⟨b1, b2, b3, b4⟩ := hm' y hy
    rw [he, b1] at a1
    obtain ⟨i, o, k, m, b⟩ := x
    obtain ⟨i', o', k', m', b'⟩ := y
    simp only at he a2 a3 a4 b2 b3 b4 a1
    obtain rfl := Option.some.inj a1
    subst he
    subst a2; subst b2; subst a3; subst b3; subst a4; subst b4
    rfl
  · have := (h3 x hx).2.1
    rw [hf, dstIn_spec.2 ⟨d, hd, hl⟩] at this
    simp at this
  · obtain ⟨a1, a2, a3⟩ := hm x hx
    rw [a3]
    exact hanc1 x.i x.o a1 e he hb

theorem ancStep_at {ms : List Nat} : ∀ {l : List Oper} {i : Nat}, (ancStep ms l).getD i 0 = match l[i]? with
    | some o => ancMask ms o.after.toList 0
    | none => 0
  | [], i => by simp [ancStep]
  | o :: r, 0 => by simp [ancStep]
  | o :: r, i + 1 => by
    have := ancStep_at (ms := ms) (l := r) (i := i)
    simpa [ancStep] using this
theorem ancIt_closed {ops : Array Oper} {L : Nat → Prop} (hL : Closed ops L) : ∀ (n : Nat) (i : Nat), L i → ∀ j, Nat.testBit ((ancIt ops.toList n).getD i 0) j = true → L j
  | 0, i, hi, j, h => anc_closed hL _ i (Nat.lt_succ_self _) hi h
  | n + 1, i, hi, j, h => by
    simp only [ancIt, ancStep_at] at h
    cases ho : ops.toList[i]? with
    | none => rw [ho] at h; simp at h
    | some o =>
      rw [ho] at h
      rcases ancMask_spec h with h | ⟨e, he, hb, h⟩
      · simp at h
      · have hon := hL i o (by simpa using ho) hi e (by simpa using he) hb
        rcases h with rfl | h
        · exact hon
        · exact ancIt_closed hL n e.on hon j h
theorem ancIt_one {ops : Array Oper} {n i : Nat} {o : Oper} (ho : ops[i]? = some o) {e : Edge} (he : e ∈ o.after) (hb : Region.binds .any e = true) : Nat.testBit ((ancIt ops.toList (n + 1)).getD i 0) e.on = true := by
  simp only [ancIt, ancStep_at]
  have : ops.toList[i]? = some o := by simpa using ho
  rw [this]
  exact ancMask_mono (.inr ⟨e, by simpa using he, hb, rfl⟩)
theorem mem_insT {x z : OpI} : ∀ {l : List OpI}, z ∈ insT x l → z = x ∨ z ∈ l
  | [], h => by simpa [insT] using h
  | y :: r, h => by
    simp only [insT] at h
    cases hb : inM x y <;> simp only [hb, cond_true, cond_false, List.mem_cons] at h
    · rcases h with rfl | h
      · exact .inr List.mem_cons_self
      · rcases mem_insT h with h | h
        · exact .inl h
        · exact .inr (List.mem_cons_of_mem _ h)
    · rcases h with rfl | rfl | h
      · exact .inl rfl
      · exact .inr List.mem_cons_self
      · exact .inr (List.mem_cons_of_mem _ h)
theorem mem_sortT {z : OpI} : ∀ {l : List OpI}, z ∈ sortT l → z ∈ l
  | [], h => h
  | y :: r, h => by
    rcases mem_insT h with rfl | h
    · exact List.mem_cons_self
    · exact List.mem_cons_of_mem _ (mem_sortT h)
theorem mem_lazyOrdT {x : OpI} {l : List OpI} (h : x ∈ lazyOrdT l) : x ∈ l := by
  rcases mem_lazyGo h with h | h
  · exact (List.mem_filter.1 (mem_sortT h)).1
  · exact (List.mem_filter.1 h).1
theorem lay_all {C : Cfg} {ops : Array Oper} {s : SS} (h : drawOk ops (drawAll C ops s) = true) : Lay C.P ops (drawAll C ops s) :=
  lay_gen (ms := ancIt ops.toList 4) (f := exTest s (opIs C.P (ancIt ops.toList 4) 0 ops.toList)) (fun _ hx => mem_markEx (mem_lazyOrdT hx)) (fun _ hL i hi j hj => ancIt_closed hL 4 i hi j hj) (fun _ _ ho _ he hb => ancIt_one ho he hb) h

structure OkP (ops : Array Oper) (q p : OpI) : Prop where
  ne : q.i ≠ p.i
  dst : ∀ d, q.o.dst = some d → p.o.dst ≠ some d
  top : inM p q = false
  tied : p.k.isTied = true → inM q p = true
  a1 : p.k.isTied = false → inM q p = false → ∀ d, q.o.dst = some d → d ∉ looks ops p.o
  a2 : p.k.isTied = false → q.k.isTied = false → ∀ d, p.o.dst = some d → d ∉ looks ops q.o

theorem okPair_spec {ops : Array Oper} {q p : OpI} (h : okPair ops q p = true) : OkP ops q p := by
  simp only [okPair, Bool.and_eq_true, Bool.not_eq_true'] at h
  obtain ⟨h1, h2, h3, h4⟩ := h
  refine { ne := fun e => (by rw [e] at h1; simp at h1), dst := fun d hq hp => (by rw [dstEq_spec.2 ⟨d, hq, hp⟩] at h2; cases h2), top := h3, tied := fun ht => by simpa [ht] using h4, a1 := fun ht hm d hd hl => ?_, a2 := fun ht hq d hd hl => ?_ }
  · simp only [ht, cond_false, hm, Bool.false_or, Bool.and_eq_true, Bool.not_eq_true'] at h4
    rw [dstIn_spec.2 ⟨d, hd, hl⟩] at h4; simp at h4
  · simp only [ht, cond_false, hq, Bool.false_or, Bool.and_eq_true, Bool.not_eq_true'] at h4
    rw [dstIn_spec.2 ⟨d, hd, hl⟩] at h4; simp at h4

theorem pairwise_sym {α : Type} {R : α → α → Prop} (hs : ∀ x y, R x y → R y x) : ∀ {l : List α}, l.Pairwise R → ∀ x ∈ l, ∀ y ∈ l, x ≠ y → R x y
  | [], _, x, hx, _, _, _ => by simp at hx
  | a :: l, h, x, hx, y, hy, hne => by
    rw [List.pairwise_cons] at h
    rcases List.mem_cons.1 hx with hxa | hx <;> rcases List.mem_cons.1 hy with hya | hy
    · exact absurd (hxa.trans hya.symm) hne
    · rw [hxa]; exact h.1 y hy
    · rw [hya]; exact hs _ _ (h.1 x hx)
    · exact pairwise_sym hs h.2 x hx y hy hne

theorem Lay.dstNe {P : Program} {ops : Array Oper} {all : List OpI} (h : Lay P ops all) {x y : OpI} (hx : x ∈ all) (hy : y ∈ all) (hne : x.i ≠ y.i) : ∀ d, x.o.dst = some d → y.o.dst ≠ some d := by
  refine pairwise_sym (R := fun x y => ∀ d, x.o.dst = some d → y.o.dst ≠ some d) (fun x y h d hy hx => h d hx hy) (h.pairs.imp fun {q p} hqp => (okPair_spec hqp).dst) x hx y hy fun e => hne (by rw [e])

end Go.Vc
end
section
/- A drawn region under way. -/
namespace Go.Vc
open Go.RowKit

theorem put_self {a : Act} {d : Tmp} {v : Value} (h : a.tmps[d]? = some v) : a.put (some d) v = a := by
  obtain ⟨tmps, defers⟩ := a
  simp only [Act.put]
  congr 1
  apply Array.ext_getElem?
  intro i
  by_cases hi : d = i
  · subst hi; simp at h ⊢; rw [h]; obtain ⟨hl, hv⟩ := Array.getElem?_eq_some_iff.1 h; simp [hl]
  · rw [Array.getElem?_setIfInBounds_ne hi]

theorem put_other {a : Act} {dst : Option Tmp} {v : Value} {t : Tmp} (h : dst ≠ some t) : (a.put dst v).tmps[t]? = a.tmps[t]? := by
  cases dst with
  | none => rfl
  | some d => simp only [Act.put]; rw [Array.getElem?_setIfInBounds_ne fun e => h (by rw [e])]
theorem put_here {a : Act} {d : Tmp} {v : Value} (h : d < a.tmps.size) : (a.put (some d) v).tmps[d]? = some v := by simp [Act.put, h]

theorem eval_same {a a' : Act} {t : Tmp} (h : a'.tmps[t]? = a.tmps[t]?) : a'.eval (.tmp t) = a.eval (.tmp t) := by
  simp only [Act.eval, Array.getD_eq_getD_getElem?, h]

theorem mem_lookTmps {t : Nat} : ∀ {l : List Operand}, Operand.tmp t ∈ l → t ∈ lookTmps l
  | [], h => by simp at h
  | x :: r, h => by
    rcases List.mem_cons.1 h with rfl | h2
    · simp [lookTmps]
    · have := mem_lookTmps h2
      cases x <;> simp [lookTmps, this]

theorem looks_same {ops : Array Oper} {o : Oper} {a a' : Act} (h : ∀ t ∈ looks ops o, a'.tmps[t]? = a.tmps[t]?) :
    (∀ x ∈ o.op.operands, a'.eval x = a.eval x) ∧ Region.wanted o (yielded ops a'.tmps) = Region.wanted o (yielded ops a.tmps) := by
  constructor
  · intro x hx
    cases x with
    | tmp t => exact eval_same (h t (List.mem_append_right _ (mem_lookTmps (by simpa using hx))))
    | _ => rfl
  · unfold Region.wanted
    cases hg : o.guard with
    | none => rfl
    | some gw =>
      obtain ⟨g, want⟩ := gw
      have : yielded ops a'.tmps g = yielded ops a.tmps g := by
        unfold yielded
        cases ht : ops[g]? with
        | none => rfl
        | some oj =>
          cases hd : oj.dst with
          | none => simp [hd]
          | some t =>
            have := h t (List.mem_append_left _ (by simp [hg, ht, hd]))
            simp [hd, this]
      simp only [this]

theorem noSel {P : Program} {o : Oper} (h : (fkOf P o).isTied = false) : ∀ cs b, o.op ≠ .select cs b := by
  intro cs b e
  unfold fkOf at h
  split at h
  · rw [e] at h; simp [fkOp, FK.isTied] at h
  · simp [FK.isTied] at h

theorem exec_same {P : Program} {ops : Array Oper} {o : Oper} {a a' : Act} (hk : (fkOf P o).isTied = false) (h : ∀ t ∈ looks ops o, a'.tmps[t]? = a.tmps[t]?) : execOp a'.eval o = execOp a.eval o :=
  execOp_congr o (noSel hk) (looks_same h).1

/-- Memory that is read stays: so does what is read. -/
theorem cell_same {w w' : World} {ad : Addr} {v : Value} (h : IsC w ad.block → w'.heap[ad.block]? = w.heap[ad.block]?) (hv : w.cell? ad = some v) : w'.cell? ad = some v := by
  have hlt : IsC w ad.block := by
    unfold World.cell? at hv
    split at hv
    · rename_i hc; exact ⟨_, _, _, hc⟩
    · simp at hv
  unfold World.cell? at hv ⊢
  rw [h hlt]; exact hv

/-- What a load of a type yields there, now. -/
def LoadIs (P : Program) (t : TypeId) (b o : Nat) (v : Value) (w : World) : Prop :=
  hasT P t = true ∧ ∃ vs : List Value, (isAggB P t = true → v = .agg vs.toArray ∧ vs.length = P.cellsOf t) ∧ (isAggB P t = false → vs = [v]) ∧ ∀ i u, vs[i]? = some u → w.cell? ⟨b, o + i, none⟩ = some u

theorem LoadIs.run {P : Program} {t : TypeId} {b o : Nat} {v : Value} {w : World} (h : LoadIs P t b o v w) : (loadVar t ⟨b, o, none⟩).run P w = .ok v w := by
  obtain ⟨ht, vs, h1, h2, h3⟩ := h
  obtain ⟨dd, hd⟩ := hasT_spec ht
  unfold loadVar
  simp only [Sem.run_bind, isAgg_run hd, Result.andThen_ok]
  cases ha : isAggB P t
  · obtain rfl := h2 ha
    have := h3 0 v rfl
    simp only [Nat.add_zero] at this
    simp [load, Sem.run, this]
  · obtain ⟨rfl, hl⟩ := h1 ha
    simp only [if_true, Sem.run_bind, cellsOf_run hd, Result.andThen_ok, loadCells]
    rw [← hl, run_loadCellsAt vs 0 #[] (by simpa using h3)]
    simp [Sem.run_pure]

theorem LoadIs.same {P : Program} {t : TypeId} {b o : Nat} {v : Value} {w w' : World} (h : LoadIs P t b o v w) (hw : IsC w b → w'.heap[b]? = w.heap[b]?) : LoadIs P t b o v w' := by
  obtain ⟨ht, vs, h1, h2, h3⟩ := h
  exact ⟨ht, vs, h1, h2, fun i u hi => cell_same hw (h3 i u hi)⟩

def mk (n : Option Nat) (b : Nat) : Value :=
  match n with
  | none => .pointer (some ⟨b, 0, none⟩)
  | some n => .slice (some ⟨b, 0, none⟩) n n
def blk : Value → Option Nat
  | .pointer (some a) => some a.block
  | .slice (some a) _ _ => some a.block
  | _ => none
theorem blk_mk {n : Option Nat} {b : Nat} : blk (mk n b) = some b := by cases n <;> rfl
def pushed (w : World) (obj : Obj) : World := { w with heap := w.heap.push obj }

/-- An operation that was run ahead: it gives, now, what its slot holds. -/
def Pend (C : Cfg) (ops : Array Oper) (s : SS) (a : Act) (w : World) (x : OpI) : Prop :=
  ∃ d v, x.o.dst = some d ∧ a.tmps[d]? = some v ∧
    ((Region.wanted x.o (yielded ops a.tmps) = false ∧ v = undef) ∨ (Region.wanted x.o (yielded ops a.tmps) = true ∧
      match x.k with
      | .pure => ∀ w', (execOp a.eval x.o).run C.P w' = .ok (.value v) w'
      | .load => ∃ t y b o, x.o.op = .load t y ∧ a.eval y = .pointer (some ⟨b, o, none⟩) ∧ LoadIs C.P t b o v w
      | .alloc => ∃ n obj b, (∀ w', (execOp a.eval x.o).run C.P w' = .ok (.value (mk n w'.heap.size)) (pushed w' obj)) ∧ v = mk n b ∧ w.heap[b]? = some obj ∧ C.base ≤ b ∧ b ∉ locs C s ∧ ¬ s.gh b ∧ (∀ u, s.ws = some u → u.heap.size ≤ b) ∧ ∀ r ∈ s.xs, b < r.2.1.heap.size ∨ r.2.2.heap.size ≤ b
      | .tied => False))

/-- What a step may do without harm to an operation that was run ahead. -/
structure Adm (C : Cfg) (ops : Array Oper) (all : List OpI) (s : SS) (a : Act) (w : World) (s' : SS) (w' : World) (x : OpI) : Prop where
  gh : s'.gh = s.gh
  far : x.k.isMem = true → Go.Vc.far all x = true → ∀ b, b < w.heap.size → b ∉ locs C s → (∀ u, s.ws = some u → b < u.heap.size) → b ∉ locs C s' ∧ ∀ u', s'.ws = some u' → b < u'.heap.size
  load : x.k.isMem = true → Region.wanted x.o (yielded ops a.tmps) = true → ∀ t y b o, x.o.op = .load t y → a.eval y = .pointer (some ⟨b, o, none⟩) → IsC w b → w'.heap[b]? = w.heap[b]?
  alloc : x.k = .alloc → ∀ b d v, x.o.dst = some d → a.tmps[d]? = some v → blk v = some b → b < w.heap.size → b ∉ locs C s → (∀ u, s.ws = some u → u.heap.size ≤ b) → w'.heap[b]? = w.heap[b]? ∧ b ∉ locs C s' ∧
    (∀ u', s'.ws = some u' → (∀ u, s.ws = some u → u.heap.size ≤ b) → u'.heap.size ≤ b) ∧ ∀ r ∈ s'.xs, r ∈ s.xs ∨ b < r.2.1.heap.size

theorem Pend.keep {C : Cfg} {ops : Array Oper} {all : List OpI} {s s' : SS} {a : Act} {w w' : World} {x : OpI} {dj : Option Tmp} {u : Value} (hk : x.k = fkOf C.P x.o) (hp : Pend C ops s a w x) (h1 : ∀ d, dj = some d → d ∉ looks ops x.o) (h2 : ∀ d, dj = some d → x.o.dst ≠ some d)
    (hA : Adm C ops all s a w s' w' x) : Pend C ops s' (a.put dj u) w' x := by
  obtain ⟨d, v, hd, hv, h⟩ := hp
  have hl : ∀ t ∈ looks ops x.o, (a.put dj u).tmps[t]? = a.tmps[t]? := fun t ht => put_other fun e => h1 t e ht
  refine ⟨d, v, hd, by rw [put_other fun e => h2 d e hd]; exact hv, ?_⟩
  rw [(looks_same hl).2]
  rcases h with h | ⟨hw, h⟩
  · exact .inl h
  · refine .inr ⟨hw, ?_⟩
    cases hkx : x.k <;> simp only [hkx] at h ⊢
    · rw [exec_same (P := C.P) (by rw [← hk, hkx]; rfl) hl]; exact h
    · obtain ⟨t, y, b, o, e1, e2, e3⟩ := h
      refine ⟨t, y, b, o, e1, ?_, e3.same (hA.load (by rw [hkx]; rfl) hw t y b o e1 e2)⟩
      rw [(looks_same hl).1 y (by rw [e1]; simp [Op.operands])]; exact e2
    · obtain ⟨n, obj, b, e1, e2, e3, e4, e5, eg, e6, e7⟩ := h
      obtain ⟨g1, g2, g3, g4⟩ := hA.alloc hkx b d v hd hv (by rw [e2]; exact blk_mk) (lt_of_some e3) e5 e6
      refine ⟨n, obj, b, ?_, e2, by rw [g1]; exact e3, e4, g2, by rw [hA.gh]; exact eg, fun u' hu' => g3 u' hu' e6, fun r hr => ?_⟩
      · rw [exec_same (P := C.P) (by rw [← hk, hkx]; rfl) hl]; exact e1
      · rcases g4 r hr with h | h
        · exact e7 r h
        · exact .inl h

end Go.Vc
end
section
/- A drawn region: one operation. -/
namespace Go.Vc
open Go.RowKit

structure DSt (C : Cfg) (ops : Array Oper) (all : List OpI) (Ls : Nat → Prop) (s0 : SS) (l : List OpI) (s : SS) (a : Act) (wp w : World) : Prop where
  sim : Sim C s a wp w
  suf : ∃ pre, all = pre ++ l
  flo : ∀ x ∈ l, Ls x.i → x.k.isTied = false
  pend : ∀ x ∈ l, Ls x.i → Pend C ops s a w x
  non : ∀ x ∈ l, x.k.isTied = false → ∀ d, x.o.dst = some d → s.sl d = .none
  ws : ∃ u, s.ws = some u
  pd : ∀ x ∈ l, ∀ y ∈ l, Ls x.i → Ls y.i → x.k = .alloc → y.k = .alloc → x.i ≠ y.i → ∀ d d' v v' b, x.o.dst = some d → y.o.dst = some d' → a.tmps[d]? = some v → a.tmps[d']? = some v' → blk v = some b → blk v' ≠ some b
  ri : ∀ x ∈ all, Ls x.i → ∀ f y t d, addrOf x.o.op = some y → rootOf all f x.m y = some t → x.o.dst = some d → ∃ v, a.tmps[d]? = some v ∧ ∀ b, blk v = some b → ∃ u, a.tmps[t]? = some u ∧ blk u = some b
  fr : FrO C.muts (opsDst ops) s0 s
  nol : C.semi = true → C.maps = false → ∀ y ∈ all, noLoad y = true
  exi : ∀ y ∈ all, y.x = true → y.k = .load ∧ ∃ z t u b, loadOf y.o.op = some z ∧ rootOf all 8 y.m z = some t ∧ a.tmps[t]? = some u ∧ blk u = some b ∧ b ∈ locs C s
  farI : ∀ y ∈ l, Ls y.i → far all y = true → Region.wanted y.o (yielded ops a.tmps) = true → ∀ t z b o, y.o.op = .load t z → a.eval z = .pointer (some ⟨b, o, none⟩) → b ∉ locs C s ∧ ∀ u, s.ws = some u → b < u.heap.size
  xsT : ∀ r ∈ s.xs, ∀ y ∈ all, y.o.dst = some r.1 → y.k.isTied = true

theorem DSt.mem {C : Cfg} {ops : Array Oper} {all : List OpI} {Ls : Nat → Prop} {s0 : SS} {l : List OpI} {s : SS} {a : Act} {wp w : World} (h : DSt C ops all Ls s0 l s a wp w) {x : OpI} (hx : x ∈ l) : x ∈ all := by
  obtain ⟨pre, e⟩ := h.suf
  rw [e]; exact List.mem_append_right _ hx

theorem pair_cons {P : Program} {ops : Array Oper} {all pre r : List OpI} {x : OpI} (hL : Lay P ops all) (e : all = pre ++ x :: r) : ∀ y ∈ r, OkP ops x y := fun y hy => by
  have := hL.pairs
  rw [e, List.pairwise_append] at this
  exact okPair_spec ((List.pairwise_cons.1 this.2.1).1 y hy)

theorem findD_none {t : Nat} : ∀ {l : List OpI}, findD t l = none → ∀ x ∈ l, x.o.dst ≠ some t
  | [], _, x, hx => by simp at hx
  | y :: r, h, x, hx => by
    simp only [findD] at h
    cases hd : dstEq (some t) y.o.dst <;> simp only [hd, cond_true, cond_false] at h
    · rcases List.mem_cons.1 hx with rfl | hx
      · intro e; rw [dstEq_spec.2 ⟨t, rfl, e⟩] at hd; cases hd
      · exact findD_none h x hx
    · cases h
theorem findD_some {t : Nat} {x : OpI} : ∀ {l : List OpI}, findD t l = some x → x ∈ l ∧ x.o.dst = some t
  | [], h => by simp [findD] at h
  | y :: r, h => by
    simp only [findD] at h
    cases hd : dstEq (some t) y.o.dst <;> simp only [hd, cond_true, cond_false] at h
    · obtain ⟨h1, h2⟩ := findD_some h
      exact ⟨List.mem_cons_of_mem _ h1, h2⟩
    · obtain rfl := Option.some.inj h
      obtain ⟨d, e1, e2⟩ := dstEq_spec.1 hd
      obtain rfl := Option.some.inj e1
      exact ⟨List.mem_cons_self, e2⟩
theorem rootOf_none {all : List OpI} : ∀ {f m : Nat} {y : Operand} {t : Nat}, rootOf all f m y = some t → findD t all = none
  | 0, m, y, t, h => by simp [rootOf] at h
  | f + 1, m, y, t, h => by
    cases y with
    | tmp u =>
      simp only [rootOf] at h
      split at h
      · rename_i hf; obtain rfl := Option.some.inj h; exact hf
      · rename_i x hf
        cases hb : Nat.testBit m x.i <;> simp only [hb, cond_true, cond_false] at h
        · cases h
        · split at h
          · exact rootOf_none h
          · cases h
    | _ => simp [rootOf] at h

theorem far_load {C : Cfg} {ops : Array Oper} {all : List OpI} {s : SS} {a : Act} {w : World} {y : OpI} (hk : y.k = fkOf C.P y.o) (hp : Pend C ops s a w y) (h : far all y = true) : y.k = .load := by
  obtain ⟨d, v, hd, _⟩ := hp
  unfold far at h
  split at h
  · rename_i z hz
    rw [hk]
    unfold fkOf
    rw [hd]
    cases ho : y.o.op <;> rw [ho] at hz <;> simp [loadOf] at hz
    rfl
  · cases h
theorem DSt.next {C : Cfg} {ops : Array Oper} {all : List OpI} {Ls : Nat → Prop} {s0 : SS} {x : OpI} {r : List OpI} {s s' : SS} {a a' : Act} {wp wp' w w' : World} (hL : Lay C.P ops all) (hD : DSt C ops all Ls s0 (x :: r) s a wp w)
    (hS' : Sim C s' a' wp' w') (ha : a' = a ∨ (¬ Ls x.i ∧ Closed ops Ls ∧ ∃ v, a' = a.put x.o.dst v)) (hsl : ∀ d, x.o.dst ≠ some d → s'.sl d = s.sl d) (hws : ∃ u, s'.ws = some u)
    (hadm : ∀ y ∈ r, Ls y.i → Adm C ops all s a w s' w' y) (hfr : FrO C.muts (fun d => x.o.dst = some d) s s') (hper : ∀ b, b ∈ locs C s → b ∈ locs C s') (hxs : ∀ r ∈ s'.xs, r ∈ s.xs ∨ (x.k.isTied = true ∧ x.o.dst = some r.1)) : DSt C ops all Ls s0 r s' a' wp' w' := by
  obtain ⟨pre, e⟩ := hD.suf
  have hp := pair_cons hL e
  have hxa : x ∈ all := hD.mem List.mem_cons_self
  have hya : ∀ y ∈ r, y ∈ all := fun y hy => hD.mem (List.mem_cons_of_mem _ hy)
  -- slots of others stay
  have hoth : ∀ t, x.o.dst ≠ some t → a'.tmps[t]? = a.tmps[t]? := fun t ht => by
    rcases ha with rfl | ⟨_, _, v, rfl⟩
    · rfl
    · exact put_other ht
  have hdne : ∀ y ∈ r, ∀ d, y.o.dst = some d → x.o.dst ≠ some d := fun y hy d hd hx => (hp y hy).dst d hx hd
  refine ⟨hS', ⟨pre ++ [x], by simp [e]⟩, fun y hy => hD.flo y (List.mem_cons_of_mem _ hy), fun y hy hl => ?_, fun y hy hf d hd => ?_, hws, ?_, ?_, hD.fr.trans (hfr.mono fun d hd => ⟨x.i, x.o, hL.op x hxa, hd⟩), hD.nol, fun y hy hyx => by
    obtain ⟨g0, z, t, u, b, g1, g2, g3, g4, g5⟩ := hD.exi y hy hyx
    exact ⟨g0, z, t, u, b, g1, g2, by rw [hoth t (findD_none (rootOf_none g2) x hxa)]; exact g3, g4, hper b g5⟩, fun y hy hl hfar hw t z b o ho hz => by
    have hlk : ∀ t ∈ looks ops y.o, a'.tmps[t]? = a.tmps[t]? := fun t ht => by
      rcases ha with rfl | ⟨hns, hcl, v, rfl⟩
      · rfl
      · have hin : inM x y = false := by
          cases hb : inM x y
          · rfl
          · exact absurd (hL.anc Ls hcl y (hya y hy) hl x.i hb) hns
        exact put_other fun e => (hp y hy).a1 (hD.flo y (List.mem_cons_of_mem _ hy) hl) hin t e ht
    obtain ⟨e1, e2⟩ := looks_same hlk
    rw [e2] at hw
    rw [e1 z (by rw [ho]; simp [Op.operands])] at hz
    obtain ⟨q1, q2⟩ := hD.farI y (List.mem_cons_of_mem _ hy) hl hfar hw t z b o ho hz
    have hk : y.k = .load := far_load (hL.k y (hya y hy)) (hD.pend y (List.mem_cons_of_mem _ hy) hl) hfar
    have hlt : b < w.heap.size := by
      obtain ⟨u, hu⟩ := hD.ws
      exact Nat.lt_of_lt_of_le (q2 u hu) (hD.sim.w.wsK u hu).size
    exact (hadm y hy hl).far (by rw [hk]; rfl) hfar b hlt q1 q2, fun r hr y hy hyd => by
    rcases hxs r hr with h | ⟨ht, hd⟩
    · exact hD.xsT r h y hy hyd
    · by_cases e : x.i = y.i
      · rw [hL.same y hy x hxa e.symm]; exact ht
      · exact absurd hd (fun hd => hL.dstNe hxa hy e r.1 hd hyd)⟩
  · have hP := hD.pend y (List.mem_cons_of_mem _ hy) hl
    have hk := hL.k y (hya y hy)
    rcases ha with rfl | ⟨hns, hcl, v, rfl⟩
    · exact hP.keep (dj := none) (u := undef) hk (fun _ h => by cases h) (fun _ h => by cases h) (hadm y hy hl)
    · have hin : inM x y = false := by
        cases hb : inM x y
        · rfl
        · exact absurd (hL.anc Ls hcl y (hya y hy) hl x.i hb) hns
      exact hP.keep hk ((hp y hy).a1 (hD.flo y (List.mem_cons_of_mem _ hy) hl) hin) ((hp y hy).dst) (hadm y hy hl)
  · rw [hsl d (hdne y hy d hd)]
    exact hD.non y (List.mem_cons_of_mem _ hy) hf d hd
  · intro y hy z hz h1 h2 h3 h4 h5 d d' v v' b h8 h9 h10 h11
    rw [hoth d (hdne y hy d h8)] at h10
    rw [hoth d' (hdne z hz d' h9)] at h11
    exact hD.pd y (List.mem_cons_of_mem _ hy) z (List.mem_cons_of_mem _ hz) h1 h2 h3 h4 h5 d d' v v' b h8 h9 h10 h11
  · intro y hy hl f z t d h1 h2 h3
    have ht := hoth t (findD_none (rootOf_none h2) x hxa)
    have hd : a'.tmps[d]? = a.tmps[d]? := by
      rcases ha with rfl | ⟨hns, _, v, rfl⟩
      · rfl
      · exact put_other fun hx => hL.dstNe hxa hy (fun e => hns (by rw [e]; exact hl)) d hx h3
    rw [hd, ht]
    exact hD.ri y hy hl f z t d h1 h2 h3

/-- A variable that was made ahead is taken over. -/
theorem sim_adopt {C : Cfg} {s : SS} {a : Act} {wp w : World} {d b : Nat} {T : TypeId} {cells : List Lf} {vs : List Value} {v : Value} {sv : SV} (hS : Sim C s a wp w) (hd : d < C.n) (hL : s.L d = none) (hvs : toVs s.L cells = some vs)
    (hb : w.heap[b]? = some (.cells vs.toArray T (0, 0))) (hbase : C.base ≤ b) (hnot : b ∉ locs C s) (hng : ¬ s.gh b) (hslot : a.tmps[d]? = some v) (hv : sv.toV (upd s.L d (some ⟨b, T, cells⟩)) = some v) :
    Sim C { s with L := upd s.L d (some ⟨b, T, cells⟩), sl := upd s.sl d sv } a wp w := by
  have hm : ∀ k e, s.L k = some e → ∃ e', upd s.L d (some ⟨b, T, cells⟩) k = some e' ∧ e'.b = e.b := fun k e he => by
    have hk : k ≠ d := fun e' => by subst e'; rw [hL] at he; cases he
    exact ⟨e, by rw [upd_other _ _ hk]; exact he, rfl⟩
  have hblt := lt_of_some hb
  obtain ⟨hsl, hn, hdd, ⟨hmem, hinj, hlow, hkept, hbel, hbs, hmu, hwx, hws, hxs⟩⟩ := hS
  have hloc : ∀ x, x ∈ locs C { s with L := upd s.L d (some ⟨b, T, cells⟩), sl := upd s.sl d sv } ↔ x = b ∨ x ∈ locs C s := fun x => by
    rw [mem_locs, mem_locs]
    constructor
    · rintro ⟨k, e, h1, h2, h3⟩
      by_cases hkd : k = d
      · subst hkd; simp only [upd_same, Option.some.injEq] at h2; subst h2; exact .inl h3.symm
      · simp only [upd_other _ _ hkd] at h2; exact .inr ⟨k, e, h1, h2, h3⟩
    · rintro (rfl | ⟨k, e, h1, h2, h3⟩)
      · exact ⟨d, _, hd, upd_same _ _ _, rfl⟩
      · have hk : k ≠ d := fun e' => by subst e'; rw [hL] at h2; cases h2
        exact ⟨k, e, h1, by simp only [upd_other _ _ hk]; exact h2, h3⟩
  have hM : ∀ {u : World}, KeptM (locs C s) u w → KeptM (locs C { s with L := upd s.L d (some ⟨b, T, cells⟩), sl := upd s.sl d sv }) u w := fun {u} h =>
    ⟨fun k hk hn => h.block k hk fun hm => hn ((hloc k).2 (.inr hm))⟩
  have hK : ∀ {u : World}, Kept (locs C s) u w → Kept (locs C { s with L := upd s.L d (some ⟨b, T, cells⟩), sl := upd s.sl d sv }) u w := fun {u} h =>
    ⟨h.os, h.tape, h.output, h.size, fun k hk hn => h.block k hk fun hm => hn ((hloc k).2 (.inr hm)), fun x hx => by
      rcases (hloc x).1 hx with rfl | hx
      · exact hblt
      · exact h.own x hx⟩
  refine ⟨?_, hn, hdd.step (fun k e he hg => (by
    by_cases hkd : k = d
    · subst hkd; simp only [upd_same, Option.some.injEq] at he; subst he; exact hng hg
    · simp only [upd_other _ _ hkd] at he; exact hdd.dj k e he hg)) (.refl _) fun _ _ => rfl, ?_, ?_, ?_, hK hkept, hbel, hbs, hmu, hwx, fun u hu => (hws u hu).map (Nat.le_refl _) hK hM, fun x hx => (hxs x hx).map (Nat.le_refl _) hK hM⟩
  · intro k hk
    by_cases hkd : k = d
    · subst hkd
      simp only [upd_same]
      exact ⟨v, hv, hslot⟩
    · simp only [upd_other _ _ hkd] at hk ⊢
      obtain ⟨u, h1, h2⟩ := hsl k hk
      exact ⟨u, sv_mono hm h1, h2⟩
  · intro k e he
    by_cases hkd : k = d
    · subst hkd
      simp only [upd_same, Option.some.injEq] at he
      subst he
      exact ⟨vs, toVs_mono hm hvs, hb⟩
    · simp only [upd_other _ _ hkd] at he
      obtain ⟨us, h1, h2⟩ := hmem k e he
      exact ⟨us, toVs_mono hm h1, h2⟩
  · intro k k' e e' he he' hbb
    by_cases hkd : k = d <;> by_cases hkd' : k' = d
    · rw [hkd, hkd']
    · subst hkd
      simp only [upd_same, Option.some.injEq] at he
      simp only [upd_other _ _ hkd'] at he'
      subst he
      exact absurd (mem_locs.2 ⟨k', e', (hlow k' e' he').2, he', hbb.symm⟩) hnot
    · subst hkd'
      simp only [upd_same, Option.some.injEq] at he'
      simp only [upd_other _ _ hkd] at he
      subst he'
      exact absurd (mem_locs.2 ⟨k, e, (hlow k e he).2, he, hbb⟩) hnot
    · simp only [upd_other _ _ hkd] at he
      simp only [upd_other _ _ hkd'] at he'
      exact hinj k k' e e' he he' hbb
  · intro k e he
    by_cases hkd : k = d
    · subst hkd
      simp only [upd_same, Option.some.injEq] at he
      subst he
      exact ⟨hbase, hd⟩
    · simp only [upd_other _ _ hkd] at he
      exact hlow k e he

end Go.Vc
end
section
/- A drawn region: what one operation's condition says. -/
namespace Go.Vc
open Go.RowKit

def RootApart (C : Cfg) (k : Nat) (e : LocE) (v : SV) : Prop :=
  (∃ k' o, v = .pv (.one (.loc k' o)) ∧ k' ≠ k) ∨ (∃ k' o n c, v = .pv (.one (.lsl k' o n c)) ∧ k' ≠ k) ∨ (∃ b o, v = .pv (.one (.ptr b o)) ∧ (b < C.base ∨ b ≠ e.b)) ∨
    (∃ a n c, v = .pv (.one (.sl a n c)) ∧ ∀ ad : Addr, a = some ad → ad.block < C.base ∨ ad.block ≠ e.b)

theorem rootsVC_elim {C : Cfg} {s : SS} {k : Nat} {e : LocE} {K : Prop} : ∀ {l : List Nat}, rootsVC C s k e K l → K ∧ ∀ t ∈ l, RootApart C k e (s.sl t)
  | [], h => ⟨h, by simp⟩
  | t :: r, h => by
    have fin : ∀ {K' : Prop}, RootApart C k e (s.sl t) → rootsVC C s k e K r → K ∧ ∀ t' ∈ t :: r, RootApart C k e (s.sl t') := fun h1 h2 => by
      obtain ⟨h3, h4⟩ := rootsVC_elim h2
      exact ⟨h3, fun t' ht => by rcases List.mem_cons.1 ht with rfl | ht; exact h1; exact h4 t' ht⟩
    simp only [rootsVC] at h
    split at h
    · rename_i k' o hv
      cases hb : Nat.beq k' k <;> simp only [hb, cond_true, cond_false] at h
      · exact fin (K' := K) (.inl ⟨k', o, hv, fun e => by subst e; simp at hb⟩) h
      · exact h.elim
    · rename_i k' o n c hv
      cases hb : Nat.beq k' k <;> simp only [hb, cond_true, cond_false] at h
      · exact fin (K' := K) (.inr (.inl ⟨k', o, n, c, hv, fun e => by subst e; simp at hb⟩)) h
      · exact h.elim
    · rename_i b o hv
      exact fin (K' := K) (.inr (.inr (.inl ⟨b, o, hv, h.1⟩))) h.2
    · rename_i ad n c hv
      exact fin (K' := K) (.inr (.inr (.inr ⟨ad, n, c, hv, h.1⟩))) h.2
    · exact h.elim

theorem root_apart {C : Cfg} {s : SS} {a : Act} {wp w : World} {k : Nat} {e : LocE} {t : Nat} {u : Value} {b : Nat} (hS : Sim C s a wp w) (he : s.L k = some e) (h : RootApart C k e (s.sl t)) (hu : a.tmps[t]? = some u) (hb : blk u = some b) : b ≠ e.b := by
  have hbase := (hS.w.low k e he).1
  rcases h with ⟨k', o, hv, hne⟩ | ⟨k', o, n, c, hv, hne⟩ | ⟨b', o, hv, hne⟩ | ⟨ad, n, c, hv, hne⟩
  · obtain ⟨v, h1, h2⟩ := hS.sl t (by rw [hv]; simp)
    rw [hv] at h1
    simp only [SV.toV, PV.toV, Lf.toV] at h1
    split at h1 <;> simp at h1
    rename_i e' he'
    rw [hu] at h2; obtain rfl := Option.some.inj h2; subst h1
    simp [blk] at hb
    exact fun hbb => hne (hS.w.inj k' k e' e he' he (hb.trans hbb))
  · obtain ⟨v, h1, h2⟩ := hS.sl t (by rw [hv]; simp)
    rw [hv] at h1
    simp only [SV.toV, PV.toV, Lf.toV] at h1
    split at h1 <;> simp at h1
    rename_i e' he'
    rw [hu] at h2; obtain rfl := Option.some.inj h2; subst h1
    simp [blk] at hb
    exact fun hbb => hne (hS.w.inj k' k e' e he' he (hb.trans hbb))
  · obtain ⟨v, h1, h2⟩ := hS.sl t (by rw [hv]; simp)
    rw [hv] at h1
    simp only [SV.toV, PV.toV, Lf.toV, Option.some.injEq] at h1
    rw [hu] at h2; obtain rfl := Option.some.inj h2; subst h1
    simp [blk] at hb
    subst hb
    rcases hne with h | h
    · omega
    · exact h
  · obtain ⟨v, h1, h2⟩ := hS.sl t (by rw [hv]; simp)
    rw [hv] at h1
    simp only [SV.toV, PV.toV, Lf.toV, Option.some.injEq] at h1
    rw [hu] at h2; obtain rfl := Option.some.inj h2; subst h1
    cases ad with
    | none => simp [blk] at hb
    | some A =>
      simp [blk] at hb
      subst hb
      rcases hne A rfl with h | h
      · omega
      · exact h

structure DRel (C : Cfg) (all : List OpI) (x : OpI) (s : SS) (a : Act) (w : World) (s' : SS) (a' : Act) (w' : World) : Prop where
  act : ∃ v, a' = a.put x.o.dst v
  fr : FrO C.muts (fun d => x.o.dst = some d) s s'
  how : (∃ v, s' = s.put x.o.dst v ∧ w' = w) ∨
    (x.k.isTied = false ∧ (∀ t z, x.o.op ≠ .load t z) ∧ x.k.isMem = true ∧ ∃ d T cells sv obj, x.o.dst = some d ∧ s.L d = none ∧ s' = { s with L := upd s.L d (some ⟨w.heap.size, T, cells⟩), sl := upd s.sl d sv } ∧ w' = pushed w obj) ∨
    (x.k.isTied = true ∧ x.o.dst = none ∧ ∃ k e off cells us l, s.L k = some e ∧ s' = { s with L := upd s.L k (some { e with cells := setAt e.cells off cells }) } ∧ Stored w w' e.b off e.T us ∧ looseRoots all x all = some l ∧ ∀ t ∈ l, RootApart C k e (s.sl t)) ∨
    (x.k.isTied = true ∧ ∃ v, s' = (s.past (strictOf all x) x.o.dst w w').put x.o.dst v ∧ keepP (strictOf all x) C s w w' ∧ (strictOf all x = true → ∃ d, x.o.dst = some d))

theorem noDst_spec {d : Option Tmp} (h : noDst d = false) : ∃ t, d = some t := by cases d with | none => simp [noDst] at h | some t => exact ⟨t, rfl⟩

theorem fk_alloc {P : Program} {o : Oper} (h : fkOf P o = .alloc) : ∀ t z, o.op ≠ .load t z := by
  intro t z e
  unfold fkOf at h
  split at h
  · rw [e] at h; simp [fkOp] at h
  · simp at h

theorem runD_sound {C : Cfg} {gs : List Nat} {all : List OpI} {x : OpI} {K : SS → World → Prop} {s : SS} {a : Act} {wp w : World} {next : Act → World → Prop} {Q : Exit → Act → World → Prop} (hkx : x.k = fkOf C.P x.o)
    (h : runD C gs all x K s wp) (hS : Sim C s a wp w) (hk : ∀ s' a' w' wp', K s' wp' → Sim C s' a' wp' w' → DRel C all x s a w s' a' w' → next a' w') : wpy C.P x.o a w next Q := by
  unfold runD at h
  split at h
  · rename_i hx
    have key : (∀ T c n, resOf C s x.o.dst x.o.op ≠ .alloc T c n) → (∀ k o c, resOf C s x.o.dst x.o.op ≠ .store k o c) → (∀ y, resOf C s x.o.dst x.o.op ≠ .no y) → stepRun C gs [] false x.o K s wp → wpy C.P x.o a w next Q := fun n1 n2 n3 h => by
      refine run_sound h hS fun s' a' w' wp' h1 h2 h3 => hk _ _ _ _ h1 h2 ⟨h3.act, h3.fr, ?_⟩
      rcases h3.how with h | ⟨_, T, c, _, _, ⟨n, hn⟩, _⟩ | ⟨k, _, o, c, _, hn, _⟩ | ⟨_, ⟨y, hn⟩, _⟩
      · exact .inl h
      · exact absurd hn (n1 _ _ _)
      · exact absurd hn (n2 _ _ _)
      · exact absurd hn (n3 _)
    split at h
    · rename_i hr; exact key (by rw [hr]; simp) (by rw [hr]; simp) (by rw [hr]; simp) h
    · rename_i hr; exact key (by rw [hr]; simp) (by rw [hr]; simp) (by rw [hr]; simp) h
    · rename_i hr; exact key (by rw [hr]; simp) (by rw [hr]; simp) (by rw [hr]; simp) h
    · exact h.elim
    · exact h.elim
  · rename_i hx
    split at h
    rotate_left
    · exact h.elim
    rename_i y hy
    have hld : ∃ t, x.o.op = .load t y := by
      cases ho : x.o.op <;> rw [ho] at hy <;> simp [loadOf] at hy
      subst hy; exact ⟨_, rfl⟩
    obtain ⟨t, ho⟩ := hld
    have key : stepRun C gs (ancSlots all x) false x.o K s wp → wpy C.P x.o a w next Q := fun h => by
      refine run_sound h hS fun s' a' w' wp' h1 h2 h3 => hk _ _ _ _ h1 h2 ⟨h3.act, h3.fr, ?_⟩
      have hr : (∀ T c n, resOf C s x.o.dst x.o.op ≠ .alloc T c n) ∧ (∀ k o c, resOf C s x.o.dst x.o.op ≠ .store k o c) := by
        rw [ho]
        simp only [resOf]
        constructor <;> intros <;> (repeat' split) <;> simp
      rcases h3.how with h | ⟨_, T, c, _, _, ⟨n, hn⟩, _⟩ | ⟨k, _, o, c, _, hn, _⟩ | ⟨_, _, hn, _⟩
      · exact .inl h
      · exact absurd hn (hr.1 _ _ _)
      · exact absurd hn (hr.2 _ _ _)
      · rw [ho] at hn; simp [isLoadB] at hn
    split at h
    · rename_i k o hv
      cases hb : memB k (allocDsts all) <;> simp only [hb, cond_true, cond_false] at h
      · cases hf : far all x <;> simp only [hf, cond_true, cond_false] at h
        · exact key h
        · exact h.elim
      · exact h.elim
    · cases hb : x.x <;> simp only [hb, cond_true, cond_false] at h
      · cases hf : (far all x && zeroT C.P x.o.op) <;> simp only [hf, cond_true, cond_false] at h
        · exact key h
        · exact h.elim
      · exact h.elim
    · exact h.elim
  · rename_i hx
    split at h
    · rename_i T cells n hr
      refine run_sound h hS fun s' a' w' wp' h1 h2 h3 => hk _ _ _ _ h1 h2 ⟨h3.act, h3.fr, ?_⟩
      rcases h3.how with h | ⟨d, T', c, sv, obj, _, hd, hL, hs', hw'⟩ | ⟨k, _, o, c, _, hn, _⟩ | ⟨_, ⟨y, hn⟩, _⟩
      · exact .inl h
      · exact .inr (.inl ⟨by rw [hx]; rfl, fk_alloc (hkx ▸ hx), by rw [hx]; rfl, d, T', c, sv, obj, hd, hL, hs', hw'⟩)
      · rw [hr] at hn; cases hn
      · rw [hr] at hn; cases hn
    · exact h.elim
    · exact h.elim
  · rename_i hx
    split at h
    · rename_i k off cells hr
      split at h
      · rename_i e l he hl
        obtain ⟨h, hroots⟩ := rootsVC_elim h
        refine run_sound h hS fun s' a' w' wp' h1 h2 h3 => hk _ _ _ _ h1 h2 ⟨h3.act, h3.fr, ?_⟩
        rcases h3.how with h | ⟨_, T, c, _, _, ⟨n, hn⟩, _⟩ | ⟨k', e', o, c, us, hn, hd, hro, he', hs', hst⟩ | ⟨_, ⟨y, hn⟩, _⟩
        · exact .inl h
        · rw [hr] at hn; cases hn
        · rw [hr] at hn
          simp only [Res.store.injEq] at hn
          obtain ⟨rfl, rfl, rfl⟩ := hn
          rw [he] at he'; obtain rfl := Option.some.inj he'
          exact .inr (.inr (.inl ⟨by rw [hx]; rfl, hd, k, e, off, cells, us, l, he, hs', hst, hl, hroots⟩))
        · rw [hr] at hn; cases hn
      · exact h.elim
    · rename_i why hr
      cases hb : (isLoadB x.o.op || (strictOf all x && noDst x.o.dst)) <;> simp only [hb, cond_true, cond_false] at h
      · simp only [Bool.or_eq_false_iff, Bool.and_eq_false_iff] at hb
        refine run_sound h hS fun s' a' w' wp' h1 h2 h3 => hk _ _ _ _ h1 h2 ⟨h3.act, h3.fr, ?_⟩
        rcases h3.how with h | ⟨_, T, c, _, _, ⟨n, hn⟩, _⟩ | ⟨k, _, o, c, _, hn, _⟩ | ⟨v, _, _, hs', hkp⟩
        · exact .inl h
        · rw [hr] at hn; cases hn
        · rw [hr] at hn; cases hn
        · refine .inr (.inr (.inr ⟨by rw [hx]; rfl, v, hs', hkp, fun hst => ?_⟩))
          rcases hb.2 with h | h
          · rw [hst] at h; cases h
          · exact noDst_spec h
      · exact h.elim
    · exact h.elim
    · rename_i n1 n2 n3
      refine run_sound h hS fun s' a' w' wp' h1 h2 h3 => hk _ _ _ _ h1 h2 ⟨h3.act, h3.fr, ?_⟩
      rcases h3.how with h | ⟨_, T, c, _, _, ⟨n, hn⟩, _⟩ | ⟨k, _, o, c, _, hn, _⟩ | ⟨_, ⟨y, hn⟩, _⟩
      · exact .inl h
      · exact absurd hn (n3 _ _ _)
      · exact absurd hn (n1 _ _ _)
      · exact absurd hn (n2 _)

end Go.Vc
end
section
/- A drawn region: the first operation that is not yet taken over. -/
namespace Go.Vc
open Go.RowKit

theorem locs_put {C : Cfg} {s : SS} {d : Option Tmp} {v : SV} : locs C (s.put d v) = locs C s := by simp [locs, put_L]
theorem put_ws {s : SS} {d : Option Tmp} {v : SV} : (s.put d v).ws = s.ws ∧ (s.put d v).xs = s.xs := by cases d <;> exact ⟨rfl, rfl⟩
theorem put_gh {s : SS} {d : Option Tmp} {v : SV} : (s.put d v).gh = s.gh ∧ (s.put d v).rf = s.rf ∧ (s.put d v).rnd = s.rnd := by cases d <;> exact ⟨rfl, rfl, rfl⟩
theorem put_sl {s : SS} {d : Option Tmp} {v : SV} {t : Nat} (h : d ≠ some t) : (s.put d v).sl t = s.sl t := by
  cases d with
  | none => rfl
  | some d => exact upd_other _ _ fun e => h (by rw [e])
theorem past_strict {s : SS} {d : Tmp} {w w' u : World} (h : s.ws = some u) : s.past true (some d) w w' = { s with xs := (d, w, w') :: s.xs } := by
  unfold SS.past; rw [h]

theorem strictOf_spec {all : List OpI} {x y : OpI} (hy : y ∈ all) (h1 : y.k.isMem = true) (hyx : y.x = false) (h2 : y.i ≠ x.i) (h3 : inM y x = false) (h4 : inM x y = false) : strictOf all x = true := by
  unfold strictOf
  rw [List.any_eq_true]
  refine ⟨y, hy, ?_⟩
  have : Nat.beq y.i x.i = false := by
    cases hb : Nat.beq y.i x.i
    · rfl
    · exact absurd (Nat.eq_of_beq_eq_true hb) h2
  simp [h1, hyx, this, h3, h4]

theorem mem_insN {d t : Nat} {l : List Nat} : t ∈ insN d l ↔ t = d ∨ t ∈ l := by
  unfold insN
  cases hb : memB d l <;> simp only [cond_true, cond_false]
  · simp
  · constructor
    · exact fun h => .inr h
    · rintro (rfl | h)
      · exact memB_spec.1 hb
      · exact h

theorem looseRoots_spec {all : List OpI} {x : OpI} : ∀ {l : List OpI} {ls : List Nat}, looseRoots all x l = some ls → ∀ y ∈ l, y.k = .load → inM y x = false → inM x y = false → (∃ z t, loadOf y.o.op = some z ∧ rootOf all 8 y.m z = some t ∧ t ∈ ls) ∨ ∃ z, loadOf y.o.op = some z ∧ rootOf all 8 y.m z = none ∧ noTiedAnc all y = true
  | [], ls, h, y, hy, _, _, _ => by simp at hy
  | y0 :: r, ls, h, y, hy, hk, h1, h2 => by
    simp only [looseRoots] at h
    split at h
    · rename_i hk0
      cases hb : (inM y0 x || inM x y0) <;> simp only [hb, cond_true, cond_false] at h
      · split at h
        · rename_i z hz
          split at h
          · rename_i t l ht hl
            obtain rfl := Option.some.inj h
            rcases List.mem_cons.1 hy with rfl | hy
            · exact .inl ⟨z, t, hz, ht, mem_insN.2 (.inl rfl)⟩
            · rcases looseRoots_spec hl y hy hk h1 h2 with ⟨z', t', g1, g2, g3⟩ | g
              · exact .inl ⟨z', t', g1, g2, mem_insN.2 (.inr g3)⟩
              · exact .inr g
          · rename_i l ht hl
            cases hn : noTiedAnc all y0 <;> simp only [hn, cond_true, cond_false] at h
            · cases h
            obtain rfl := Option.some.inj h
            rcases List.mem_cons.1 hy with rfl | hy
            · exact .inr ⟨z, hz, ht, hn⟩
            · exact looseRoots_spec hl y hy hk h1 h2
          · cases h
        · cases h
      · rcases List.mem_cons.1 hy with rfl | hy
        · rw [h1, h2] at hb; simp at hb
        · exact looseRoots_spec h y hy hk h1 h2
    · rename_i hk0
      rcases List.mem_cons.1 hy with rfl | hy
      · exact absurd hk (by simpa using hk0)
      · exact looseRoots_spec h y hy hk h1 h2

theorem blk_eval {a : Act} {t : Tmp} {b : Nat} (h : blk (a.eval (.tmp t)) = some b) : ∃ u, a.tmps[t]? = some u ∧ blk u = some b := by
  simp only [Act.eval, Array.getD_eq_getD_getElem?] at h
  cases ht : a.tmps[t]? with
  | none => rw [ht] at h; simp [undef, blk] at h
  | some u => rw [ht] at h; exact ⟨u, rfl, h⟩

theorem root_val {all : List OpI} {Ls : Nat → Prop} {a : Act} (hri : ∀ x ∈ all, Ls x.i → ∀ f y t d, addrOf x.o.op = some y → rootOf all f x.m y = some t → x.o.dst = some d → ∃ v, a.tmps[d]? = some v ∧ ∀ b, blk v = some b → ∃ u, a.tmps[t]? = some u ∧ blk u = some b)
    {f m : Nat} {z : Operand} {t b : Nat} (hm : ∀ j, Nat.testBit m j = true → Ls j) (h : rootOf all f m z = some t) (hb : blk (a.eval z) = some b) : ∃ u, a.tmps[t]? = some u ∧ blk u = some b := by
  cases f with
  | zero => simp [rootOf] at h
  | succ f =>
    cases z with
    | tmp u =>
      obtain ⟨v, hv, hvb⟩ := blk_eval hb
      simp only [rootOf] at h
      split at h
      · obtain rfl := Option.some.inj h; exact ⟨v, hv, hvb⟩
      · rename_i x hf
        obtain ⟨hx, hd⟩ := findD_some hf
        cases hbt : Nat.testBit m x.i <;> simp only [hbt, cond_true, cond_false] at h
        · cases h
        · split at h
          · rename_i y hy
            obtain ⟨v', h1, h2⟩ := hri x hx (hm _ hbt) f y t u hy h hd
            rw [hv] at h1; obtain rfl := Option.some.inj h1
            exact h2 b hvb
          · cases h
    | _ => simp [rootOf] at h

theorem locs_store {C : Cfg} {s : SS} {k : Nat} {e : LocE} {c : List Lf} {b : Nat} (he : s.L k = some e) : b ∈ locs C { s with L := upd s.L k (some { e with cells := c }) } ↔ b ∈ locs C s := by
  rw [mem_locs, mem_locs]
  constructor
  · rintro ⟨k1, e1, h1, h2, h3⟩
    by_cases hk : k1 = k
    · subst hk; simp only [upd_same, Option.some.injEq] at h2; subst h2; exact ⟨k1, e, h1, he, h3⟩
    · simp only [upd_other _ _ hk] at h2; exact ⟨k1, e1, h1, h2, h3⟩
  · rintro ⟨k1, e1, h1, h2, h3⟩
    by_cases hk : k1 = k
    · subst hk; rw [he] at h2; obtain rfl := Option.some.inj h2; exact ⟨k1, _, h1, upd_same _ _ _, h3⟩
    · exact ⟨k1, e1, h1, by simp only [upd_other _ _ hk]; exact h2, h3⟩

theorem locs_new {C : Cfg} {s : SS} {d b0 : Nat} {T : TypeId} {c : List Lf} {sv : SV} {b : Nat} (h : b ∈ locs C { s with L := upd s.L d (some ⟨b0, T, c⟩), sl := upd s.sl d sv }) : b = b0 ∨ b ∈ locs C s := by
  obtain ⟨k, e, h1, h2, h3⟩ := mem_locs.1 h
  by_cases hkd : k = d
  · subst hkd; simp only [upd_same, Option.some.injEq] at h2; subst h2; exact .inl h3.symm
  · simp only [upd_other _ _ hkd] at h2; exact .inr (mem_locs.2 ⟨k, e, h1, h2, h3⟩)

section
variable {C : Cfg} {ops : Array Oper} {all : List OpI} {Ls : Nat → Prop} {s0 : SS} {x : OpI} {r : List OpI} {s s' : SS} {a a' : Act} {wp wp' w w' : World}

theorem adm_of_rel (hL : Lay C.P ops all) (hD : DSt C ops all Ls s0 (x :: r) s a wp w) (hns : ¬ Ls x.i) (hcl : Closed ops Ls) (hR : DRel C all x s a w s' a' w') : ∀ y ∈ r, Ls y.i → Adm C ops all s a w s' w' y := by
  intro y hy hl
  obtain ⟨pre, e⟩ := hD.suf
  have hp := pair_cons hL e y hy
  have hxa : x ∈ all := hD.mem List.mem_cons_self
  have hya : y ∈ all := hD.mem (List.mem_cons_of_mem _ hy)
  have hin : inM x y = false := by
    cases hb : inM x y
    · rfl
    · exact absurd (hL.anc Ls hcl y hya hl x.i hb) hns
  have hst : y.k.isMem = true → y.x = false → strictOf all x = true := fun h hyx => strictOf_spec hya h hyx (fun e => hp.ne e.symm) hp.top hin
  obtain ⟨u, hu⟩ := hD.ws
  rcases hR.how with ⟨v, rfl, rfl⟩ | ⟨_, _, _, d, T, cells, sv, obj, hd, hLn, rfl, rfl⟩ | ⟨hxt, hd, k, en, off, cells, us, l, he, rfl, hS, hlr, hra⟩ | ⟨_, v, rfl, hkp, hdst⟩
  · refine ⟨put_gh.1, fun _ _ b _ q1 q2 => ⟨by rw [locs_put]; exact q1, fun u' hu' => q2 u' (by rw [← put_ws.1]; exact hu')⟩, fun _ _ _ _ _ _ _ _ _ => rfl, fun _ b _ _ _ _ _ _ hb _ => ⟨rfl, by rw [locs_put]; exact hb, fun u' hu' h => h u' (by rw [← put_ws.1]; exact hu'), fun r hr => .inl (by rw [put_ws.2] at hr; exact hr)⟩⟩
  · refine ⟨rfl, fun _ _ b hlt q1 q2 => ⟨fun hm => by
        rcases locs_new hm with h | h
        · omega
        · exact q1 h, q2⟩, fun _ _ t z b o _ _ hb => heap_push_old hb.lt, fun _ b d' v _ _ _ hlt hb _ => ⟨heap_push_old hlt, fun hm => ?_, fun u' hu' h => h u' hu', fun r hr => .inl hr⟩⟩
    rcases locs_new hm with h | h
    · omega
    · exact hb h
  · have heb : en.b ∈ locs C s := mem_locs.2 ⟨k, en, (hD.sim.w.low k en he).2, he, rfl⟩
    refine ⟨rfl, fun _ _ b _ q1 q2 => ⟨fun hm => q1 ((locs_store he).1 hm), q2⟩, fun hm hw t z b o ho hz hb => ?_, fun _ b d' v _ _ _ hlt hb _ => ⟨hS.other b fun e => hb (e ▸ heb), fun hm => hb ((locs_store he).1 hm), fun u' hu' h => h u' hu', fun r hr => .inl hr⟩⟩
    have hyk : y.k = .load := by
      have h1 := hL.k y hya
      rw [h1] at hm ⊢
      unfold fkOf at hm ⊢
      split at hm
      · rename_i d hd'; rw [ho]; rfl
      · simp [FK.isMem] at hm
    rcases looseRoots_spec hlr y hya hyk hp.top hin with ⟨z', t', g1, g2, g3⟩ | ⟨z', g1, g2, g3⟩
    · rw [ho] at g1
      simp only [loadOf, Option.some.injEq] at g1
      subst g1
      obtain ⟨uu, q1, q2⟩ := root_val hD.ri (fun j hj => hL.anc Ls hcl y hya hl j hj) g2 (b := b) (by rw [hz]; rfl)
      exact hS.other b (root_apart hD.sim he (hra t' g3) q1 q2)
    · have hfar : far all y = true := by
        unfold far
        rw [g1]
        simp only [g2, g3, Bool.true_and, List.any_eq_true]
        exact ⟨x, hxa, by rw [hxt, hd, hin, hp.top]; rfl⟩
      have := (hD.farI y (List.mem_cons_of_mem _ hy) hl hfar hw t z b o ho hz).1
      exact hS.other b fun e => this (e ▸ heb)
  · refine ⟨by rw [put_gh.1, past_gh.1], fun hm hfar b _ q1 q2 => ?_, fun hm _ t z b o ho hz hb => ?_, fun hm b d' v' _ _ _ hlt hb hub => ?_⟩
    · have hyx : y.x = false := by
        cases hyx : y.x
        · rfl
        · obtain ⟨_, z', t', _, _, g1, g2, _⟩ := hD.exi y hya hyx
          unfold far at hfar
          rw [g1] at hfar
          simp only [g2] at hfar
          cases hfar
      have hst' := hst hm hyx
      obtain ⟨d, hd⟩ := hdst hst'
      rw [hst', hd, past_strict hu]
      exact ⟨by rw [locs_put]; exact q1, fun u' hu' => q2 u' (by rw [put_ws.1] at hu'; exact hu')⟩
    · cases hyx : y.x
      · rw [hst hm hyx] at hkp
        unfold keepP at hkp
        cases hs : C.semi <;> simp only [hs] at hkp
        · exact Below.block hkp b hb.lt
        · cases hmp : C.maps <;> simp only [hmp] at hkp
          rotate_left
          · exact hkp.2 b hb
          exfalso
          have hyk : y.k = .load := by
            have h1 := hL.k y hya
            rw [h1] at hm ⊢
            unfold fkOf at hm ⊢
            split at hm
            · rename_i d hd'; rw [ho]; rfl
            · simp [FK.isMem] at hm
          have := hD.nol hs hmp y hya
          unfold noLoad at this
          rw [hyk] at this
          simp only at this
          rw [hyx] at this
          cases this
      · obtain ⟨g0, z', t', u', b', g1, g2, g3, g4, g5⟩ := hD.exi y hya hyx
        rw [ho] at g1
        simp only [loadOf, Option.some.injEq] at g1
        subst g1
        obtain ⟨uu, q1, q2⟩ := root_val hD.ri (fun j hj => hL.anc Ls hcl y hya hl j hj) g2 (b := b) (by rw [hz]; rfl)
        rw [g3] at q1
        obtain rfl := Option.some.inj q1
        rw [g4] at q2
        obtain rfl := Option.some.inj q2
        cases keepX_of hkp with
        | all h => exact h.block _ hb.lt
        | own _ _ _ _ _ h _ => exact h _ g5
    · have hst' := hst (by rw [hm]; rfl) (by
        cases hyx : y.x
        · rfl
        · have := (hD.exi y hya hyx).1; rw [hm] at this; cases this)
      rw [hst'] at hkp
      obtain ⟨d, hd⟩ := hdst hst'
      rw [hst', hd, past_strict hu]
      have hkeep : w'.heap[b]? = w.heap[b]? := by
        unfold keepP at hkp
        cases hs : C.semi <;> simp only [hs] at hkp
        · exact Below.block hkp b hlt
        · replace hkp : KeepX C.pure C.base (locs C s) (ghZ s w) w w' := by
            cases hm : C.maps <;> simp only [hm] at hkp
            · exact hkp
            · exact hkp.1
          cases hkp with
          | all h => exact h.block b hlt
          | own _ _ _ _ _ _ h => exact h b (by unfold ghZ; rw [hu]; exact .inr ⟨hub u hu, hlt⟩)
      refine ⟨hkeep, by rw [locs_put]; exact hb, fun u' hu' h => h u' (by rw [put_ws.1] at hu'; exact hu'), fun r hr => ?_⟩
      rw [put_ws.2] at hr
      rcases List.mem_cons.1 hr with rfl | hr
      · exact .inr hlt
      · exact .inl hr

/-- What the first operation leaves of the variables, and of what is known of worlds. -/
structure HRel (Ls : Nat → Prop) (all : List OpI) (x : OpI) (s s' : SS) : Prop where
  mem : ∀ k e', s'.L k = some e' → (∃ e, s.L k = some e ∧ e.b = e'.b ∧ e.T = e'.T ∧ e.cells.length = e'.cells.length) ∨ (x.k = .alloc ∧ x.o.dst = some k)
  per : ∀ b, b ∈ locs C s → b ∈ locs C s'
  xs : (x.k.isTied = true → strictOf all x = true) → s'.ws = s.ws ∧ ∃ new, s'.xs = new ++ s.xs ∧ ∀ r ∈ new, x.k.isTied = true ∧ x.o.dst = some r.1

theorem locs_new' {d b0 : Nat} {T : TypeId} {c : List Lf} {sv : SV} (h : s.L d = none) : ∀ b, b ∈ locs C s → b ∈ locs C { s with L := upd s.L d (some ⟨b0, T, c⟩), sl := upd s.sl d sv } := fun b hb => by
  obtain ⟨k, e, h1, h2, h3⟩ := mem_locs.1 hb
  have hk : k ≠ d := fun e' => by subst e'; rw [h] at h2; cases h2
  exact mem_locs.2 ⟨k, e, h1, by simp only [upd_other _ _ hk]; exact h2, h3⟩

theorem kind_alloc {y : OpI} (h1 : y.k.isMem = true) (hk : y.k = fkOf C.P y.o) (h : ∀ t z, y.o.op ≠ .load t z) : y.k = .alloc := by
  cases hy : y.k <;> rw [hy] at h1 <;> simp [FK.isMem] at h1
  · rw [hk] at hy
    unfold fkOf at hy
    split at hy
    · exfalso
      unfold fkOp at hy
      split at hy
      all_goals first
        | (cases hy; done)
        | exact h _ _ (by assumption)
        | (split at hy <;> first | (cases hy; done) | (split at hy <;> cases hy; done))
        | (rename_i op t x y' z hop; cases hb : isAggB C.P t <;> rw [hb] at hy <;> cases hy; done)
    · cases hy

theorem hrel_of (hkx : x.k = fkOf C.P x.o) (hws : ∃ u, s.ws = some u) (hR : DRel C all x s a w s' a' w') : HRel (C := C) Ls all x s s' := by
  obtain ⟨u, hu⟩ := hws
  rcases hR.how with ⟨v, rfl, rfl⟩ | ⟨_, hnl, hmm, d, T, cells, sv, obj, hd, hLn, rfl, rfl⟩ | ⟨_, hd, k, en, off, cells, us, l, he, rfl, hS, hlr, hra⟩ | ⟨ht, v, rfl, hkp, hdst⟩
  · exact ⟨fun k e' he => .inl ⟨e', by rw [put_L] at he; exact he, rfl, rfl, rfl⟩, fun b hb => by rw [locs_put]; exact hb, fun _ => ⟨put_ws.1, [], by rw [put_ws.2]; rfl, by simp⟩⟩
  · refine ⟨fun k e' he => ?_, locs_new' hLn, fun _ => ⟨rfl, [], rfl, by simp⟩⟩
    by_cases hk : k = d
    · subst hk; exact .inr ⟨kind_alloc hmm hkx hnl, hd⟩
    · simp only [upd_other _ _ hk] at he; exact .inl ⟨e', he, rfl, rfl, rfl⟩
  · refine ⟨fun k' e' he' => ?_, fun b hb => (locs_store he).2 hb, fun _ => ⟨rfl, [], rfl, by simp⟩⟩
    by_cases hk : k' = k
    · subst hk; simp only [upd_same, Option.some.injEq] at he'; subst he'
      exact .inl ⟨en, he, rfl, rfl, (setAt_length _ _ _).symm⟩
    · simp only [upd_other _ _ hk] at he'; exact .inl ⟨e', he', rfl, rfl, rfl⟩
  · refine ⟨fun k e' he => .inl ⟨e', by rw [put_L, past_L.1] at he; exact he, rfl, rfl, rfl⟩, fun b hb => by rw [locs_put]; simpa [locs, past_L.1] using hb, fun hst => ?_⟩
    have hst' := hst ht
    obtain ⟨d, hd⟩ := hdst hst'
    rw [hst', hd, past_strict hu]
    exact ⟨put_ws.1, [(d, w, w')], put_ws.2, fun r hr => by simp only [List.mem_singleton] at hr; subst hr; exact ⟨ht, rfl⟩⟩

theorem rel_sl (hR : DRel C all x s a w s' a' w') : (∀ d, x.o.dst ≠ some d → s'.sl d = s.sl d) ∧ ((∃ u, s.ws = some u) → ∃ u, s'.ws = some u) := by
  rcases hR.how with ⟨v, rfl, rfl⟩ | ⟨_, hnl, hmm, d, T, cells, sv, obj, hd, hLn, rfl, rfl⟩ | ⟨_, hd, k, en, off, cells, us, l, he, rfl, hS, hlr, hra⟩ | ⟨ht, v, rfl, hkp, hdst⟩
  · exact ⟨fun d hd => put_sl hd, fun h => by rw [put_ws.1]; exact h⟩
  · exact ⟨fun d' hd' => upd_other _ _ fun e => hd' (by rw [e]; exact hd), fun h => h⟩
  · exact ⟨fun _ _ => rfl, fun h => h⟩
  · refine ⟨fun d hd => by rw [put_sl hd, past_L.2.1], fun ⟨u, hu⟩ => ?_⟩
    rw [put_ws.1]
    unfold SS.past
    rw [hu]
    split
    · cases ‹_›
    · split
      · exact ⟨_, rfl⟩
      · exact ⟨_, rfl⟩

theorem rel_xs (hR : DRel C all x s a w s' a' w') : ∀ r ∈ s'.xs, r ∈ s.xs ∨ (x.k.isTied = true ∧ x.o.dst = some r.1) := by
  rcases hR.how with ⟨v, rfl, rfl⟩ | ⟨_, hnl, hmm, d, T, cells, sv, obj, hd, hLn, rfl, rfl⟩ | ⟨_, hd, k, en, off, cells, us, l, he, rfl, hS, hlr, hra⟩ | ⟨ht, v, rfl, hkp, hdst⟩
  · intro r hr; rw [put_ws.2] at hr; exact .inl hr
  · exact fun r hr => .inl hr
  · exact fun r hr => .inl hr
  · intro r hr
    rw [put_ws.2] at hr
    unfold SS.past at hr
    split at hr
    · exact .inl hr
    · split at hr
      · rcases List.mem_cons.1 hr with rfl | hr
        · exact .inr ⟨ht, by assumption⟩
        · exact .inl hr
      · simp at hr
/-- THE FIRST ONE, RUN NOW. -/
theorem adv_run {gs : List Nat} {K : SS → World → Prop} {next : Act → World → Prop} {Q : Exit → Act → World → Prop} (hL : Lay C.P ops all) (hD : DSt C ops all Ls s0 (x :: r) s a wp w) (hns : ¬ Ls x.i) (hcl : Closed ops Ls)
    (h : dVC C ops gs all (x :: r) K s wp) (hk : ∀ s' a' w' wp', dVC C ops gs all r K s' wp' → DSt C ops all Ls s0 r s' a' wp' w' → HRel (C := C) Ls all x s s' → (∃ v, a' = a.put x.o.dst v) → next a' w') :
    if Region.wanted x.o (yielded ops a.tmps) then wpy C.P x.o a w next Q else next (a.put x.o.dst undef) w := by
  simp only [dVC] at h
  have hxa : x ∈ all := hD.mem List.mem_cons_self
  have go : ∀ s' a' w' wp', dVC C ops gs all r K s' wp' → Sim C s' a' wp' w' → DRel C all x s a w s' a' w' → next a' w' := fun s' a' w' wp' h1 h2 h3 =>
    hk s' a' w' wp' h1 (hD.next hL h2 (.inr ⟨hns, hcl, h3.act⟩) (rel_sl h3).1 ((rel_sl h3).2 hD.ws) (adm_of_rel hL hD hns hcl h3) h3.fr (hrel_of (Ls := Ls) (hL.k x hxa) hD.ws h3).per (rel_xs h3)) (hrel_of (hL.k x hxa) hD.ws h3) h3.act
  rcases stepG_cases h hD.sim.sl with ⟨hw, h⟩ | ⟨hw, h⟩
  · rw [if_pos hw]; exact runD_sound (hL.k x hxa) h hD.sim go
  · rw [if_neg (by rw [hw]; simp)]
    obtain ⟨h1, h2⟩ := skip_sound h hD.sim
    exact go _ _ _ _ h1 h2 ⟨⟨_, rfl⟩, .put _ _ _ _, .inl ⟨_, rfl, rfl⟩⟩

end
end Go.Vc
end
section
/- A drawn region: an operation that was run ahead is taken over. -/
namespace Go.Vc
open Go.RowKit

theorem mk_inj {n n' : Option Nat} {b : Nat} (h : mk n b = mk n' b) : n = n' := by
  cases n <;> cases n' <;> simp [mk] at h ⊢
  exact h
theorem pushed_inj {w : World} {o o' : Obj} (h : pushed w o = pushed w o') : o = o' := by
  have : w.heap.push o = w.heap.push o' := congrArg World.heap h
  exact (Array.push_eq_push.1 this).1
theorem pushed_ne {w : World} {o : Obj} (h : w = pushed w o) : False := by
  have : w.heap.size = (w.heap.push o).size := congrArg (fun w : World => w.heap.size) h
  simp at this

section
variable {C : Cfg} {ops : Array Oper} {all : List OpI} {Ls : Nat → Prop} {s0 : SS} {x : OpI} {r : List OpI} {s : SS} {a : Act} {wp w : World}

theorem adm_put {y : OpI} {d : Option Tmp} {v : SV} : Adm C ops all s a w (s.put d v) w y :=
  ⟨put_gh.1, fun _ _ b _ q1 q2 => ⟨by rw [locs_put]; exact q1, fun u' hu' => q2 u' (by rw [← put_ws.1]; exact hu')⟩, fun _ _ _ _ _ _ _ _ _ => rfl, fun _ b _ _ _ _ _ _ hb _ => ⟨rfl, by rw [locs_put]; exact hb, fun u' hu' h => h u' (by rw [← put_ws.1]; exact hu'), fun r hr => .inl (by rw [put_ws.2] at hr; exact hr)⟩⟩

theorem adv_take {gs : List Nat} {K : SS → World → Prop} (hL : Lay C.P ops all) (hD : DSt C ops all Ls s0 (x :: r) s a wp w) (hl : Ls x.i)
    (h : dVC C ops gs all (x :: r) K s wp) : ∃ s' wp', dVC C ops gs all r K s' wp' ∧ DSt C ops all Ls s0 r s' a wp' w ∧ HRel (C := C) Ls all x s s' := by
  simp only [dVC] at h
  have hxa : x ∈ all := hD.mem List.mem_cons_self
  have hkx := hL.k x hxa
  have hflo := hD.flo x List.mem_cons_self hl
  obtain ⟨d, v, hd, hv, hp⟩ := hD.pend x List.mem_cons_self hl
  have hput : a.put x.o.dst v = a := by rw [hd]; exact put_self hv
  have fin : ∀ s' wp', dVC C ops gs all r K s' wp' → Sim C s' a wp' w → DRel C all x s a w s' a w → ∃ s' wp', dVC C ops gs all r K s' wp' ∧ DSt C ops all Ls s0 r s' a wp' w ∧ HRel (C := C) Ls all x s s' := fun s' wp' h1 h2 h3 => by
    refine ⟨s', wp', h1, hD.next hL h2 (.inl rfl) (rel_sl h3).1 ((rel_sl h3).2 hD.ws) (fun y hy hly => ?_) h3.fr (hrel_of (Ls := Ls) hkx hD.ws h3).per (rel_xs h3), hrel_of hkx hD.ws h3⟩
    rcases h3.how with ⟨v, rfl, _⟩ | ⟨_, _, _, _, _, _, _, _, _, _, _, hw⟩ | ⟨ht, _⟩ | ⟨ht, _⟩
    · exact adm_put
    · exact (pushed_ne hw).elim
    · rw [hflo] at ht; cases ht
    · rw [hflo] at ht; cases ht
  rcases stepG_cases h hD.sim.sl with ⟨hw, h⟩ | ⟨hw, h⟩
  · rcases hp with ⟨hw', _⟩ | ⟨_, hp⟩
    · rw [hw] at hw'; cases hw'
    cases hk : x.k <;> simp only [hk] at hp
    · have := runD_sound (Q := fun _ _ _ => False) (next := fun a' w' => ∃ s' wp', dVC C ops gs all r K s' wp' ∧ Sim C s' a' wp' w' ∧ DRel C all x s a w s' a' w') hkx h hD.sim fun s' a' w' wp' h1 h2 h3 => ⟨s', wp', h1, h2, h3⟩
      unfold wpy at this
      rw [hp w, upony_value, hput] at this
      obtain ⟨s', wp', h1, h2, h3⟩ := this
      exact fin s' wp' h1 h2 h3
    · obtain ⟨t, y, b, o, e1, e2, e3⟩ := hp
      have hrun : (execOp a.eval x.o).run C.P w = .ok (.value v) w := by
        generalize x.o = oo at e1
        obtain ⟨dd, op, ty, pp, af, gd⟩ := oo
        simp only at e1; subst e1
        simp only [execOp, e2, Instr.loadAt, Instr.sureAddr, Sem.run_bind, Sem.run_pure, e3.run, Result.andThen_ok]
      have := runD_sound (Q := fun _ _ _ => False) (next := fun a' w' => ∃ s' wp', dVC C ops gs all r K s' wp' ∧ Sim C s' a' wp' w' ∧ DRel C all x s a w s' a' w') hkx h hD.sim fun s' a' w' wp' h1 h2 h3 => ⟨s', wp', h1, h2, h3⟩
      unfold wpy at this
      rw [hrun, upony_value, hput] at this
      obtain ⟨s', wp', h1, h2, h3⟩ := this
      exact fin s' wp' h1 h2 h3
    · obtain ⟨n', obj, b, e1, rfl, e3, e4, e5, eg, e6, e7⟩ := hp
      unfold runD at h
      simp only [hk] at h
      split at h
      rotate_left
      · exact h.elim
      · exact h.elim
      rename_i T cells n hr
      have hP := plain_ok (C := C) (w := w) (evOk_of_sim hD.sim.sl) hD.sim.w.mem x.o
      rw [hr] at hP
      unfold stepRun at h
      rw [hr, hd] at h
      simp only at h
      cases hb : (Nat.blt d C.n && (!(hasL s.L d) && !(s.ro d))) <;> simp only [hb, cond_true, cond_false] at h
      · exact h.elim
      simp only [Bool.and_eq_true, Bool.not_eq_true'] at hb
      obtain ⟨hone, h⟩ := withOne_spec h
      obtain ⟨vs, hvs, hrun⟩ := hP hone
      rw [e1 w] at hrun
      simp only [Result.ok.injEq, Next.value.injEq] at hrun
      obtain ⟨hm, hpu⟩ := hrun
      obtain rfl : n' = n := mk_inj (b := w.heap.size) (by rw [hm]; cases n <;> rfl)
      obtain rfl := pushed_inj (o' := .cells vs.toArray T (0, 0)) hpu
      have hLd : s.L d = none := by
        have := hb.2.1; unfold hasL at this; split at this
        · simp at this
        · assumption
      have hdn : d < C.n := by simpa [Nat.blt_eq] using hb.1
      obtain ⟨u, hu⟩ := hD.ws
      have h1 := h b
      have h2 : ∀ Z : Prop, fresh s wp b Z → Z := fun Z hZ => by
        unfold fresh at hZ
        split at hZ
        · rename_i hn; rw [hu] at hn; cases hn
        · rename_i u' hu'; exact freshI_elim (hZ (e6 u' hu')) e7
      refine ⟨_, wp, h2 _ h1, hD.next hL (sim_adopt hD.sim hdn hLd hvs e3 e4 e5 eg hv ?_) (.inl rfl) (fun d' hd' => upd_other _ _ fun e => hd' (by rw [e]; exact hd)) ⟨u, hu⟩ (fun y hy hly => ⟨rfl, fun _ _ b' _ q1 q2 => ⟨fun hm' => by
        rcases locs_new hm' with h | h
        · have := e6 u hu; have := q2 u hu; omega
        · exact q1 h, q2⟩, fun _ _ _ _ _ _ _ _ _ => rfl, fun hyk b' d' v' q1 q2 q3 q4 q5 _ => ⟨rfl, fun hm' => ?_, fun u' hu' h => h u' hu', fun r hr => .inl hr⟩⟩) ?_ (locs_new' hLd) (fun r hr => .inl hr), ?_⟩
      · cases n' <;> simp [SV.toV, PV.toV, Lf.toV, upd_same, mk]
      · rcases locs_new hm' with h | h
        · subst h
          obtain ⟨pre, e⟩ := hD.suf
          have := pair_cons hL e y hy
          exact hD.pd x List.mem_cons_self y (List.mem_cons_of_mem _ hy) hl hly hk hyk this.ne d d' _ v' b' hd q1 hv q2 blk_mk q3
        · exact q5 h
      · refine ⟨fun k hk _ => upd_other _ _ fun e => hk (by rw [e]; exact hd), fun k e he _ => ⟨e, ?_, rfl, rfl, fun _ => rfl⟩, rfl, .of ⟨rfl, rfl, rfl⟩ rfl rfl⟩
        show upd s.L d _ k = some e
        rw [upd_other _ _ (fun e' => by subst e'; rw [hLd] at he; cases he)]; exact he
      · refine ⟨fun k e' he => ?_, locs_new' hLd, fun _ => ⟨rfl, [], rfl, by simp⟩⟩
        by_cases hkd : k = d
        · subst hkd; exact .inr ⟨hk, hd⟩
        · simp only [upd_other _ _ hkd] at he; exact .inl ⟨e', he, rfl, rfl, rfl⟩
  · rcases hp with ⟨_, rfl⟩ | ⟨hw', _⟩
    · obtain ⟨h1, h2⟩ := skip_sound h hD.sim
      rw [hput] at h2
      exact fin _ _ h1 h2 ⟨⟨undef, hput.symm⟩, .put _ _ _ _, .inl ⟨_, rfl, rfl⟩⟩
    · rw [hw] at hw'; cases hw'

end
end Go.Vc
end
section
/- A drawn region: an operation is run ahead. -/
namespace Go.Vc
open Go.RowKit

theorem wp_ex {P : Program} {o : Oper} {a : Act} {w : World} {next : Act → World → Prop} (h : wpy P o a w next fun _ _ _ => False) : ∃ a' w', next a' w' := by
  unfold wpy at h
  generalize (execOp a.eval o).run P w = r at h
  cases r with
  | ok n w' =>
    cases n with
    | value v => exact ⟨_, _, h⟩
    | skip => exact ⟨_, _, h⟩
    | defer d => exact ⟨_, _, h⟩
    | enter f args =>
      obtain ⟨e, w2, fr, hR, _⟩ := h []
      cases e with
      | returned v => exact ⟨_, _, hR⟩
      | panicked c => exact hR.elim
      | outgrown => obtain ⟨_, _, hf⟩ := hR; exact hf.elim
    | round l f tmps assign body =>
      obtain ⟨e, w2, hR, _⟩ := h.2 (Frame.ofRow P "" #[] .normal) [] (room_wide _)
      cases e with
      | returned v => exact ⟨_, _, hR⟩
      | panicked c => exact hR.elim
      | outgrown => obtain ⟨_, _, hf⟩ := hR; exact hf.elim
    | row row args =>
      obtain ⟨v, w2, hR, _⟩ := h (Frame.ofRow P row args .normal) []
      exact ⟨_, _, hR⟩
    | _ => exact h.elim
  | halt x w' => cases x <;> exact h.elim

structure DigR (C : Cfg) (all : List OpI) (Ls : Nat → Prop) (pre : List OpI) (s : SS) (a : Act) (s' : SS) (a' : Act) : Prop where
  slots : ∀ t, (∀ y ∈ pre, y.o.dst = some t → Ls y.i) → a'.tmps[t]? = a.tmps[t]?
  mem : ∀ k e', s'.L k = some e' → (∃ e, s.L k = some e ∧ e.b = e'.b ∧ e.T = e'.T ∧ e.cells.length = e'.cells.length) ∨ ∃ y ∈ pre, y.k = .alloc ∧ y.o.dst = some k
  per : ∀ b, b ∈ locs C s → b ∈ locs C s'
  xs : (∀ y ∈ pre, y.k.isTied = true → strictOf all y = true) → s'.ws = s.ws ∧ ∃ new, s'.xs = new ++ s.xs ∧ ∀ r ∈ new, ∃ y ∈ pre, y.k.isTied = true ∧ y.o.dst = some r.1

section
variable {C : Cfg} {ops : Array Oper} {all : List OpI} {Ls : Nat → Prop} {s0 : SS} {gs : List Nat} {K : SS → World → Prop}

theorem dig_step {y : OpI} {pre : List OpI} {s s1 s2 : SS} {a a1 a2 : Act} (h1 : HRel (C := C) Ls all y s s1) (ha : ∀ t, (y.o.dst = some t → Ls y.i) → a1.tmps[t]? = a.tmps[t]?) (h2 : DigR C all Ls pre s1 a1 s2 a2) : DigR C all Ls (y :: pre) s a s2 a2 := by
  refine ⟨fun t ht => ?_, fun k e' he => ?_, fun b hb => h2.per b (h1.per b hb), fun hs => ?_⟩
  · rw [h2.slots t fun z hz => ht z (List.mem_cons_of_mem _ hz)]
    exact ha t (ht y List.mem_cons_self)
  · rcases h2.mem k e' he with ⟨e1, g1, g2, g3, g4⟩ | ⟨z, hz, g⟩
    · rcases h1.mem k e1 g1 with ⟨e, q1, q2, q3, q4⟩ | q
      · exact .inl ⟨e, q1, q2.trans g2, q3.trans g3, q4.trans g4⟩
      · exact .inr ⟨y, List.mem_cons_self, q⟩
    · exact .inr ⟨z, List.mem_cons_of_mem _ hz, g⟩
  · obtain ⟨e1, n1, g1, g2⟩ := h1.xs (hs y List.mem_cons_self)
    obtain ⟨e2, n2, g3, g4⟩ := h2.xs fun z hz => hs z (List.mem_cons_of_mem _ hz)
    refine ⟨e2.trans e1, n2 ++ n1, by rw [g3, g1, List.append_assoc], fun r hr => ?_⟩
    rcases List.mem_append.1 hr with hr | hr
    · obtain ⟨z, hz, g⟩ := g4 r hr; exact ⟨z, List.mem_cons_of_mem _ hz, g⟩
    · exact ⟨y, List.mem_cons_self, g2 r hr⟩

theorem dig (hL : Lay C.P ops all) (hcl : Closed ops Ls) {x : OpI} {post : List OpI} : ∀ {pre : List OpI} {s : SS} {a : Act} {wp w : World}, DSt C ops all Ls s0 (pre ++ x :: post) s a wp w → dVC C ops gs all (pre ++ x :: post) K s wp →
    ∃ s' a' wp' w', stepG C ops x.o (runD C gs all x (dVC C ops gs all post K)) (dVC C ops gs all post K) s' wp' ∧ Sim C s' a' wp' w' ∧ DigR C all Ls pre s a s' a'
  | [], s, a, wp, w, hD, h => ⟨s, a, wp, w, h, hD.sim, fun _ _ => rfl, fun k e' he => .inl ⟨e', he, rfl, rfl, rfl⟩, fun _ h => h, fun _ => ⟨rfl, [], rfl, by simp⟩⟩
  | y :: pre, s, a, wp, w, hD, h => by
    by_cases hl : Ls y.i
    · obtain ⟨s1, wp1, h1, hD1, hR1⟩ := adv_take hL hD hl h
      obtain ⟨s', a', wp', w', g1, g2, g3⟩ := dig hL hcl hD1 h1
      exact ⟨s', a', wp', w', g1, g2, dig_step hR1 (fun _ _ => rfl) g3⟩
    · have := adv_run (Q := fun _ _ _ => False) (next := fun a' w' => ∃ s1 wp1, dVC C ops gs all (pre ++ x :: post) K s1 wp1 ∧ DSt C ops all Ls s0 (pre ++ x :: post) s1 a' wp1 w' ∧ HRel (C := C) Ls all y s s1 ∧ ∃ v, a' = a.put y.o.dst v) hL hD hl hcl h
        fun s' a' w' wp' h1 h2 h3 h4 => ⟨s', wp', h1, h2, h3, h4⟩
      obtain ⟨a1, w1, s1, wp1, h1, hD1, hR1, v, rfl⟩ : ∃ a' w', ∃ s1 wp1, dVC C ops gs all (pre ++ x :: post) K s1 wp1 ∧ DSt C ops all Ls s0 (pre ++ x :: post) s1 a' wp1 w' ∧ HRel (C := C) Ls all y s s1 ∧ ∃ v, a' = a.put y.o.dst v := by
        split at this
        · exact wp_ex this
        · exact ⟨_, _, this⟩
      obtain ⟨s', a', wp', w', g1, g2, g3⟩ := dig hL hcl hD1 h1
      exact ⟨s', a', wp', w', g1, g2, dig_step hR1 (fun t ht => put_other fun e => hl (ht e)) g3⟩

theorem sim_push {s : SS} {a : Act} {wp w : World} {obj : Obj} (hS : Sim C s a wp w) : Sim C s a wp (pushed w obj) := by
  obtain ⟨hsl, hn, hdd, ⟨hmem, hinj, hlow, hkept, hbel, hbase, hmu, hwx, hws, hxs⟩⟩ := hS
  have hsz : w.heap.size ≤ (pushed w obj).heap.size := by show w.heap.size ≤ (w.heap.push _).size; simp
  have hM : ∀ {u : World}, KeptM (locs C s) u w → KeptM (locs C s) u (pushed w obj) := fun {u} h => h.step (fun _ hx => hx) fun k hk _ => heap_push_old hk.lt
  have hK : ∀ {u : World}, Kept (locs C s) u w → Kept (locs C s) u (pushed w obj) := fun {u} h => h.step (fun _ hx => hx) rfl rfl rfl hsz (fun k hk _ => heap_push_old hk) fun x hx => Nat.lt_of_lt_of_le (h.own x hx) hsz
  exact ⟨hsl, hn, hdd.step hdd.dj ⟨rfl, rfl, rfl, hsz⟩ fun b hb => heap_push_old (hdd.gl b hb).2, ⟨fun k e he => by obtain ⟨vs, h1, h2⟩ := hmem k e he; exact ⟨vs, h1, (heap_push_old (lt_of_some h2)).trans h2⟩, hinj, hlow, hK hkept, fun hp => (hbel hp).trans ⟨rfl, rfl, rfl, hsz, fun k hk => heap_push_old (by omega)⟩, Nat.le_trans hbase hsz, hmu, hwx, fun u hu => (hws u hu).map hsz hK hM, fun x hx => (hxs x hx).map hsz hK hM⟩⟩

theorem sim_slot {s : SS} {a : Act} {wp w : World} {d : Tmp} {v : Value} (hS : Sim C s a wp w) (hd : s.sl d = .none) : Sim C s (a.put (some d) v) wp w :=
  ⟨fun k hk => by
    have hne : k ≠ d := fun e => hk (by rw [e]; exact hd)
    obtain ⟨u, h1, h2⟩ := hS.sl k hk
    exact ⟨u, h1, by rw [put_other fun e => hne (Option.some.inj e).symm]; exact h2⟩, by simp [Act.put, hS.n], hS.d, hS.w⟩

/-- One that floats, run ahead. -/
theorem DSt.early {l : List OpI} {s : SS} {a : Act} {wp w w' : World} {x : OpI} {d : Tmp} {v : Value} (hL : Lay C.P ops all) (hcl : Closed ops Ls) (hD : DSt C ops all Ls s0 l s a wp w) (hx : x ∈ l) (hf : x.k.isTied = false) (hns : ¬ Ls x.i) (hd : x.o.dst = some d)
    (hw : w' = w ∨ ∃ obj, w' = pushed w obj) (hP : Pend C ops s (a.put (some d) v) w' x) (hb : x.k = .alloc → ∀ b, blk v = some b → b = w.heap.size)
    (hri : ∀ f z t, addrOf x.o.op = some z → rootOf all f x.m z = some t → ∀ b, blk v = some b → ∃ u, a.tmps[t]? = some u ∧ blk u = some b) (hdn : d < C.n)
    (hfar : far all x = true → Region.wanted x.o (yielded ops a.tmps) = true → ∀ t z b o, x.o.op = .load t z → a.eval z = .pointer (some ⟨b, o, none⟩) → b ∉ locs C s ∧ ∀ u, s.ws = some u → b < u.heap.size) (hself : d ∉ looks ops x.o) :
    DSt C ops all (fun j => Ls j ∨ j = x.i) s0 l s (a.put (some d) v) wp w' := by
  have hxa := hD.mem hx
  have hsim : Sim C s (a.put (some d) v) wp w' := by
    have := sim_slot (v := v) hD.sim (hD.non x hx hf d hd)
    rcases hw with rfl | ⟨obj, rfl⟩
    · exact this
    · exact sim_push this
  have hsame : ∀ y ∈ l, y.i = x.i → y = x := fun y hy e => hL.same y (hD.mem hy) x hxa e
  have hAdm : ∀ y : OpI, Adm C ops all s a w s w' y := fun y => by
    rcases hw with rfl | ⟨obj, rfl⟩
    · exact ⟨rfl, fun _ _ b _ q1 q2 => ⟨q1, q2⟩, fun _ _ _ _ _ _ _ _ _ => rfl, fun _ b _ _ _ _ _ _ hb _ => ⟨rfl, hb, fun u' hu' h => h u' hu', fun r hr => .inl hr⟩⟩
    · exact ⟨rfl, fun _ _ b _ q1 q2 => ⟨q1, q2⟩, fun _ _ _ _ _ _ _ _ hb => heap_push_old hb.lt, fun _ b _ _ _ _ _ hlt hb _ => ⟨heap_push_old hlt, hb, fun u' hu' h => h u' hu', fun r hr => .inl hr⟩⟩
  obtain ⟨pre, e⟩ := hD.suf
  have hpw : l.Pairwise fun q p => okPair ops q p = true := by
    have := hL.pairs
    rw [e, List.pairwise_append] at this
    exact this.2.1
  -- the slot of x is not looked at by those that were run ahead
  have hlk : ∀ y ∈ l, Ls y.i → d ∉ looks ops y.o := fun y hy hl => by
    have hne : y.i ≠ x.i := fun e => hns (e ▸ hl)
    have hfy := hD.flo y hy hl
    have hin : inM x y = false := by
      cases hb : inM x y
      · rfl
      · exact absurd (hL.anc Ls hcl y (hD.mem hy) hl x.i hb) hns
    have : OkP ops x y ∨ OkP ops y x := pairwise_sym (R := fun x y => OkP ops x y ∨ OkP ops y x) (fun _ _ h => h.symm) (hpw.imp fun {q p} h => .inl (okPair_spec h)) x hx y hy fun e => hne (by rw [e])
    rcases this with h | h
    · exact h.a1 hfy hin d hd
    · exact h.a2 hf hfy d hd
  refine ⟨hsim, hD.suf, fun y hy hl => ?_, fun y hy hl => ?_, hD.non, hD.ws, ?_, ?_, hD.fr, hD.nol, fun y hy hyx => by
    obtain ⟨g0, z, t, u, b, g1, g2, g3, g4, g5⟩ := hD.exi y hy hyx
    exact ⟨g0, z, t, u, b, g1, g2, by rw [put_other fun e => findD_none (rootOf_none g2) x hxa (by rw [← e]; first | exact hd | assumption)]; exact g3, g4, g5⟩, fun y hy hl hf2 hw2 t z b o ho hz => by
    have hl2 : ∀ t ∈ looks ops y.o, (a.put (some d) v).tmps[t]? = a.tmps[t]? := fun t ht => put_other fun e => by
      obtain rfl := Option.some.inj e
      by_cases hyx : y.i = x.i
      · rw [hsame y hy hyx] at ht; exact hself ht
      · exact hlk y hy (hl.resolve_right hyx) ht
    obtain ⟨e1, e2⟩ := looks_same hl2
    rw [e2] at hw2
    rw [e1 z (by rw [ho]; simp [Op.operands])] at hz
    by_cases hyx : y.i = x.i
    · have e := hsame y hy hyx
      rw [e] at hf2 hw2 ho
      exact hfar hf2 hw2 t z b o ho hz
    · exact hD.farI y hy (hl.resolve_right hyx) hf2 hw2 t z b o ho hz, hD.xsT⟩
  · rcases hl with hl | hl
    · exact hD.flo y hy hl
    · rw [hsame y hy hl]; exact hf
  · by_cases hyx : y.i = x.i
    · rw [hsame y hy hyx]; exact hP
    · have hl' := hl.resolve_right hyx
      exact (hD.pend y hy hl').keep (hL.k y (hD.mem hy)) (fun d' hd' => by obtain rfl := Option.some.inj hd'; exact hlk y hy hl') (fun d' hd' => by obtain rfl := Option.some.inj hd'; exact hL.dstNe hxa (hD.mem hy) (fun e => hyx e.symm) d hd) (hAdm y)
  · have hold : ∀ y ∈ l, Ls y.i → y.k = .alloc → ∀ d' v' b, y.o.dst = some d' → a.tmps[d']? = some v' → blk v' = some b → b < w.heap.size := fun y hy hl hk d' v' b h1 h2 h3 => by
      obtain ⟨d2, v2, g1, g2, g3⟩ := hD.pend y hy hl
      rw [g1] at h1; obtain rfl := Option.some.inj h1
      rw [g2] at h2; obtain rfl := Option.some.inj h2
      rcases g3 with ⟨_, rfl⟩ | ⟨_, g3⟩
      · simp [undef, blk] at h3
      · simp only [hk] at g3
        obtain ⟨n, obj, b', _, rfl, g4, _⟩ := g3
        rw [blk_mk] at h3; obtain rfl := Option.some.inj h3
        exact lt_of_some g4
    have hslot : ∀ y ∈ l, y.i ≠ x.i → ∀ d', y.o.dst = some d' → (a.put (some d) v).tmps[d']? = a.tmps[d']? := fun y hy hne d' hd' => put_other fun e => by
      obtain rfl := Option.some.inj e
      exact hL.dstNe (hD.mem hy) hxa hne d hd' hd
    have hhere : (a.put (some d) v).tmps[d]? = some v := put_here (by rw [hD.sim.n]; exact hdn)
    intro y hy z hz h1 h2 h3 h4 h5 d1 d2 v1 v2 b h6 h7 h8 h9 h10 h11
    by_cases hyx : y.i = x.i <;> by_cases hzx : z.i = x.i
    · exact h5 (hyx.trans hzx.symm)
    · rw [hsame y hy hyx, hd] at h6; obtain rfl := Option.some.inj h6
      rw [hhere] at h8; obtain rfl := Option.some.inj h8
      rw [hslot z hz hzx d2 h7] at h9
      have q1 := hb (by rw [← hsame y hy hyx]; exact h3) b h10
      have q2 := hold z hz (h2.resolve_right hzx) h4 d2 v2 b h7 h9 h11
      omega
    · rw [hsame z hz hzx, hd] at h7; obtain rfl := Option.some.inj h7
      rw [hhere] at h9; obtain rfl := Option.some.inj h9
      rw [hslot y hy hyx d1 h6] at h8
      have q1 := hb (by rw [← hsame z hz hzx]; exact h4) b h11
      have q2 := hold y hy (h1.resolve_right hyx) h3 d1 v1 b h6 h8 h10
      omega
    · rw [hslot y hy hyx d1 h6] at h8
      rw [hslot z hz hzx d2 h7] at h9
      exact hD.pd y hy z hz (h1.resolve_right hyx) (h2.resolve_right hzx) h3 h4 h5 d1 d2 v1 v2 b h6 h7 h8 h9 h10 h11
  · intro y hy hl f z t d' h1 h2 h3
    have ht : (a.put (some d) v).tmps[t]? = a.tmps[t]? := put_other fun e => by
      obtain rfl := Option.some.inj e
      exact findD_none (rootOf_none h2) x hxa hd
    rw [ht]
    by_cases hyx : y.i = x.i
    · have hyx' := hL.same y hy x hxa hyx
      rw [hyx'] at h1 h2 h3
      rw [hd] at h3; obtain rfl := Option.some.inj h3
      exact ⟨v, put_here (by rw [hD.sim.n]; exact hdn), hri f z t h1 h2⟩
    · rw [put_other fun e => by
        obtain rfl := Option.some.inj e
        exact hL.dstNe hy hxa hyx d h3 hd]
      exact hD.ri y hy (hl.resolve_right hyx) f z t d' h1 h2 h3

end
end Go.Vc
end
section
/- A drawn region: what floats can be run ahead. -/
namespace Go.Vc
open Go.RowKit

/-- An address that an operation makes lies in the block of the one that it was made from. -/
theorem plusOff_blk {L : Nat → Option LocE} {l l' : Lf} {k : Nat} {u v : Value} (h : plusOff L l k = some l') (hu : l.toV L = some u) (hv : l'.toV L = some v) : blk v = blk u := by
  unfold plusOff at h
  split at h
  · simp at h; subst h; simp [Lf.toV] at hu hv; subst hu; subst hv; rfl
  · rename_i key o
    cases hb : hasL L key <;> simp [hb] at h
    subst h
    simp only [Lf.toV] at hu hv
    unfold hasL at hb
    split at hb
    · rename_i e he
      simp [he] at hu hv; subst hu; subst hv; rfl
    · cases hb
  · cases h

theorem addr_blk {C : Cfg} {s : SS} {ρ : Operand → Value} {o : Oper} {z : Operand} {v : Value} {b : Nat} (hE : EvOk s ρ) (hz : addrOf o.op = some z)
    (h : (∃ sv, resOf C s o.dst o.op = .val sv ∧ sv.toV s.L = some v) ∨ (∃ c sv, resOf C s o.dst o.op = .cond c sv ∧ sv.toV s.L = some v) ∨ (∃ a c f b' off, resOf C s o.dst o.op = .ex a c f ∧ a = some ⟨b', off, none⟩ ∧ (f b' off).toV s.L = some v)) (hb : blk v = some b) : blk (ρ z) = some b := by
  obtain ⟨d, op, ty, p, af, g⟩ := o
  cases op <;> simp only [addrOf, reduceCtorEq, Option.some.injEq] at hz <;> subst hz
  case move x =>
    rcases h with ⟨sv, h1, h2⟩ | ⟨c, sv, h1, h2⟩ | ⟨a, c, f, b', off, h1, _⟩
    · simp only [resOf] at h1
      split at h1 <;> simp at h1
      rename_i hx hy
      subst h1
      have := hE.get h2
      rw [this]; exact hb
    · simp only [resOf] at h1; split at h1 <;> simp at h1
    · simp only [resOf] at h1; split at h1 <;> simp at h1
  case nilCheck x =>
    rcases h with ⟨sv, h1, h2⟩ | ⟨c, sv, h1, h2⟩ | ⟨a, c, f, b', off, h1, _, _⟩
    · simp only [resOf] at h1
      split at h1
      · simp at h1
      · rename_i l _ hx
        cases hp : l.isPtr s.L <;> simp [hp] at h1
        subst h1
        have := hE.get (x := x) (v := v) (by rw [hx]; exact h2)
        rw [this]; exact hb
      · simp at h1
    · simp only [resOf] at h1; split at h1
      · simp at h1
      · rename_i l _ hx; cases hp : l.isPtr s.L <;> simp [hp] at h1
      · simp at h1
    · rename_i h1a h1b
      simp only [resOf] at h1; split at h1
      · rename_i a2 hx
        simp only [Res.ex.injEq] at h1
        obtain ⟨rfl, rfl, rfl⟩ := h1
        have := hE.get (x := x) (v := .pointer a2) (by rw [hx]; rfl)
        rw [this, h1a]
        simp [SV.toV, PV.toV, Lf.toV] at h1b
        subst h1b
        simpa [blk] using hb
      · rename_i l _ hx; cases hp : l.isPtr s.L <;> simp [hp] at h1
      · simp at h1
  case fieldAddr t x f =>
    have key : ∀ r, resOf C s d (.fieldAddr t x f) = r → (∃ why, r = .no why) ∨ ∃ l l' k, s.ev x = .pv (.one l) ∧ plusOff s.L l k = some l' ∧ r = .val (.pv (.one l')) := fun r hr => by
      simp only [resOf] at hr
      split at hr
      · rename_i fs l ht hx
        split at hr
        · rename_i fl hfl
          cases hc : (hasT C.P fl.type && Nat.blt 0 (C.P.cellsOf fl.type)) <;> simp only [hc, cond_true, cond_false] at hr
          · exact .inl ⟨_, hr.symm⟩
          · split at hr
            · rename_i l' hl'; exact .inr ⟨l, l', _, hx, hl', hr.symm⟩
            · exact .inl ⟨_, hr.symm⟩
        · exact .inl ⟨_, hr.symm⟩
      · exact .inl ⟨_, hr.symm⟩
    rcases h with ⟨sv, h1, h2⟩ | ⟨c, sv, h1, h2⟩ | ⟨a, c, g, b', off, h1, _⟩
    · rcases key _ h1 with ⟨_, h⟩ | ⟨l, l', k, g1, g2, g3⟩
      · cases h
      · simp only [Res.val.injEq] at g3; subst g3
        obtain ⟨u, q1, q2⟩ := hE x (by rw [g1]; simp)
        rw [g1] at q1
        rw [q2, ← plusOff_blk g2 q1 h2]; exact hb
    · rcases key _ h1 with ⟨_, h⟩ | ⟨l, l', k, g1, g2, g3⟩
      · cases h
      · cases g3
    · rcases key _ h1 with ⟨_, h⟩ | ⟨l, l', k, g1, g2, g3⟩
      · cases h
      · cases g3
  case indexAddr t x i =>
    have key : ∀ r, resOf C s d (.indexAddr t x i) = r → (∃ why, r = .no why) ∨ (∃ a n c cc k, s.ev x = .pv (.one (.sl a n c)) ∧ r = .ex a cc (fun b o => .pv (.one (.ptr b (o + k))))) ∨ (∃ b o o' cc, s.ev x = .pv (.one (.ptr b o)) ∧ r = .cond cc (.pv (.one (.ptr b o')))) ∨ (∃ k o o', s.ev x = .pv (.one (.loc k o)) ∧ r = .val (.pv (.one (.loc k o')))) := fun r hr => by
      simp only [resOf] at hr
      split at hr
      · rename_i e a n c k j ht hx hi
        cases hc : hasT C.P e <;> simp only [hc, Bool.not_true, Bool.not_false, cond_true, cond_false] at hr
        · exact .inl ⟨_, hr.symm⟩
        · exact .inr (.inl ⟨a, n, c, _, _, hx, hr.symm⟩)
      · rename_i n e b o k j ht hx hi
        cases hc : hasT C.P e <;> simp only [hc, Bool.not_true, Bool.not_false, cond_true, cond_false] at hr
        · exact .inl ⟨_, hr.symm⟩
        · exact .inr (.inr (.inl ⟨b, o, _, _, hx, hr.symm⟩))
      · rename_i n e k o kk j ht hx hi
        cases hc : (Nat.blt j n && (hasT C.P e && hasL s.L k)) <;> simp only [hc, cond_true, cond_false] at hr
        · exact .inl ⟨_, hr.symm⟩
        · exact .inr (.inr (.inr ⟨k, o, _, hx, hr.symm⟩))
      · exact .inl ⟨_, hr.symm⟩
    rcases h with ⟨sv, h1, h2⟩ | ⟨c, sv, h1, h2⟩ | ⟨a, c, g, b', off, h1, h2, h3⟩
    · rcases key _ h1 with ⟨_, h⟩ | ⟨_, _, _, _, _, _, h⟩ | ⟨_, _, _, _, _, h⟩ | ⟨k, o, o', g1, h⟩
      · cases h
      · cases h
      · cases h
      · simp only [Res.val.injEq] at h; subst h
        obtain ⟨u, q1, q2⟩ := hE x (by rw [g1]; simp)
        rw [g1] at q1
        simp only [SV.toV, PV.toV, Lf.toV] at q1 h2
        split at q1 <;> simp at q1
        rename_i e he
        simp [he] at h2
        subst q1; subst h2
        rw [q2]; exact hb
    · rcases key _ h1 with ⟨_, h⟩ | ⟨_, _, _, _, _, _, h⟩ | ⟨bb, o, o', cc, g1, h⟩ | ⟨_, _, _, _, h⟩
      · cases h
      · cases h
      · simp only [Res.cond.injEq] at h
        obtain ⟨rfl, rfl⟩ := h
        have := hE.get (x := x) (v := .pointer (some ⟨bb, o, none⟩)) (by rw [g1]; rfl)
        simp [SV.toV, PV.toV, Lf.toV] at h2
        subst h2
        rw [this]; exact hb
      · cases h
    · rcases key _ h1 with ⟨_, h⟩ | ⟨a', n, cp, cc, k, g1, h⟩ | ⟨_, _, _, _, _, h⟩ | ⟨_, _, _, _, h⟩
      · cases h
      · simp only [Res.ex.injEq] at h
        obtain ⟨rfl, rfl, rfl⟩ := h
        have := hE.get (x := x) (v := .slice a n cp) (by rw [g1]; rfl)
        simp [SV.toV, PV.toV, Lf.toV] at h3
        subst h3; subst h2
        rw [this]; exact hb
      · cases h
      · cases h

theorem loadVC_nz {C : Cfg} {gs anc : List Nat} {dst : Option Tmp} {t : TypeId} {b off : Nat} {K : SS → World → Prop} {s : SS} {wp : World} (h : loadVC C gs anc dst t b off K s wp) : (C.semi && !C.maps && isSomeW s.ws) = false := by
  unfold loadVC at h
  cases hz : (C.semi && !C.maps && isSomeW s.ws)
  · rfl
  · simp only [hz, cond_true] at h
    exact h.elim
/-- What a load's condition says of the memory that it reads. -/
theorem loadVC_facts {C : Cfg} {gs anc : List Nat} {dst : Option Tmp} {t : TypeId} {b off : Nat} {K : SS → World → Prop} {s : SS} {a : Act} {wp w : World} (h : loadVC C gs anc dst t b off K s wp) (hS : Sim C s a wp w) :
    b ∉ locs C s ∧ ∃ v, LoadIs C.P t b off v (refW s anc wp) := by
  unfold loadVC at h
  cases hz : (C.semi && !C.maps && isSomeW s.ws) <;> simp only [hz, cond_true, cond_false] at h
  rotate_left
  · exact h.elim
  cases hT : hasT C.P t <;> simp only [hT, cond_true, cond_false] at h
  · exact h.elim
  obtain ⟨p, hp, hform⟩ : ∃ p, (match toVs s.L p.cells with
    | some vs => bif Nat.beq vs.length (C.P.cellsOf t) then cellsAt (refW s anc wp) b off vs (match locs C s with
      | [] => putK C gs s dst (.pv p) fun s' => K s' wp
      | l => (b < C.base ∨ notIn b l) ∧ putK C gs s dst (.pv p) fun s' => K s' wp)
      else Unsup "load size"
    | none => Unsup "load cells") ∧ (isAggB C.P t = false → ∃ l, p = .one l) := by
    unfold exPV at h
    split at h
    · cases ha : isAggB C.P t <;> simp only [ha, cond_true, cond_false] at h
      · obtain ⟨l, hl⟩ := exSh_elim h
        split at hl
        · exact ⟨_, hl, fun _ => ⟨_, rfl⟩⟩
        · exact hl.elim
      · obtain ⟨l, hl⟩ := exSh_elim h
        exact ⟨_, hl, by simp⟩
    · exact h.elim
  split at hp
  · rename_i vs hvs
    cases hlen : Nat.beq vs.length (C.P.cellsOf t) <;> simp only [hlen, cond_true, cond_false] at hp
    · exact hp.elim
    have hlen' := Nat.eq_of_beq_eq_true hlen
    obtain ⟨hp, hcells⟩ := cellsAt_elim hp
    refine ⟨?_, ?_⟩
    · split at hp
      · rename_i hl; rw [hl]; simp
      · rcases hp.1 with h1 | h1
        · intro hm
          obtain ⟨k, e, _, he, rfl⟩ := mem_locs.1 hm
          have := (hS.w.low k e he).1
          omega
        · exact notIn_spec h1
    · cases ha : isAggB C.P t
      · obtain ⟨l, rfl⟩ := hform ha
        simp only [PV.cells, toVs] at hvs
        split at hvs <;> simp at hvs
        rename_i u us hu hus
        simp only [Option.some.injEq] at hus
        subst hus; subst hvs
        exact ⟨u, hT, [u], by simp [ha], fun _ => rfl, hcells⟩
      · exact ⟨.agg vs.toArray, hT, vs, fun _ => ⟨rfl, hlen'⟩, by simp [ha], hcells⟩
  · exact hp.elim

theorem takeN_len : ∀ {n : Nat} {l r : List Lf}, takeN n l = some r → n ≤ l.length
  | 0, l, r, h => Nat.zero_le _
  | n + 1, [], r, h => by simp [takeN] at h
  | n + 1, c :: cs, r, h => by
    simp only [takeN] at h
    split at h
    · rename_i q hq; have := takeN_len hq; simp; omega
    · cases h

/-- A part of a variable can be read, whatever it holds. -/
theorem part_load {P : Program} {t : TypeId} {o b : Nat} {cells : List Lf} {p : PV} {w : World} {T : TypeId} {vs : List Value} (h : partOf P t o cells = some p) (hh : w.heap[b]? = some (.cells vs.toArray T (0, 0))) (hl : vs.length = cells.length) :
    ∃ v, LoadIs P t b o v w := by
  have hT := partOf_hasT h
  have hT' : hasT P t = true := by unfold hasT; obtain ⟨d, hd⟩ := hT; rw [hd]
  have hcell : ∀ i v, vs[i]? = some v → w.cell? ⟨b, i, none⟩ = some v := fun i v hi => by
    unfold World.cell?
    simp only [hh]
    simpa using hi
  unfold partOf at h
  rw [hT'] at h
  simp only [cond_true] at h
  cases ha : isAggB P t <;> simp only [ha, cond_true, cond_false] at h
  · split at h
    · rename_i c cs hc
      have hlt : o < cells.length := by
        rcases Nat.lt_or_ge o cells.length with h | h
        · exact h
        · rw [List.drop_eq_nil_of_le h] at hc; cases hc
      refine ⟨vs[o]'(by omega), hT', [vs[o]'(by omega)], by simp [ha], fun _ => rfl, fun i u hi => ?_⟩
      cases i with
      | zero => simp at hi; subst hi; exact hcell o _ (by simp)
      | succ i => simp at hi
    · cases h
  · cases hle : Nat.ble o cells.length <;> simp only [hle, cond_true, cond_false] at h
    · cases h
    · split at h
      · rename_i r hr
        have := takeN_len hr
        simp only [List.length_drop] at this
        have hle' := Nat.le_of_ble_eq_true hle
        refine ⟨.agg ((vs.drop o).take (P.cellsOf t)).toArray, hT', (vs.drop o).take (P.cellsOf t), fun _ => ⟨rfl, by simp; omega⟩, by simp [ha], fun i u hi => hcell (o + i) u ?_⟩
        rw [List.getElem?_take] at hi
        split at hi
        · simpa using hi
        · cases hi
      · cases h

end Go.Vc
end
section
/- A drawn region: its conditions suffice. -/
namespace Go.Vc
open Go.RowKit

theorem fk_notstore {P : Program} {o : Oper} (h : (fkOf P o).isTied = false) : ∀ t x y, o.op ≠ .store t x y := by
  intro t x y e
  unfold fkOf at h
  split at h
  · rw [e] at h; simp [fkOp, FK.isTied] at h
  · simp [FK.isTied] at h
theorem fk_pureload {P : Program} {o : Oper} (h : fkOf P o = .pure) : ∀ t z, o.op ≠ .load t z := by
  intro t z e
  unfold fkOf at h
  split at h
  · rw [e] at h; simp [fkOp] at h
  · simp at h
theorem fk_dst {P : Program} {o : Oper} (h : (fkOf P o).isTied = false) : ∃ d, o.dst = some d := by
  unfold fkOf at h
  split at h
  · exact ⟨_, by assumption⟩
  · simp [FK.isTied] at h
theorem far_noTied {all : List OpI} {x : OpI} (h : far all x = true) : ∀ y ∈ all, y.k.isTied = true → inM y x = true → False := by
  intro y hy ht hin
  unfold far at h
  split at h
  · split at h
    · simp only [Bool.and_eq_true] at h
      have := List.all_eq_true.1 h.1 y hy
      rw [ht, hin] at this
      cases this
    · cases h
  · cases h
theorem mem_ancSlots {x : OpI} {d : Nat} : ∀ {l : List OpI}, d ∈ ancSlots l x → ∃ y ∈ l, inM y x = true ∧ y.o.dst = some d
  | [], h => by simp [ancSlots] at h
  | y :: r, h => by
    simp only [ancSlots] at h
    cases hb : inM y x <;> simp only [hb, cond_true, cond_false] at h
    · obtain ⟨z, h1, h2⟩ := mem_ancSlots h; exact ⟨z, List.mem_cons_of_mem _ h1, h2⟩
    · split at h
      · rename_i d' hd
        rcases List.mem_cons.1 h with rfl | h
        · exact ⟨y, List.mem_cons_self, hb, hd⟩
        · obtain ⟨z, h1, h2⟩ := mem_ancSlots h; exact ⟨z, List.mem_cons_of_mem _ h1, h2⟩
      · obtain ⟨z, h1, h2⟩ := mem_ancSlots h; exact ⟨z, List.mem_cons_of_mem _ h1, h2⟩
theorem mem_allocDsts {d : Nat} {y : OpI} : ∀ {l : List OpI}, y ∈ l → y.k = .alloc → y.o.dst = some d → d ∈ allocDsts l
  | [], h, _, _ => by simp at h
  | z :: r, h, h1, h2 => by
    simp only [allocDsts]
    rcases List.mem_cons.1 h with rfl | h
    · rw [h1, h2]; simp
    · have := mem_allocDsts h h1 h2
      split
      · exact List.mem_cons_of_mem _ this
      · exact this

section
variable {C : Cfg} {ops : Array Oper} {all : List OpI} {Ls : Nat → Prop} {s0 : SS} {gs : List Nat} {K : SS → World → Prop}

theorem early_run {l : List OpI} {s : SS} {a : Act} {wp w : World} {x : OpI} (hL : Lay C.P ops all) (hN : ∀ x ∈ all, ∀ d, x.o.dst = some d → d < C.n) (hcl : Closed ops Ls) (hD : DSt C ops all Ls s0 l s a wp w) (hV : dVC C ops gs all l K s wp)
    (hx : x ∈ l) (hf : x.k.isTied = false) (hns : ¬ Ls x.i) (hready : ∀ j, Nat.testBit x.m j = true → Ls j) :
    if Region.wanted x.o (yielded ops a.tmps) then ∃ v w', (execOp a.eval x.o).run C.P w = .ok (.value v) w' ∧ DSt C ops all (fun j => Ls j ∨ j = x.i) s0 l s (a.put x.o.dst v) wp w'
    else DSt C ops all (fun j => Ls j ∨ j = x.i) s0 l s (a.put x.o.dst undef) wp w := by
  have hxa := hD.mem hx
  have hkx := hL.k x hxa
  have hft : (fkOf C.P x.o).isTied = false := by rw [← hkx]; exact hf
  obtain ⟨d, hd⟩ := fk_dst hft
  have hdn := hN x hxa d hd
  have hself := hL.self x hxa hf d hd
  obtain ⟨pre, post, rfl⟩ := List.append_of_mem hx
  obtain ⟨s', a', wp', w', hG, hS', hR⟩ := dig hL hcl hD hV
  obtain ⟨pre0, e0⟩ := hD.suf
  have hpre : ∀ y ∈ pre, OkP ops y x := fun y hy => by
    have := hL.pairs
    rw [e0, List.pairwise_append] at this
    have := this.2.1
    rw [List.pairwise_append] at this
    exact okPair_spec (this.2.2 y hy x List.mem_cons_self)
  have hpa : ∀ y ∈ pre, y ∈ all := fun y hy => hD.mem (List.mem_append_left _ hy)
  have hlk : ∀ t ∈ looks ops x.o, a'.tmps[t]? = a.tmps[t]? := fun t ht => hR.slots t fun y hy hyd => by
    by_cases hin : inM y x = true
    · exact hready _ hin
    · exact absurd ht ((hpre y hy).a1 hf (by simpa using hin) t hyd)
  obtain ⟨hop, hwant⟩ := looks_same hlk
  have hexec : execOp a'.eval x.o = execOp a.eval x.o := exec_same hft hlk
  -- the slots that x looks at do not change when it is put
  have hput : ∀ (v : Value) t, t ∈ looks ops x.o → (a.put (some d) v).tmps[t]? = a.tmps[t]? := fun v t ht => put_other fun e => hself (by obtain rfl := Option.some.inj e; exact ht)
  have hhere : ∀ v : Value, (a.put (some d) v).tmps[d]? = some v := fun v => put_here (by rw [hD.sim.n]; exact hdn)
  have hwp : ∀ v : Value, Region.wanted x.o (yielded ops (a.put (some d) v).tmps) = Region.wanted x.o (yielded ops a.tmps) := fun v => (looks_same (hput v)).2
  have hE := evOk_of_sim hS'.sl
  rw [hd]
  rcases stepG_cases hG hS'.sl with ⟨hw, hG⟩ | ⟨hw, hG⟩
  · rw [hwant] at hw
    rw [if_pos hw]
    cases hk : x.k
    · -- values alone
      unfold runD at hG
      simp only [hk] at hG
      have hnl := fk_pureload (hkx ▸ hk)
      have hany := fun w0 => plain_any (C := C) (w := w0) hE x.o hnl (fk_notstore hft)
      have key : ∀ sv v, (∀ w0, Yields s' w0 ((execOp a'.eval x.o).run C.P w0) sv) → sv.toV s'.L = some v →
          ((∃ sv, resOf C s' x.o.dst x.o.op = .val sv ∧ sv.toV s'.L = some v) ∨ (∃ c sv, resOf C s' x.o.dst x.o.op = .cond c sv ∧ sv.toV s'.L = some v) ∨ (∃ a c f b' off, resOf C s' x.o.dst x.o.op = .ex a c f ∧ a = some ⟨b', off, none⟩ ∧ (f b' off).toV s'.L = some v)) →
          ∃ v w', (execOp a.eval x.o).run C.P w = .ok (.value v) w' ∧ DSt C ops all (fun j => Ls j ∨ j = x.i) s0 (pre ++ x :: post) s (a.put (some d) v) wp w' := fun sv v hy hv hr => by
        have hrun : ∀ w0, (execOp a.eval x.o).run C.P w0 = .ok (.value v) w0 := fun w0 => by
          obtain ⟨u, h1, h2⟩ := hy w0
          rw [hv] at h2; obtain rfl := Option.some.inj h2
          rw [← hexec]; exact h1
        refine ⟨v, w, hrun w, hD.early hL hcl hx hf hns hd (.inl rfl) ⟨d, v, hd, hhere v, .inr ⟨by rw [hwp]; exact hw, ?_⟩⟩ (fun h => by rw [hk] at h; cases h) (fun f z t hz hro b hb => ?_) hdn (fun _ _ t2 z2 _ _ h1 _ => absurd h1 (hnl t2 z2)) hself⟩
        · simp only [hk]
          rw [exec_same hft (hput v)]
          exact hrun
        · have h1 := addr_blk hE hz hr hb
          have hzl : a'.eval z = a.eval z := by
            refine hop z ?_
            cases ho : x.o.op <;> rw [ho] at hz <;> simp only [addrOf, reduceCtorEq, Option.some.injEq] at hz <;> subst hz <;> simp [Op.operands]
          rw [hzl] at h1
          exact root_val hD.ri hready hro h1
      split at hG
      · rename_i sv hr
        have h1 : ∀ w0, Yields s' w0 ((execOp a'.eval x.o).run C.P w0) sv := fun w0 => by have := hany w0; rw [hr] at this; exact this
        obtain ⟨v, _, hv⟩ := h1 w
        exact key sv v h1 hv (.inl ⟨sv, hr, hv⟩)
      · rename_i c sv hr
        unfold stepRun at hG
        rw [hr] at hG
        have h1 : ∀ w0, Yields s' w0 ((execOp a'.eval x.o).run C.P w0) sv := fun w0 => by have := hany w0; rw [hr] at this; exact this hG.1
        obtain ⟨v, _, hv⟩ := h1 w
        exact key sv v h1 hv (.inr (.inl ⟨c, sv, hr, hv⟩))
      · rename_i ad c f hr
        unfold stepRun at hG
        rw [hr] at hG
        obtain ⟨b, off, e1, e2, _⟩ := hG
        have h1 : ∀ w0, Yields s' w0 ((execOp a'.eval x.o).run C.P w0) (f b off) := fun w0 => by have := hany w0; rw [hr] at this; exact this b off e1 e2
        obtain ⟨v, _, hv⟩ := h1 w
        exact key _ v h1 hv (.inr (.inr ⟨ad, c, f, b, off, hr, e1, hv⟩))
      · exact hG.elim
      · exact hG.elim
    · -- a load
      unfold runD at hG
      simp only [hk] at hG
      split at hG
      rotate_left
      · exact hG.elim
      rename_i y hy
      obtain ⟨t, ho⟩ : ∃ t, x.o.op = .load t y := by
        cases ho : x.o.op <;> rw [ho] at hy <;> simp [loadOf] at hy
        subst hy; exact ⟨_, rfl⟩
      have hyl : a'.eval y = a.eval y := hop y (by rw [ho]; simp [Op.operands])
      have key : ∀ b o v, a.eval y = .pointer (some ⟨b, o, none⟩) → LoadIs C.P t b o v w → (far all x = true → b ∉ locs C s ∧ ∀ u, s.ws = some u → b < u.heap.size) → ∃ v w', (execOp a.eval x.o).run C.P w = .ok (.value v) w' ∧ DSt C ops all (fun j => Ls j ∨ j = x.i) s0 (pre ++ x :: post) s (a.put (some d) v) wp w' := fun b o v ha hld hfl => by
        have hrun : (execOp a.eval x.o).run C.P w = .ok (.value v) w := by
          generalize x.o = oo at ho
          obtain ⟨dd, op, ty, pp, af, gd⟩ := oo
          simp only at ho; subst ho
          simp only [execOp, ha, Instr.loadAt, Instr.sureAddr, Sem.run_bind, Sem.run_pure, hld.run, Result.andThen_ok]
        refine ⟨v, w, hrun, hD.early hL hcl hx hf hns hd (.inl rfl) ⟨d, v, hd, hhere v, .inr ⟨by rw [hwp]; exact hw, ?_⟩⟩ (fun h => by rw [hk] at h; cases h) (fun f z t hz hro b hb => by rw [ho] at hz; simp [addrOf] at hz) hdn (fun hf2 _ t2 z2 b2 o2 h1 h2 => by
          rw [ho] at h1
          simp only [Op.load.injEq] at h1
          obtain ⟨rfl, rfl⟩ := h1
          rw [ha] at h2
          simp only [Value.pointer.injEq, Option.some.injEq, Addr.mk.injEq] at h2
          obtain ⟨rfl, rfl, _⟩ := h2
          exact hfl hf2) hself⟩
        simp only [hk]
        refine ⟨t, y, b, o, ho, ?_, hld⟩
        rw [(looks_same (hput v)).1 y (by rw [ho]; simp [Op.operands])]; exact ha
      split at hG
      · rename_i k off hv
        cases hb : memB k (allocDsts all) <;> simp only [hb, cond_true, cond_false] at hG
        rotate_left
        · exact hG.elim
        cases hfar : far all x <;> simp only [hfar, cond_true, cond_false] at hG
        rotate_left
        · exact hG.elim
        unfold stepRun at hG
        rw [ho] at hG
        simp only [resOf, hv] at hG
        cases hLk : s'.L k with
        | none => simp only [hLk] at hG; exact hG.elim
        | some e' =>
          simp only [hLk] at hG
          cases hpo : partOf C.P t off e'.cells with
          | none => simp only [hpo] at hG; exact hG.elim
          | some p =>
            rcases hR.mem k e' hLk with ⟨e, g1, g2, g3, g4⟩ | ⟨z, hz, g1, g2⟩
            · obtain ⟨vs, h1, h2⟩ := hD.sim.w.mem k e g1
              have hlen := toVs_length h1
              obtain ⟨v, hld⟩ := part_load (b := e.b) hpo h2 (by omega)
              have hav := hE.get (x := y) (v := .pointer (some ⟨e'.b, off, none⟩)) (by rw [hv]; simp [SV.toV, PV.toV, Lf.toV, hLk])
              exact key e.b off v (by rw [← hyl, hav, g2]) hld (fun h => by rw [hfar] at h; cases h)
            · have := mem_allocDsts (hpa z hz) g1 g2
              rw [memB_spec.2 this] at hb; cases hb
      · rename_i b off hv
        cases hxx : x.x <;> simp only [hxx, cond_true, cond_false] at hG
        rotate_left
        · exact hG.elim
        cases hfz : (far all x && zeroT C.P x.o.op) <;> simp only [hfz, cond_true, cond_false] at hG
        rotate_left
        · exact hG.elim
        unfold stepRun at hG
        have hr : ∃ why, resOf C s' x.o.dst x.o.op = .no why := by rw [ho]; simp [resOf, hv]
        obtain ⟨why, hr⟩ := hr
        rw [hr, ho] at hG
        simp only [hv] at hG
        obtain ⟨hnb, v, hld⟩ := loadVC_facts hG hS'
        have hst : ∀ z ∈ pre, z.k.isTied = true → strictOf all z = true := fun z hz ht => by
          refine strictOf_spec hxa (by rw [hk]; rfl) hxx (fun e => (hpre z hz).ne e.symm) (hpre z hz).top ?_
          cases hb : inM z x
          · rfl
          · have h1 := hready _ hb
            have := hD.flo z (List.mem_append_left _ hz) h1
            rw [ht] at this; cases this
        obtain ⟨e1, new, e2, e3⟩ := hR.xs hst
        obtain ⟨u, hu⟩ := hD.ws
        have href : refW s' (ancSlots all x) wp' = refW s (ancSlots all x) wp := by
          unfold refW
          rw [e1, hu]
          simp only
          have hnone : new.find? (fun x_1 => memB x_1.1 (ancSlots all x)) = none := by
            rw [List.find?_eq_none]
            intro r hr hm
            obtain ⟨z, hz, ht, hzd⟩ := e3 r hr
            obtain ⟨y', hy', hin, hyd⟩ := mem_ancSlots (memB_spec.1 hm)
            have hzi : z.i = y'.i := Classical.byContradiction fun hne => hL.dstNe (hpa z hz) hy' hne _ hzd hyd
            have h1 := hready _ hin
            rw [← hzi] at h1
            have := hD.flo z (List.mem_append_left _ hz) h1
            rw [ht] at this; cases this
          rw [e2, List.find?_append, hnone]
          rfl
        rw [href] at hld
        have hkw := refW_kept (anc := ancSlots all x) (wp := wp) hD.sim.w (by have := loadVC_nz hG; rw [e1] at this; exact this)
        have hnb' : b ∉ locs C s := fun h => hnb (hR.per b h)
        have hav := hE.get (x := y) (v := .pointer (some ⟨b, off, none⟩)) (by rw [hv]; rfl)
        obtain ⟨q1, vs, q2, q3, q4⟩ := hld
        refine key b off v (by rw [← hyl, hav]) ⟨q1, vs, q2, q3, fun i u hi => cell_of_keptM hkw hnb' (q4 i u hi)⟩ fun hfar => ⟨hnb', fun u' hu' => ?_⟩
        rw [hu] at hu'
        obtain rfl := Option.some.inj hu'
        have hrw : refW s (ancSlots all x) wp = u := by
          unfold refW
          rw [hu]
          simp only
          have hnone : s.xs.find? (fun x_1 => memB x_1.1 (ancSlots all x)) = none := by
            rw [List.find?_eq_none]
            intro r hr hm
            obtain ⟨y', hy', hin, hyd⟩ := mem_ancSlots (memB_spec.1 hm)
            exact far_noTied hfar y' hy' (hD.xsT r hr y' hy' hyd) hin
          rw [hnone]
        rw [hrw] at q4
        have hz : zeroT C.P x.o.op = false := by rw [hfar] at hfz; simpa using hfz
        rw [ho] at hz
        simp only [zeroT] at hz
        obtain ⟨v0, hv0⟩ : ∃ v0, vs[0]? = some v0 := by
          cases hag : isAggB C.P t
          · rw [q3 hag]; exact ⟨_, rfl⟩
          · have hlen := (q2 hag).2
            cases vs with
            | nil =>
              simp only [List.length_nil] at hlen
              rw [← hlen] at hz; cases hz
            | cons a0 r0 => exact ⟨a0, rfl⟩
        have hc0 := q4 0 v0 hv0
        unfold World.cell? at hc0
        cases hb0 : u.heap[b]? with
        | none => simp [hb0] at hc0
        | some o0 => exact lt_of_some hb0
      · exact hG.elim
    · -- a variable is made
      unfold runD at hG
      simp only [hk] at hG
      split at hG
      rotate_left
      · exact hG.elim
      · exact hG.elim
      rename_i T cells n hr
      have hany := fun w0 => plain_any (C := C) (w := w0) hE x.o (fk_alloc (hkx ▸ hk)) (fk_notstore hft)
      unfold stepRun at hG
      rw [hr, hd] at hG
      simp only at hG
      cases hb : (Nat.blt d C.n && (!(hasL s'.L d) && !(s'.ro d))) <;> simp only [hb, cond_true, cond_false] at hG
      · exact hG.elim
      obtain ⟨hone, _⟩ := withOne_spec hG
      have h1 : ∀ w0, ∃ vs, toVs s'.L cells = some vs ∧ (execOp a.eval x.o).run C.P w0 = .ok (.value (mk n w0.heap.size)) (pushed w0 (.cells vs.toArray T (0, 0))) := fun w0 => by
        have := hany w0
        rw [hr, hexec] at this
        obtain ⟨vs, q1, q2⟩ := this hone
        exact ⟨vs, q1, by rw [q2]; cases n <;> rfl⟩
      obtain ⟨vs, hvs, _⟩ := h1 w
      have h2 : ∀ w0, (execOp a.eval x.o).run C.P w0 = .ok (.value (mk n w0.heap.size)) (pushed w0 (.cells vs.toArray T (0, 0))) := fun w0 => by
        obtain ⟨vs', q1, q2⟩ := h1 w0
        rw [hvs] at q1; obtain rfl := Option.some.inj q1
        exact q2
      refine ⟨_, _, h2 w, hD.early hL hcl hx hf hns hd (.inr ⟨_, rfl⟩) ⟨d, _, hd, hhere _, .inr ⟨by rw [hwp]; exact hw, ?_⟩⟩ (fun _ b hb => by rw [blk_mk] at hb; exact (Option.some.inj hb).symm) (fun f z t hz hro b hb => ?_) hdn (fun _ _ t2 z2 _ _ h1 _ => absurd h1 (fk_alloc (hkx ▸ hk) t2 z2)) hself⟩
      · simp only [hk]
        refine ⟨n, .cells vs.toArray T (0, 0), w.heap.size, ?_, rfl, by show (w.heap.push _)[w.heap.size]? = _; simp, hD.sim.w.hbase, fun hm => ?_, fun hg => Nat.lt_irrefl _ (hD.sim.d.gl _ hg).2, fun u hu => (hD.sim.w.wsK u hu).size, fun r hr => .inr (hD.sim.w.xsK r hr).size⟩
        · rw [exec_same hft (hput _)]; exact h2
        · have := hD.sim.w.kept.own _ hm; omega
      · have hal := hkx ▸ hk
        cases ho : x.o.op <;> rw [ho] at hz <;> simp only [addrOf, reduceCtorEq] at hz
        all_goals
          rename_i q1 q2
          unfold fkOf at hal
          rw [hd, ho] at hal
          simp [fkOp] at hal
    · rw [hk] at hf; cases hf
  · rw [hwant] at hw
    rw [if_neg (by rw [hw]; simp)]
    exact hD.early hL hcl hx hf hns hd (.inl rfl) ⟨d, undef, hd, hhere _, .inl ⟨by rw [hwp]; exact hw, rfl⟩⟩ (fun _ b hb => by simp [undef, blk] at hb) (fun f z t hz hro b hb => by simp [undef, blk] at hb) hdn (fun _ h2 => by rw [hw] at h2; cases h2) hself

end
end Go.Vc
end
section
/- A drawn region, in whatever order: its conditions suffice. -/
namespace Go.Vc
open Go.RowKit

section
variable {C : Cfg} {ops : Array Oper} {all : List OpI} {s0 : SS} {gs : List Nat} {K : SS → World → Prop}

theorem take_pre {Ls : Nat → Prop} (hL : Lay C.P ops all) {a : Act} {w : World} {r : List OpI} : ∀ {pre : List OpI} {s : SS} {wp : World}, (∀ y ∈ pre, Ls y.i) → DSt C ops all Ls s0 (pre ++ r) s a wp w → dVC C ops gs all (pre ++ r) K s wp →
    ∃ s' wp', dVC C ops gs all r K s' wp' ∧ DSt C ops all Ls s0 r s' a wp' w
  | [], s, wp, _, hD, h => ⟨s, wp, h, hD⟩
  | y :: pre, s, wp, hp, hD, h => by
    obtain ⟨s1, wp1, h1, h2, _⟩ := adv_take hL hD (hp y List.mem_cons_self) h
    exact take_pre hL (fun z hz => hp z (List.mem_cons_of_mem _ hz)) h2 h1

/-- One more is listed that is not among those that are left. -/
theorem DSt.more {Ls : Nat → Prop} {r : List OpI} {s : SS} {a : Act} {wp w : World} {x : OpI} (hL : Lay C.P ops all) (hD : DSt C ops all Ls s0 r s a wp w) (hx : x ∈ all) (hr : ∀ y ∈ r, y.i ≠ x.i) (ht : x.k.isTied = true) :
    DSt C ops all (fun j => Ls j ∨ j = x.i) s0 r s a wp w := by
  have h : ∀ y ∈ r, (Ls y.i ∨ y.i = x.i) → Ls y.i := fun y hy h => h.resolve_right (hr y hy)
  refine ⟨hD.sim, hD.suf, fun y hy hl => hD.flo y hy (h y hy hl), fun y hy hl => hD.pend y hy (h y hy hl), hD.non, hD.ws, fun y hy z hz h1 h2 => hD.pd y hy z hz (h y hy h1) (h z hz h2), fun y hy hl f z t d h1 h2 h3 => ?_, hD.fr, hD.nol, hD.exi, fun y hy hl => hD.farI y hy (h y hy hl), hD.xsT⟩
  rcases hl with hl | hl
  · exact hD.ri y hy hl f z t d h1 h2 h3
  · obtain rfl := hL.same y hy x hx hl
    rw [hL.k y hy] at ht
    unfold fkOf at ht
    rw [h3] at ht
    exfalso
    cases ho : y.o.op <;> rw [ho] at h1 ht <;> simp [addrOf] at h1 <;> simp [fkOp, FK.isTied] at ht

def Lst (listed : Array Bool) (j : Nat) : Prop := listed.getD j false = true

theorem lst_set {listed : Array Bool} {i : Nat} (hi : i < listed.size) : Lst (listed.setIfInBounds i true) = fun j => Lst listed j ∨ j = i := by
  funext j
  apply propext
  unfold Lst
  simp only [Array.getD_eq_getD_getElem?]
  by_cases hj : j = i
  · subst hj; simp [hi]
  · rw [Array.getElem?_setIfInBounds_ne fun e => hj e.symm]
    simp [hj]

theorem ready_spec {listed : Array Bool} {i : Nat} (hs : listed.size = ops.size) : i ∈ Region.ready .any ops listed ↔ i < ops.size ∧ ¬ Lst listed i ∧ ∃ o, ops[i]? = some o ∧ ∀ e ∈ o.after, Region.binds .any e = true → Lst listed e.on := by
  unfold Region.ready Lst
  simp only [List.mem_filter, List.mem_range, Bool.and_eq_true, Bool.not_eq_true', Array.getD_eq_getD_getElem?]
  constructor
  · rintro ⟨h1, h2, h3⟩
    have hi : i < listed.size := by omega
    refine ⟨h1, by rw [Array.getElem?_eq_getElem hi] at h2 ⊢; simpa using h2, ?_⟩
    cases ho : ops[i]? with
    | none => rw [ho] at h3; simp at h3
    | some o =>
      rw [ho] at h3
      refine ⟨o, rfl, fun e he hb => ?_⟩
      simp only [Option.map_some, Option.getD_some, Array.all_eq_true'] at h3
      have := h3 e he
      simpa [hb] using this
  · rintro ⟨h1, h2, o, ho, h3⟩
    have hi : i < listed.size := by omega
    refine ⟨h1, by rw [Array.getElem?_eq_getElem hi] at h2 ⊢; simpa using h2, ?_⟩
    rw [ho]
    simp only [Option.map_some, Option.getD_some, Array.all_eq_true']
    intro e he
    cases hb : Region.binds .any e
    · rfl
    · simpa using h3 e he hb

/-- If not all are listed, one is ready. -/
theorem ready_ex {listed : Array Bool} (hL : Lay C.P ops all) (hs : listed.size = ops.size) (hr : Region.ready .any ops listed = []) : ∀ x ∈ all, Lst listed x.i := by
  suffices h : ∀ l pre : List OpI, all = pre ++ l → (∀ y ∈ pre, Lst listed y.i) → ∀ x ∈ l, Lst listed x.i from h all [] rfl (by simp)
  intro l
  induction l with
  | nil => intro pre _ _ x hx; simp at hx
  | cons x l ih =>
    intro pre e hp
    have hxa : x ∈ all := by rw [e]; simp
    have hx : Lst listed x.i := Classical.byContradiction fun hn => by
      have ho := hL.op x hxa
      have hlt : x.i < ops.size := (Array.getElem?_eq_some_iff.1 ho).1
      have hm : x.i ∈ Region.ready .any ops listed := (ready_spec hs).2 ⟨hlt, hn, x.o, ho, fun ed he hb => by
        obtain ⟨y, hy, hyi⟩ := hL.cover ed.on (hL.edges x hxa ed he hb)
        have hb1 := hL.anc1 x hxa ed he hb
        rw [← hyi] at hb1 ⊢
        rw [e] at hy
        rcases List.mem_append.1 hy with hy | hy
        · exact hp y hy
        · rcases List.mem_cons.1 hy with rfl | hy
          · rw [hL.irr _ hxa] at hb1; cases hb1
          · have := (pair_cons hL e y hy).top
            rw [show inM y x = true from hb1] at this; cases this⟩
      rw [hr] at hm; simp at hm
    intro y hy
    rcases List.mem_cons.1 hy with rfl | hy
    · exact hx
    · exact ih (pre ++ [x]) (by rw [e]; simp) (fun z hz => by
        rcases List.mem_append.1 hz with hz | hz
        · exact hp z hz
        · rw [List.mem_singleton.1 hz]; exact hx) y hy

theorem closed_set {listed : Array Bool} {i : Nat} {o : Oper} (hc : Closed ops (Lst listed)) (ho : ops[i]? = some o) (he : ∀ e ∈ o.after, Region.binds .any e = true → Lst listed e.on) : Closed ops (fun j => Lst listed j ∨ j = i) := by
  intro j oj hj hl e hem hb
  rcases hl with hl | rfl
  · exact .inl (hc j oj hj hl e hem hb)
  · rw [ho] at hj; obtain rfl := Option.some.inj hj
    exact .inl (he e hem hb)

theorem any_sound {r : Option Nat} {Q : Exit → Act → World → Prop} (hnd : noDefers ops = true) (hL : Lay C.P ops all) (hN : ∀ x ∈ all, ∀ d, x.o.dst = some d → d < C.n)
    (hk : ∀ s' a' w' wp', K s' wp' → Sim C s' a' wp' w' → FrO C.muts (opsDst ops) s0 s' → Q .normal a' w') :
    ∀ (fuel : Nat) (listed : Array Bool) (l : List OpI) (s : SS) (a : Act) (wp w : World), listed.size = ops.size → Closed ops (Lst listed) → DSt C ops all (Lst listed) s0 l s a wp w → dVC C ops gs all l K s wp →
      (∀ x ∈ all, Lst listed x.i ∨ x ∈ l) → (all.filter fun x => !(listed.getD x.i false)).length ≤ fuel → wpAnyIn (WF r) 0 C.P .any ops Q fuel listed a w := by
  have fin : ∀ (listed : Array Bool) (l : List OpI) (s : SS) (a : Act) (wp w : World), (∀ x ∈ all, Lst listed x.i) → DSt C ops all (Lst listed) s0 l s a wp w → dVC C ops gs all l K s wp → Q .normal a w := fun listed l s a wp w hall hD hV => by
    obtain ⟨s', wp', h1, h2⟩ := take_pre (r := []) (pre := l) hL (fun y hy => hall y (hD.mem hy)) (by simpa using hD) (by simpa using hV)
    exact hk _ _ _ _ h1 h2.sim h2.fr
  intro fuel
  induction fuel with
  | zero =>
    intro listed l s a wp w hs hc hD hV hcov hfu
    have hall : ∀ x ∈ all, Lst listed x.i := fun x hx => Classical.byContradiction fun hn => by
      have : x ∈ all.filter fun x => !(listed.getD x.i false) := List.mem_filter.2 ⟨hx, by unfold Lst at hn; simpa using hn⟩
      have := List.length_pos_of_mem this
      omega
    refine ⟨?_, fin _ _ _ _ _ _ hall hD hV⟩
    rw [List.eq_nil_iff_forall_not_mem]
    intro i hi
    obtain ⟨h1, h2, _⟩ := (ready_spec hs).1 hi
    obtain ⟨x, hx, rfl⟩ := hL.cover i h1
    exact h2 (hall x hx)
  | succ fuel ih =>
    intro listed l s a wp w hs hc hD hV hcov hfu
    refine ⟨fun hr => fin _ _ _ _ _ _ (ready_ex hL hs hr) hD hV, fun i hi => ?_⟩
    obtain ⟨hlt, hns, o, ho, hedge⟩ := (ready_spec hs).1 hi
    obtain ⟨x, hxa, rfl⟩ := hL.cover i hlt
    rw [hL.op x hxa] at ho
    obtain rfl := Option.some.inj ho
    have hset := lst_set (listed := listed) (i := x.i) (by omega)
    have hs' : (listed.setIfInBounds x.i true).size = ops.size := by simpa using hs
    have hc' : Closed ops (Lst (listed.setIfInBounds x.i true)) := by rw [hset]; exact closed_set hc (hL.op x hxa) hedge
    have hready : ∀ j, Nat.testBit x.m j = true → Lst listed j := fun j hj => by
      have := hL.anc _ (closed_set hc (hL.op x hxa) hedge) x hxa (.inr rfl) j hj
      rcases this with h | rfl
      · exact h
      · rw [hL.irr x hxa] at hj; cases hj
    have hfu' : (all.filter fun y => !((listed.setIfInBounds x.i true).getD y.i false)).length ≤ fuel := by
      have h1 : (all.filter fun y => !((listed.setIfInBounds x.i true).getD y.i false)) = (all.filter fun y => !(listed.getD y.i false)).filter fun y => !(Nat.beq y.i x.i) := by
        rw [List.filter_filter]
        apply List.filter_congr
        intro y _
        have h2 := congrFun hset y.i
        unfold Lst at h2
        cases hb : Nat.beq y.i x.i
        · have hne : y.i ≠ x.i := fun e => by rw [e] at hb; simp at hb
          have : ((listed.setIfInBounds x.i true).getD y.i false) = listed.getD y.i false := by
            rw [Bool.eq_iff_iff, h2]; simp [hne]
          rw [this]; simp
        · have := Nat.eq_of_beq_eq_true hb
          have : ((listed.setIfInBounds x.i true).getD y.i false) = true := by rw [h2]; exact .inr this
          rw [this]; simp
      rw [h1]
      have hmem : x ∈ all.filter fun y => !(listed.getD y.i false) := List.mem_filter.2 ⟨hxa, by unfold Lst at hns; simpa using hns⟩
      have h3 : ((all.filter fun y => !(listed.getD y.i false)).filter fun y => !(Nat.beq y.i x.i)).length < (all.filter fun y => !(listed.getD y.i false)).length := by
        rcases Nat.lt_or_ge ((all.filter fun y => !(listed.getD y.i false)).filter fun y => !(Nat.beq y.i x.i)).length (all.filter fun y => !(listed.getD y.i false)).length with h | h
        · exact h
        · have := List.filter_sublist.eq_of_length_le h
          rw [List.filter_eq_self] at this
          have := this x hmem
          simp at this
      omega
    have hcov' : ∀ l' : List OpI, (∀ y ∈ l, y ∈ l' ∨ y.i = x.i ∨ Lst listed y.i) → ∀ y ∈ all, Lst (listed.setIfInBounds x.i true) y.i ∨ y ∈ l' := fun l' hl' y hy => by
      rw [hset]
      rcases hcov y hy with h | h
      · exact .inl (.inl h)
      · rcases hl' y h with h | h | h
        · exact .inr h
        · exact .inl (.inr h)
        · exact .inl (.inl h)
    have hxl : x ∈ l := (hcov x hxa).resolve_left hns
    unfold wpOpIn
    rw [hL.op x hxa]
    simp only
    cases hf : x.k.isTied
    · have he := early_run hL hN hc hD hV hxl hf hns hready
      split
      · rename_i hw
        rw [if_pos hw] at he
        obtain ⟨v, w', h1, h2⟩ := he
        refine wpIn_of_wpy (noDefers_spec hnd (hL.op x hxa)) ?_
        unfold wpy
        rw [h1, upony_value]
        exact ih _ _ _ _ _ _ hs' hc' (by rw [hset]; exact h2) hV (hcov' l fun y hy => .inl hy) hfu'
      · rename_i hw
        rw [if_neg hw] at he
        refine ⟨fun _ _ => trivial, ?_⟩
        exact ih _ _ _ _ _ _ hs' hc' (by rw [hset]; exact he) hV (hcov' l fun y hy => .inl hy) hfu'
    · obtain ⟨pre, post, rfl⟩ := List.append_of_mem hxl
      have hpre : ∀ y ∈ pre, Lst listed y.i := fun y hy => by
        obtain ⟨p0, e0⟩ := hD.suf
        have := hL.pairs
        rw [e0, List.pairwise_append] at this
        have := this.2.1
        rw [List.pairwise_append] at this
        exact hready _ ((okPair_spec (this.2.2 y hy x List.mem_cons_self)).tied hf)
      obtain ⟨s1, wp1, hV1, hD1⟩ := take_pre hL hpre hD hV
      have hpost : ∀ y ∈ post, y.i ≠ x.i := fun y hy => by
        obtain ⟨p1, e1⟩ := hD1.suf
        exact fun e => (pair_cons hL e1 y hy).ne e.symm
      have := adv_run (Q := Q) (next := wpAnyIn (WF r) 0 C.P .any ops Q fuel (listed.setIfInBounds x.i true)) hL hD1 hns hc hV1 fun s' a' w' wp' h1 h2 _ _ =>
        ih _ _ _ _ _ _ hs' hc' (by rw [hset]; exact h2.more hL hxa hpost hf) h1 (hcov' post fun y hy => by
          rcases List.mem_append.1 hy with hy | hy
          · exact .inr (.inr (hpre y hy))
          · rcases List.mem_cons.1 hy with rfl | hy
            · exact .inr (.inl rfl)
            · exact .inl hy) hfu'
      split
      · rename_i hw; rw [if_pos hw] at this; exact wpIn_of_wpy (noDefers_spec hnd (hL.op x hxa)) this
      · rename_i hw; rw [if_neg hw] at this; exact ⟨fun _ _ => trivial, this⟩

theorem sim_drew {s : SS} {a : Act} {wp w : World} (n : Nat) (h : Sim C s a wp w) : Sim C s a wp { w with drawn := n } := by
  obtain ⟨hsl, hn, hd, ⟨hmem, hinj, hlow, hkept, hbel, hbase, hmu, hwx, hws, hxs⟩⟩ := h
  have hM : ∀ {u : World}, KeptM (locs C s) u w → KeptM (locs C s) u { w with drawn := n } := fun {u} h => ⟨h.block⟩
  have hK : ∀ {u : World}, Kept (locs C s) u w → Kept (locs C s) u { w with drawn := n } := fun {u} h => ⟨h.os, h.tape, h.output, h.size, h.block, h.own⟩
  exact ⟨hsl, hn, hd.step hd.dj ⟨rfl, rfl, rfl, Nat.le_refl _⟩ fun _ _ => rfl, ⟨hmem, hinj, hlow, hK hkept, fun hp => ⟨(hbel hp).os, (hbel hp).tape, (hbel hp).output, (hbel hp).size, (hbel hp).block⟩, hbase, hmu, hwx, fun u hu => (hws u hu).map (Nat.le_refl _) hK hM, fun x hx => (hxs x hx).map (Nat.le_refl _) hK hM⟩⟩

theorem mem_floatDsts {x : OpI} {d : Nat} : ∀ {l : List OpI}, x ∈ l → x.k.isTied = false → x.o.dst = some d → d ∈ floatDsts l
  | [], h, _, _ => by simp at h
  | y :: r, h, h1, h2 => by
    simp only [floatDsts]
    rcases List.mem_cons.1 h with rfl | h
    · simp [h1, h2]
    · have := mem_floatDsts h h1 h2
      cases hb : y.k.isTied <;> simp only [cond_true, cond_false]
      · split
        · exact List.mem_cons_of_mem _ this
        · exact this
      · exact this
theorem floatDsts_mem {d : Nat} : ∀ {l : List OpI}, d ∈ floatDsts l → ∃ x ∈ l, x.o.dst = some d
  | [], h => by simp [floatDsts] at h
  | y :: r, h => by
    simp only [floatDsts] at h
    cases hb : y.k.isTied <;> simp only [hb, cond_true, cond_false] at h
    · split at h
      · rename_i d' hd
        rcases List.mem_cons.1 h with rfl | h
        · exact ⟨y, List.mem_cons_self, hd⟩
        · obtain ⟨x, h1, h2⟩ := floatDsts_mem h; exact ⟨x, List.mem_cons_of_mem _ h1, h2⟩
      · obtain ⟨x, h1, h2⟩ := floatDsts_mem h; exact ⟨x, List.mem_cons_of_mem _ h1, h2⟩
    · obtain ⟨x, h1, h2⟩ := floatDsts_mem h; exact ⟨x, List.mem_cons_of_mem _ h1, h2⟩

/-- A REGION WHOSE ORDER IS DRAWN. -/
theorem draw_anyA {r : Option Nat} {s : SS} {all : List OpI} {a : Act} {wp w : World} {Q : Exit → Act → World → Prop} (h : drawVCa C ops all K s wp) (hLay : drawOk ops all = true → Lay C.P ops all) (hS : Sim C s a wp w)
    (hk : ∀ s' a' w' wp', K s' wp' → Sim C s' a' wp' w' → FrO C.muts (opsDst ops) s s' → Q .normal a' w') : C.P.follows .mixedOrders = true ∧ wpAnyIn (WF r) 0 C.P .any ops Q ops.size (Array.replicate ops.size false) a { w with drawn := w.drawn + 1 } := by
  unfold drawVCa at h
  cases hb : (drawOk ops all && (all.all fun y => !y.x || exTest s all y) && (!C.semi || C.maps || all.all noLoad) && (all.all (fun x => dstLt C.n x.o.dst) && (C.P.follows .mixedOrders && noDefers ops))) <;> simp only [hb, cond_true, cond_false] at h
  · exact h.elim
  simp only [Bool.and_eq_true, List.all_eq_true] at hb
  obtain ⟨⟨⟨h1, hex⟩, hzz⟩, h2, h3, hnd⟩ := hb
  have hnol : C.semi = true → C.maps = false → ∀ y ∈ all, noLoad y = true := fun hs hm y hy => by
    rw [hs, hm] at hzz
    simp only [Bool.not_true, Bool.false_or, List.all_eq_true] at hzz
    exact hzz y hy
  have hL := hLay h1
  have hN : ∀ x ∈ all, ∀ d, x.o.dst = some d → d < C.n := fun x hx d hd => by
    have := h2 x hx
    rw [hd] at this
    simpa [dstLt, Nat.blt_eq] using this
  refine ⟨h3, ?_⟩
  have hno : ∀ j, ¬ Lst (Array.replicate ops.size false) j := fun j => by
    unfold Lst
    simp only [Array.getD_eq_getD_getElem?, Array.getElem?_replicate]
    split <;> simp
  have hfr : FrO C.muts (opsDst ops) s (s.begin wp (floatDsts all)) := ⟨fun d hd _ => by
      show (bif memB d (floatDsts all) then SV.none else s.sl d) = s.sl d
      cases hm : memB d (floatDsts all)
      · rfl
      · exfalso
        obtain ⟨x, hx, hxd⟩ := floatDsts_mem (memB_spec.1 hm)
        exact hd ⟨x.i, x.o, hL.op x hx, hxd⟩, fun k e he _ => ⟨e, he, rfl, rfl, fun _ => rfl⟩, rfl, .of ⟨rfl, rfl, rfl⟩ rfl rfl⟩
  have hS1 : Sim C (s.begin wp (floatDsts all)) a wp { w with drawn := w.drawn + 1 } := by
    obtain ⟨hsl, hn, hd, ⟨hmem, hinj, hlow, hkept, hbel, hbase, hmu, hwx, hws, hxs⟩⟩ := sim_drew (w.drawn + 1) hS
    refine ⟨fun d hd => ?_, hn, hd, ⟨hmem, hinj, hlow, hkept, hbel, hbase, hmu, fun h => (by cases h), fun u hu => ?_, fun x hx => (by simp [SS.begin] at hx)⟩⟩
    · show ∃ v, (bif memB d (floatDsts all) then SV.none else s.sl d).toV s.L = some v ∧ _
      have hd' : (bif memB d (floatDsts all) then SV.none else s.sl d) ≠ SV.none := hd
      cases hm : memB d (floatDsts all) <;> simp only [hm, cond_true, cond_false] at hd' ⊢
      · exact hsl d hd'
      · exact absurd rfl hd'
    · obtain rfl := Option.some.inj (show some wp = some u from hu)
      exact .of hkept
  refine any_sound hnd (s0 := s) (K := fun s' wp' => K s'.fin wp') hL hN (fun s' a' w' wp' g1 g2 g3 => ?_) ops.size _ all _ a wp _ (by simp) (fun i o _ hl => absurd hl (hno i)) ⟨hS1, ⟨[], rfl⟩, fun x _ hl => absurd hl (hno _), fun x _ hl => absurd hl (hno _), fun x hx hf d hd => ?_, ⟨wp, rfl⟩, fun x _ y _ hl => absurd hl (hno _), fun x _ hl => absurd hl (hno _), hfr, hnol, fun y hy hyx => ?_, fun x _ hl => absurd hl (hno _), fun r hr => by simp [SS.begin] at hr⟩ h (fun x hx => .inr hx) ?_
  · refine hk s'.fin a' w' wp' g1 ?_ ?_
    · obtain ⟨hsl, hn, hd, ⟨hmem, hinj, hlow, hkept, hbel, hbase, hmu, hwx, hws, hxs⟩⟩ := g2
      exact ⟨hsl, hn, hd, ⟨hmem, hinj, hlow, hkept, hbel, hbase, hmu, fun _ => rfl, fun u hu => (by cases hu), fun x hx => (by simp [SS.fin] at hx)⟩⟩
    · exact ⟨fun d hd hp => g3.sl d hd hp, fun k e he hp => g3.L k e he hp, g3.ro, g3.g.trans (.of ⟨rfl, rfl, rfl⟩ rfl rfl)⟩
  · show (bif memB d (floatDsts all) then SV.none else s.sl d) = SV.none
    rw [memB_spec.2 (mem_floatDsts hx hf hd)]; rfl
  · have ht := hex y hy
    rw [hyx] at ht
    simp only [Bool.not_true, Bool.false_or] at ht
    unfold exTest at ht
    split at ht
    rotate_left
    · cases ht
    rename_i hyk
    split at ht
    rotate_left
    · cases ht
    rename_i z hz
    split at ht
    rotate_left
    · cases ht
    rename_i t hr
    split at ht
    rotate_left
    · cases ht
    rename_i k off hv
    obtain ⟨v, q1, q2⟩ := hS.sl t (by rw [hv]; simp)
    rw [hv] at q1
    simp only [SV.toV, PV.toV, Lf.toV] at q1
    split at q1 <;> simp at q1
    rename_i e he
    subst q1
    exact ⟨hyk, z, t, _, e.b, hz, hr, q2, rfl, mem_locs.2 ⟨k, e, (hS.w.low k e he).2, he, rfl⟩⟩
  · have hle : all.length ≤ ops.size := by
      have hnd : (all.map OpI.i).Nodup := by
        rw [List.nodup_iff_pairwise_ne, List.pairwise_map]
        exact hL.pairs.imp fun {q p} hqp => (okPair_spec hqp).ne
      have hsub : all.map OpI.i ⊆ List.range ops.size := fun i hi => by
        obtain ⟨x, hx, rfl⟩ := List.mem_map.1 hi
        exact List.mem_range.2 (Array.getElem?_eq_some_iff.1 (hL.op x hx)).1
      have := hnd.length_le_of_subset hsub
      simpa using this
    exact Nat.le_trans (List.length_filter_le _ _) hle

theorem draw_any {r : Option Nat} {s : SS} {a : Act} {wp w : World} {Q : Exit → Act → World → Prop} (h : drawVC C ops K s wp) (hS : Sim C s a wp w)
    (hk : ∀ s' a' w' wp', K s' wp' → Sim C s' a' wp' w' → FrO C.muts (opsDst ops) s s' → Q .normal a' w') : C.P.follows .mixedOrders = true ∧ wpAnyIn (WF r) 0 C.P .any ops Q ops.size (Array.replicate ops.size false) a { w with drawn := w.drawn + 1 } := draw_anyA (all := lazyOrd (markEx (exTest s (opIs C.P (ancAll ops.toList []) 0 ops.toList)) (opIs C.P (ancAll ops.toList []) 0 ops.toList))) h (fun h1 => lay_of rfl h1) hS hk

/-- The orders that a region can take. -/
def Ord (ops : Array Oper) : Nat → Array Bool → List Nat → Prop
  | 0, _, l => l = []
  | _ + 1, listed, [] => Region.ready .any ops listed = []
  | n + 1, listed, k :: l => k ∈ Region.ready .any ops listed ∧ Ord ops n (listed.setIfInBounds k true) l
theorem go_ord {ops : Array Oper} : ∀ (fuel t : Nat) (listed : Array Bool), Ord ops fuel listed (Region.linearise.go .any ops fuel t listed []) := by
  intro fuel
  induction fuel with
  | zero => intro t listed; simp [Region.linearise.go, Ord]
  | succ fuel ih =>
    intro t listed
    simp only [Region.linearise.go]
    change Ord ops (fuel + 1) listed (match (Region.ready .any ops listed)[t % (Region.ready .any ops listed).length]? with
      | some i => Region.linearise.go .any ops fuel (t / (Region.ready .any ops listed).length) (listed.setIfInBounds i true) [i]
      | none => [].reverse)
    cases hi : (Region.ready .any ops listed)[t % (Region.ready .any ops listed).length]? with
    | none =>
      show Region.ready .any ops listed = []
      cases hr : Region.ready .any ops listed with
      | nil => rfl
      | cons x xs =>
        rw [hr] at hi
        have hlt : t % (x :: xs).length < (x :: xs).length := Nat.mod_lt _ (by simp)
        simp at hi
        simp at hlt
        omega
    | some i =>
      simp only []
      rw [linearise_go_acc, List.reverse_singleton, List.singleton_append]
      exact ⟨List.mem_of_getElem? hi, ih _ _⟩
theorem any_ord {F : Fence} {n : Nat} {P : Program} {ops : Array Oper} {Q : Exit → Act → World → Prop} : ∀ (fuel : Nat) (listed : Array Bool) (l : List Nat) (a : Act) (w : World), wpAnyIn F n P .any ops Q fuel listed a w → Ord ops fuel listed l → wpOpsIn F n P ops Q l a w := by
  intro fuel
  induction fuel with
  | zero => intro listed l a w h ho; cases ho; exact h.2
  | succ fuel ih =>
    intro listed l a w h ho
    cases l with
    | nil => exact h.1 ho
    | cons k l =>
      rw [wpOpsIn_cons]
      exact wpOpIn_mono (fun a w k => ih _ _ a w k ho.2) (h.2 k ho.1)
theorem addE_at : ∀ (l : List Oper) (j i k : Nat), (addE l j i)[k]? = l[k]?.map fun o => if k = j then { o with after := ({ on := i, ground := .data } :: o.after.toList).toArray } else o
  | [], j, i, k => by simp [addE]
  | o :: r, 0, i, 0 => by simp [addE]
  | o :: r, 0, i, k + 1 => by simp [addE]
  | o :: r, j + 1, i, 0 => by simp [addE]
  | o :: r, j + 1, i, k + 1 => by simp [addE, addE_at r j i k]
theorem addE_len : ∀ (l : List Oper) (j i : Nat), (addE l j i).length = l.length
  | [], j, i => by simp [addE]
  | o :: r, 0, i => by simp [addE]
  | o :: r, j + 1, i => by simp [addE, addE_len r j i]
theorem addE_get (ops : Array Oper) (j i k : Nat) : (addE ops.toList j i).toArray[k]? = ops[k]?.map fun o => if k = j then { o with after := ({ on := i, ground := .data } :: o.after.toList).toArray } else o := by
  rw [List.getElem?_toArray, addE_at, Array.getElem?_toList]
theorem addE_size (ops : Array Oper) (j i : Nat) : (addE ops.toList j i).toArray.size = ops.size := by
  rw [List.size_toArray, addE_len, Array.length_toList]
theorem addE_dst {ops : Array Oper} {j i d : Nat} (h : opsDst (addE ops.toList j i).toArray d) : opsDst ops d := by
  obtain ⟨k, o, ho, hd⟩ := h
  rw [addE_get] at ho
  cases hk : ops[k]? with
  | none => rw [hk] at ho; cases ho
  | some o' =>
    rw [hk] at ho
    simp only [Option.map_some, Option.some.injEq] at ho
    refine ⟨k, o', hk, ?_⟩
    rw [← hd, ← ho]
    split <;> rfl
theorem addE_wp {F : Fence} {n : Nat} {P : Program} {ops : Array Oper} {j i : Nat} {Q : Exit → Act → World → Prop} : ∀ (l : List Nat) (a : Act) (w : World), wpOpsIn F n P (addE ops.toList j i).toArray Q l a w → wpOpsIn F n P ops Q l a w := by
  have hy : ∀ tmps, yielded (addE ops.toList j i).toArray tmps = yielded ops tmps := fun tmps => by
    funext k
    unfold yielded
    rw [addE_get]
    cases ops[k]? with
    | none => rfl
    | some o =>
      simp only [Option.map_some, Option.bind_some]
      by_cases e : k = j
      · rw [if_pos e]
      · rw [if_neg e]
  intro l
  induction l with
  | nil => intro a w h; exact h
  | cons k l ih =>
    intro a w h
    rw [wpOpsIn_cons] at h ⊢
    refine wpOpIn_mono ih ?_
    unfold wpOpIn at h ⊢
    rw [addE_get, hy] at h
    cases hk : ops[k]? with
    | none => rw [hk] at h; exact h
    | some o =>
      rw [hk] at h
      simp only [Option.map_some] at h ⊢
      split at h
      · exact h
      · exact h
/-- In a list of operations i comes before j. -/
def Fore (i j : Nat) (listed : Array Bool) (l : List Nat) : Prop := listed.getD i false = true ∨ ∀ l1 l2, l = l1 ++ j :: l2 → i ∈ l1
theorem fore_or (i j : Nat) (hij : i ≠ j) (listed : Array Bool) (l : List Nat) : Fore i j listed l ∨ Fore j i listed l := by
  by_cases h : Fore i j listed l
  · exact .inl h
  · right
    have h : ∃ l1 l2, l = l1 ++ j :: l2 ∧ i ∉ l1 := Classical.byContradiction fun hn => h (.inr fun l1 l2 e => Classical.byContradiction fun hi => hn ⟨l1, l2, e, hi⟩)
    obtain ⟨l1, l2, e, hn⟩ := h
    refine .inr fun m1 m2 e' => ?_
    rw [e] at e'
    rcases List.append_eq_append_iff.1 e' with ⟨q, h1, h2⟩ | ⟨q, h1, h2⟩
    · cases q with
      | nil => simp only [List.nil_append, List.cons.injEq] at h2; exact absurd h2.1.symm hij
      | cons c q =>
        simp only [List.cons_append, List.cons.injEq] at h2
        rw [h1, h2.1]; simp
    · cases q with
      | nil => simp only [List.nil_append, List.cons.injEq] at h2; exact absurd h2.1 hij
      | cons c q =>
        simp only [List.cons_append, List.cons.injEq] at h2
        rw [h1, ← h2.1] at hn
        exact absurd (by simp) hn
theorem ready_addE {ops : Array Oper} {j i k : Nat} {listed : Array Bool} : k ∈ Region.ready .any (addE ops.toList j i).toArray listed ↔ k ∈ Region.ready .any ops listed ∧ (k = j → listed.getD i false = true) := by
  unfold Region.ready
  rw [addE_size]
  simp only [List.mem_filter, List.mem_range, addE_get, Bool.and_eq_true]
  cases hk : ops[k]? with
  | none => simp
  | some o =>
    by_cases e : k = j
    · subst e
      simp only [Option.map_some, if_true, Option.getD_some, forall_const]
      have : (({ on := i, ground := .data } :: o.after.toList : List Edge).toArray.all fun e => !Region.binds .any e || listed.getD e.on false) = (listed.getD i false && o.after.all fun e => !Region.binds .any e || listed.getD e.on false) := by
        rw [← Array.all_toList]
        simp [Region.binds]
      rw [this, Bool.and_eq_true]
      constructor
      · rintro ⟨h1, h2, h3, h4⟩; exact ⟨⟨h1, h2, h4⟩, h3⟩
      · rintro ⟨⟨h1, h2, h4⟩, h3⟩; exact ⟨h1, h2, h3, h4⟩
    · simp [e]
theorem ord_addE {ops : Array Oper} {j i : Nat} : ∀ (fuel : Nat) (listed : Array Bool) (l : List Nat), i < listed.size → Ord ops fuel listed l → Fore i j listed l → Ord (addE ops.toList j i).toArray fuel listed l := by
  intro fuel
  induction fuel with
  | zero => intro listed l _ h _; exact h
  | succ fuel ih =>
    intro listed l hi h hf
    cases l with
    | nil =>
      show Region.ready .any _ listed = []
      have h : Region.ready .any ops listed = [] := h
      rw [List.eq_nil_iff_forall_not_mem]
      intro k hk
      have := (ready_addE.1 hk).1
      rw [h] at this
      cases this
    | cons k l =>
      refine ⟨ready_addE.2 ⟨h.1, fun e => ?_⟩, ih _ _ (by simpa using hi) h.2 ?_⟩
      · rcases hf with hf | hf
        · exact hf
        · have := hf [] l (by rw [e]; rfl)
          cases this
      · rcases hf with hf | hf
        · left
          rw [Array.getD_eq_getD_getElem?, Array.getElem?_setIfInBounds]
          rw [Array.getD_eq_getD_getElem?] at hf
          split
          · split <;> simp_all
          · exact hf
        · by_cases e : i = k
          · left
            subst e
            rw [Array.getD_eq_getD_getElem?, Array.getElem?_setIfInBounds]
            simp [hi]
          · right
            intro l1 l2 el
            have := hf (k :: l1) l2 (by rw [el]; rfl)
            rcases List.mem_cons.1 this with h | h
            · exact absurd h e
            · exact h
theorem drawS_sound {r : Option Nat} {s : SS} {a : Act} {wp w : World} {Q : Exit → Act → World → Prop} (hS : Sim C s a wp w) : ∀ (n : Nat) (ops : Array Oper), drawS C n ops K s wp →
    (∀ s' a' w' wp', K s' wp' → Sim C s' a' wp' w' → FrO C.muts (opsDst ops) s s' → Q .normal a' w') → C.P.follows .mixedOrders = true ∧ ∀ l, Ord ops ops.size (Array.replicate ops.size false) l → wpOpsIn (WF r) 0 C.P ops Q l a { w with drawn := w.drawn + 1 }
  | 0, ops, h, hk => h.elim
  | n + 1, ops, h, hk => by
    unfold drawS at h
    split at h
    · obtain ⟨h3, h4⟩ := draw_anyA (r := r) h lay_all hS hk
      exact ⟨h3, fun l hl => any_ord _ _ _ _ _ h4 hl⟩
    · rename_i p hp
      cases hc : (!(Nat.beq p.1 p.2) && (Nat.blt p.1 ops.size && Nat.blt p.2 ops.size)) <;> simp only [hc, cond_true, cond_false] at h
      · exact h.elim
      simp only [Bool.and_eq_true, Bool.not_eq_true', Nat.blt_eq] at hc
      obtain ⟨e1, b1, b2⟩ := hc
      have e1 : p.1 ≠ p.2 := fun e => by rw [e] at e1; simp at e1
      have hk' : ∀ (j i : Nat) s' a' w' wp', K s' wp' → Sim C s' a' wp' w' → FrO C.muts (opsDst (addE ops.toList j i).toArray) s s' → Q .normal a' w' := fun j i s' a' w' wp' g1 g2 g3 => hk s' a' w' wp' g1 g2 ⟨fun d hd hp => g3.sl d (fun h => hd (addE_dst h)) hp, fun k e he hp => g3.L k e he hp, g3.ro, g3.g⟩
      obtain ⟨h3, h4⟩ := drawS_sound (r := r) hS n _ h.1 (hk' _ _)
      obtain ⟨_, h5⟩ := drawS_sound (r := r) hS n _ h.2 (hk' _ _)
      rw [addE_size] at h4 h5
      refine ⟨h3, fun l hl => ?_⟩
      rcases fore_or p.1 p.2 e1 (Array.replicate ops.size false) l with hf | hf
      · exact addE_wp l a _ (h4 l (ord_addE _ _ _ (by simpa using b1) hl hf))
      · exact addE_wp l a _ (h5 l (ord_addE _ _ _ (by simpa using b2) hl hf))

/-- Two operations that do the same. -/
structure SameOp (o o' : Oper) : Prop where
  dst : o'.dst = o.dst
  guard : o'.guard = o.guard
  after : o'.after = o.after
  type : o'.type = o.type
  pos : o'.pos = o.pos
  op : o'.op = o.op ∨ ∃ x, o.op = .assign x ∧ o'.op = .move x
theorem same_float (lk : List Nat) (o : Oper) : SameOp o (floatOp lk o) := by
  unfold floatOp
  split
  · cases memB _ lk
    · exact ⟨rfl, rfl, rfl, rfl, rfl, .inr ⟨_, by assumption, rfl⟩⟩
    · exact ⟨rfl, rfl, rfl, rfl, rfl, .inl rfl⟩
  · exact ⟨rfl, rfl, rfl, rfl, rfl, .inl rfl⟩
theorem float_at (lk : List Nat) : ∀ (l : List Oper) (i : Nat), (floatL lk l)[i]? = l[i]?.map (floatOp lk)
  | [], i => by simp [floatL]
  | o :: r, 0 => by simp [floatL]
  | o :: r, i + 1 => by simp [floatL, float_at lk r i]
theorem SameOp.wpIn {F : Fence} {n : Nat} {P : Program} {o o' : Oper} (h : SameOp o o') {a : Act} {w : World} {K : Act → World → Prop} {Q : Exit → Act → World → Prop} (hh : o'.wpIn F n P a w K Q) : o.wpIn F n P a w K Q := by
  obtain ⟨d, op, ty, p, af, g⟩ := o
  obtain ⟨d', op', ty', p', af', g'⟩ := o'
  obtain ⟨h1, h2, h3, h4, h5, h6⟩ := h
  simp only at h1 h2 h3 h4 h5 h6
  subst h1 h2 h3 h4 h5
  rcases h6 with rfl | ⟨x, rfl, rfl⟩
  · exact hh
  · unfold Oper.wpIn at hh ⊢
    have e1 : (Oper.semAt F.round a.eval { dst := d', op := .assign x, type := ty', pos := p', after := af', guard := g' }).run P w = .ok (.value (a.eval x)) w := by cases F.round <;> rfl
    have e2 : (Oper.semAt F.round a.eval { dst := d', op := .move x, type := ty', pos := p', after := af', guard := g' }).run P w = .ok (.value (a.eval x)) w := by cases F.round <;> rfl
    rw [e2] at hh
    rw [e1]
    exact ⟨fun f hf => by simp [Oper.about] at hf, hh.2⟩
theorem any_same {F : Fence} {n : Nat} {P : Program} {md : Region.Mode} {ops ops' : Array Oper} {Q : Exit → Act → World → Prop} (hsz : ops'.size = ops.size) (h : ∀ (i : Nat) (o : Oper), ops[i]? = some o → ∃ o' : Oper, ops'[i]? = some o' ∧ SameOp o o') :
    ∀ (fuel : Nat) (listed : Array Bool) (a : Act) (w : World), wpAnyIn F n P md ops' Q fuel listed a w → wpAnyIn F n P md ops Q fuel listed a w := by
  have hnone : ∀ i, ops[i]? = none → ops'[i]? = none := fun i hi => by
    rw [Array.getElem?_eq_none_iff] at hi ⊢; omega
  have hr : ∀ listed, Region.ready md ops' listed = Region.ready md ops listed := fun listed => by
    unfold Region.ready
    rw [hsz]
    congr 1
    funext i
    cases ho : ops[i]? with
    | none => rw [hnone i ho]
    | some o =>
      obtain ⟨o', ho', hs⟩ := h i o ho
      rw [ho']
      simp only [Option.map_some, hs.after]
  have hy : ∀ tmps, yielded ops' tmps = yielded ops tmps := fun tmps => by
    funext j
    unfold yielded
    cases ho : ops[j]? with
    | none => rw [hnone j ho]
    | some o =>
      obtain ⟨o', ho', hs⟩ := h j o ho
      rw [ho']
      simp only [Option.bind_some, hs.dst]
  have hop : ∀ (i : Nat) {K K' : Act → World → Prop} (a : Act) (w : World), (∀ a w, K' a w → K a w) → wpOpIn F n P ops' Q i K' a w → wpOpIn F n P ops Q i K a w := fun i K K' a w hK hh => by
    refine wpOpIn_mono hK ?_
    unfold wpOpIn at hh ⊢
    cases ho : ops[i]? with
    | none => rw [hnone i ho] at hh; exact hh
    | some o =>
      obtain ⟨o', ho', hs⟩ := h i o ho
      rw [ho'] at hh
      simp only [hy] at hh ⊢
      have hw : Region.wanted o' (yielded ops a.tmps) = Region.wanted o (yielded ops a.tmps) := by unfold Region.wanted; rw [hs.guard]
      rw [hw] at hh
      split
      · rename_i hx; rw [if_pos hx] at hh; exact hs.wpIn hh
      · rename_i hx
        rw [if_neg hx, hs.dst] at hh
        refine ⟨fun f hf => ?_, hh.2⟩
        rcases hs.op with e | ⟨x, e1, e2⟩
        · refine hh.1 f ?_
          unfold Oper.about at hf ⊢
          rw [e, hs.type]; exact hf
        · unfold Oper.about at hf
          rw [e1] at hf; cases hf
  intro fuel
  induction fuel with
  | zero => intro listed a w hh; exact ⟨by rw [← hr]; exact hh.1, hh.2⟩
  | succ fuel ih =>
    intro listed a w hh
    refine ⟨fun e => hh.1 (by rw [hr]; exact e), fun i hi => ?_⟩
    exact hop i a w (fun a w k => ih _ a w k) (hh.2 i (by rw [hr]; exact hi))
theorem ops_same {F : Fence} {n : Nat} {P : Program} {md : Region.Mode} {ops ops' : Array Oper} {Q : Exit → Act → World → Prop} (hsz : ops'.size = ops.size) (h : ∀ (i : Nat) (o : Oper), ops[i]? = some o → ∃ o' : Oper, ops'[i]? = some o' ∧ SameOp o o') :
    (∀ listed, Region.ready md ops' listed = Region.ready md ops listed) ∧ ∀ (l : List Nat) (a : Act) (w : World), wpOpsIn F n P ops' Q l a w → wpOpsIn F n P ops Q l a w := by
  have hnone : ∀ i, ops[i]? = none → ops'[i]? = none := fun i hi => by
    rw [Array.getElem?_eq_none_iff] at hi ⊢; omega
  have hr : ∀ listed, Region.ready md ops' listed = Region.ready md ops listed := fun listed => by
    unfold Region.ready
    rw [hsz]
    congr 1
    funext i
    cases ho : ops[i]? with
    | none => rw [hnone i ho]
    | some o =>
      obtain ⟨o', ho', hs⟩ := h i o ho
      rw [ho']
      simp only [Option.map_some, hs.after]
  have hy : ∀ tmps, yielded ops' tmps = yielded ops tmps := fun tmps => by
    funext j
    unfold yielded
    cases ho : ops[j]? with
    | none => rw [hnone j ho]
    | some o =>
      obtain ⟨o', ho', hs⟩ := h j o ho
      rw [ho']
      simp only [Option.bind_some, hs.dst]
  have hop : ∀ (i : Nat) {K K' : Act → World → Prop} (a : Act) (w : World), (∀ a w, K' a w → K a w) → wpOpIn F n P ops' Q i K' a w → wpOpIn F n P ops Q i K a w := fun i K K' a w hK hh => by
    refine wpOpIn_mono hK ?_
    unfold wpOpIn at hh ⊢
    cases ho : ops[i]? with
    | none => rw [hnone i ho] at hh; exact hh
    | some o =>
      obtain ⟨o', ho', hs⟩ := h i o ho
      rw [ho'] at hh
      simp only [hy] at hh ⊢
      have hw : Region.wanted o' (yielded ops a.tmps) = Region.wanted o (yielded ops a.tmps) := by unfold Region.wanted; rw [hs.guard]
      rw [hw] at hh
      split
      · rename_i hx; rw [if_pos hx] at hh; exact hs.wpIn hh
      · rename_i hx
        rw [if_neg hx, hs.dst] at hh
        refine ⟨fun f hf => ?_, hh.2⟩
        rcases hs.op with e | ⟨x, e1, e2⟩
        · refine hh.1 f ?_
          unfold Oper.about at hf ⊢
          rw [e, hs.type]; exact hf
        · unfold Oper.about at hf
          rw [e1] at hf; cases hf
  refine ⟨hr, fun l => ?_⟩
  induction l with
  | nil => intro a w hh; exact hh
  | cons k l ih =>
    intro a w hh
    rw [wpOpsIn_cons] at hh ⊢
    exact hop k a w (fun a w q => ih a w q) hh
theorem ord_same {ops ops' : Array Oper} (h : ∀ listed, Region.ready .any ops' listed = Region.ready .any ops listed) : ∀ (fuel : Nat) (listed : Array Bool) (l : List Nat), Ord ops fuel listed l → Ord ops' fuel listed l := by
  intro fuel
  induction fuel with
  | zero => intro listed l hh; exact hh
  | succ fuel ih =>
    intro listed l hh
    cases l with
    | nil => show Region.ready .any ops' listed = []; rw [h]; exact hh
    | cons k l => exact ⟨by rw [h]; exact hh.1, ih _ _ hh.2⟩
theorem opsF_same (C : Cfg) (ops : Array Oper) : (C.opsF ops).size = ops.size ∧ ∀ (i : Nat) (o : Oper), ops[i]? = some o → ∃ o' : Oper, (C.opsF ops)[i]? = some o' ∧ SameOp o o' := by
  unfold Cfg.opsF
  cases hasKey C.joins 9000000
  · exact ⟨rfl, fun i o ho => ⟨o, ho, ⟨rfl, rfl, rfl, rfl, rfl, .inl rfl⟩⟩⟩
  · have hl : ∀ (lk : List Nat) (l : List Oper), (floatL lk l).length = l.length := fun lk l => by
      induction l with
      | nil => rfl
      | cons o r ih => simp [floatL, ih]
    refine ⟨by simp [hl], fun i o ho => ⟨floatOp (allLooks ops.toList) o, ?_, same_float _ _⟩⟩
    simp only [cond_true, List.getElem?_toArray, float_at]
    rw [Array.getElem?_toList, ho]; rfl
theorem opsF_dst {C : Cfg} {ops : Array Oper} {d : Nat} (h : opsDst (C.opsF ops) d) : opsDst ops d := by
  obtain ⟨i, o', ho', hd⟩ := h
  obtain ⟨hsz, hs⟩ := opsF_same C ops
  have hi : i < ops.size := by have := (Array.getElem?_eq_some_iff.1 ho').1; omega
  obtain ⟨o2, h2, h3⟩ := hs i ops[i] (by simp [hi])
  rw [ho'] at h2
  obtain rfl := Option.some.inj h2
  exact ⟨i, ops[i], by simp [hi], by rw [← h3.dst]; exact hd⟩
/-- A REGION WHOSE ORDER IS DRAWN. -/
theorem draw_sound {r : Option Nat} {id : Nat} {s : SS} {a : Act} {wp w : World} {Q : Exit → Act → World → Prop} (h : drawR C (C.opsF ops) K s wp) (hS : Sim C s a wp w)
    (hk : ∀ s' a' w' wp', K s' wp' → Sim C s' a' wp' w' → FrO C.muts (opsDst ops) s s' → Q .normal a' w') : (Code.region id ops true).wpIn (WF r) 0 C.P Q a w := by
  obtain ⟨hsz, hs⟩ := opsF_same C ops
  unfold drawR at h
  cases hkey : hasKey C.joins 11000000 <;> simp only [hkey, cond_true, cond_false] at h
  · obtain ⟨h3, hA⟩ := draw_any (r := r) h hS fun s' a' w' wp' g1 g2 g3 => hk s' a' w' wp' g1 g2 ⟨fun d hd hp => g3.sl d (fun h => hd (opsF_dst h)) hp, fun k e he hp => g3.L k e he hp, g3.ro, g3.g⟩
    refine wpIn_region_any h3 ?_
    have := any_same hsz hs _ _ _ _ hA
    rw [hsz] at this
    exact this
  · obtain ⟨h3, hA⟩ := drawS_sound (r := r) hS 4 _ h fun s' a' w' wp' g1 g2 g3 => hk s' a' w' wp' g1 g2 ⟨fun d hd hp => g3.sl d (fun h => hd (opsF_dst h)) hp, fun k e he hp => g3.L k e he hp, g3.ro, g3.g⟩
    obtain ⟨h5, h6⟩ := ops_same (F := WF r) (n := 0) (P := C.P) (md := .any) (Q := Q) hsz hs
    refine wpIn_region_draw fun t => ?_
    simp only [Region.schedule, h3, Bool.true_or, if_true]
    refine h6 _ _ _ (hA _ ?_)
    rw [hsz]
    exact ord_same h5 _ _ _ (go_ord _ t _)
end
end Go.Vc
end
section
namespace Go.Vc
open Go.RowKit

theorem mem_insD {d x : Nat} : ∀ {l : List Nat}, x ∈ insD d l ↔ x = d ∨ x ∈ l
  | [] => by simp [insD]
  | y :: ys => by
    simp only [insD]
    cases h1 : Nat.blt d y <;> simp only [cond_true, cond_false]
    · cases h2 : Nat.beq d y <;> simp only [cond_true, cond_false]
      · simp only [List.mem_cons, mem_insD (l := ys)]
        constructor
        · rintro (h | h | h) <;> simp [h]
        · rintro (h | h | h) <;> simp [h]
      · have := Nat.eq_of_beq_eq_true h2
        subst this
        simp
    · simp

/-- The slots that code writes, as a property. -/
def wr : Code → Nat → Prop
  | .region _ ops _, d => opsDst ops d
  | .seq a b, d => wr a d ∨ wr b d
  | .cond _ a b, d => wr a d ∨ wr b d
  | .block _ c, d => wr c d
  | .loop c, d => wr c d
  | .scope c, d => wr c d
  | .rangeFunc _ ps a b, d => d ∈ ps.toList ∨ wr a d ∨ wr b d
  | _, _ => False

theorem regDsts_spec {ops : Array Oper} {acc : List Nat} {d : Nat} (h : d ∈ acc ∨ opsDst ops d) : d ∈ regDsts ops acc := by
  unfold regDsts
  have key : ∀ (l : List Oper) (acc : List Nat), (d ∈ acc ∨ ∃ o ∈ l, o.dst = some d) → d ∈ l.foldl (fun acc o => match o.dst with | some d => insD d acc | none => acc) acc := by
    intro l
    induction l with
    | nil => intro acc h; simpa using h
    | cons o l ih =>
      intro acc h
      simp only [List.foldl_cons]
      apply ih
      rcases h with h | ⟨o', ho', h⟩
      · left; split
        · exact mem_insD.2 (.inr h)
        · exact h
      · rcases List.mem_cons.1 ho' with rfl | ho'
        · left; rw [h]; exact mem_insD.2 (.inl rfl)
        · right; exact ⟨o', ho', h⟩
  apply key
  rcases h with h | ⟨i, o, h1, h2⟩
  · exact .inl h
  · exact .inr ⟨o, by rw [Array.mem_toList_iff]; exact Array.mem_of_getElem? h1, h2⟩

theorem dsts_spec : ∀ {c : Code} {acc : List Nat} {d : Nat}, (d ∈ acc ∨ wr c d) → d ∈ dsts c acc
  | .skip, acc, d, h => by simpa [wr, dsts] using h
  | .region _ ops _, acc, d, h => regDsts_spec h
  | .seq a b, acc, d, h => by
    simp only [dsts]
    rcases h with h | h | h
    · exact dsts_spec (.inl (dsts_spec (.inl h)))
    · exact dsts_spec (.inl (dsts_spec (.inr h)))
    · exact dsts_spec (.inr h)
  | .cond _ a b, acc, d, h => by
    simp only [dsts]
    rcases h with h | h | h
    · exact dsts_spec (.inl (dsts_spec (.inl h)))
    · exact dsts_spec (.inl (dsts_spec (.inr h)))
    · exact dsts_spec (.inr h)
  | .block _ c, acc, d, h => by simp only [dsts]; exact dsts_spec (c := c) h
  | .loop c, acc, d, h => by simp only [dsts]; exact dsts_spec (c := c) h
  | .scope c, acc, d, h => by simp only [dsts]; exact dsts_spec (c := c) h
  | .rangeFunc f ps a b, acc, d, h => by
    simp only [dsts]
    have key : ∀ (l : List Nat) (acc : List Nat), (d ∈ acc ∨ d ∈ l) → d ∈ l.foldl (fun acc d => insD d acc) acc := by
      intro l; induction l with
      | nil => intro acc h; simpa using h
      | cons x l ih => intro acc h; exact ih _ (by rcases h with h | h; exact .inl (mem_insD.2 (.inr h)); rcases List.mem_cons.1 h with rfl | h; exact .inl (mem_insD.2 (.inl rfl)); exact .inr h)
    rcases h with h | h | h | h
    · exact dsts_spec (.inl (dsts_spec (.inl (key _ _ (.inl h)))))
    · exact dsts_spec (.inl (dsts_spec (.inl (key _ _ (.inr h)))))
    · exact dsts_spec (.inl (dsts_spec (.inr h)))
    · exact dsts_spec (.inr h)
  | .exit _, acc, d, h => by simpa [wr, dsts] using h
  | .label _, acc, d, h => by simpa [wr, dsts] using h
  | .goto _, acc, d, h => by simpa [wr, dsts] using h
  | .ret, acc, d, h => by simpa [wr, dsts] using h
  | .refuse _, acc, d, h => by simpa [wr, dsts] using h

theorem regDsts_back {ops : Array Oper} {acc : List Nat} {d : Nat} (h : d ∈ regDsts ops acc) : d ∈ acc ∨ opsDst ops d := by
  unfold regDsts at h
  have key : ∀ (l : List Oper) (acc : List Nat), d ∈ l.foldl (fun acc o => match o.dst with | some d => insD d acc | none => acc) acc → (d ∈ acc ∨ ∃ o ∈ l, o.dst = some d) := by
    intro l
    induction l with
    | nil => intro acc h; exact .inl h
    | cons o l ih =>
      intro acc h
      simp only [List.foldl_cons] at h
      rcases ih _ h with h | ⟨o', ho', h⟩
      · split at h
        · rename_i x hx
          rcases mem_insD.1 h with rfl | h
          · exact .inr ⟨o, by simp, hx⟩
          · exact .inl h
        · exact .inl h
      · exact .inr ⟨o', by simp [ho'], h⟩
  rcases key _ _ h with h | ⟨o, ho, h⟩
  · exact .inl h
  · obtain ⟨i, hi⟩ := List.getElem?_of_mem ho
    exact .inr ⟨i, o, by simpa using hi, h⟩

theorem dsts_back : ∀ {c : Code} {acc : List Nat} {d : Nat}, d ∈ dsts c acc → (d ∈ acc ∨ wr c d)
  | .skip, acc, d, h => by simpa [wr, dsts] using h
  | .region _ ops _, acc, d, h => regDsts_back h
  | .seq a b, acc, d, h => by
    simp only [dsts] at h
    rcases dsts_back h with h | h
    · exact (dsts_back h).imp id .inl
    · exact .inr (.inr h)
  | .cond _ a b, acc, d, h => by
    simp only [dsts] at h
    rcases dsts_back h with h | h
    · exact (dsts_back h).imp id .inl
    · exact .inr (.inr h)
  | .block _ c, acc, d, h => by simp only [dsts] at h; exact dsts_back (c := c) h
  | .loop c, acc, d, h => by simp only [dsts] at h; exact dsts_back (c := c) h
  | .scope c, acc, d, h => by simp only [dsts] at h; exact dsts_back (c := c) h
  | .rangeFunc f ps a b, acc, d, h => by
    simp only [dsts] at h
    have key : ∀ (l : List Nat) (acc : List Nat), d ∈ l.foldl (fun acc d => insD d acc) acc → (d ∈ acc ∨ d ∈ l) := by
      intro l; induction l with
      | nil => intro acc h; exact .inl h
      | cons x l ih =>
        intro acc h
        rcases ih _ h with h | h
        · rcases mem_insD.1 h with rfl | h
          · exact .inr (by simp)
          · exact .inl h
        · exact .inr (by simp [h])
    rcases dsts_back h with h | h
    · rcases dsts_back h with h | h
      · exact (key _ _ h).imp id .inl
      · exact .inr (.inr (.inl h))
    · exact .inr (.inr (.inr h))
  | .exit _, acc, d, h => by simpa [wr, dsts] using h
  | .label _, acc, d, h => by simpa [wr, dsts] using h
  | .goto _, acc, d, h => by simpa [wr, dsts] using h
  | .ret, acc, d, h => by simpa [wr, dsts] using h
  | .refuse _, acc, d, h => by simpa [wr, dsts] using h

theorem least {p : Nat → Prop} : ∀ n, p n → ∃ m, p m ∧ ∀ k, p k → m ≤ k := by
  intro n
  induction n using Nat.strongRecOn with
  | _ n ih =>
    intro h
    by_cases hk : ∃ k, k < n ∧ p k
    · obtain ⟨k, h1, h2⟩ := hk; exact ih k h1 h2
    · exact ⟨n, h, fun k hk' => Nat.le_of_not_lt fun hlt => hk ⟨k, hlt, hk'⟩⟩

open Classical in
/-- A loop whose rounds lower a number that the invariant names. -/
theorem wp_loop_ix {F : Fence} {n0 : Nat} {P : Program} {c : Code} {Q : Exit → Act → World → Prop} {a : Act} {w : World} (J : Nat → Act → World → Prop) (h0 : ∃ n, J n a w)
    (round : ∀ n a w, J n a w → c.wpIn F n0 P (Exit.then (fun a' w' => ∃ m, m < n ∧ J m a' w') Q) a w) : (Code.loop c).wpIn F n0 P Q a w := by
  have hl : ∀ a w, (∃ n, J n a w) → ∃ m, J m a w ∧ ∀ k, J k a w → m ≤ k := fun a w ⟨n, hn⟩ => least n hn
  let μ : Act → World → Nat := fun a w => if h : ∃ n, J n a w then Classical.choose (hl a w h) else 0
  have hμ : ∀ a w (h : ∃ n, J n a w), J (μ a w) a w ∧ ∀ k, J k a w → μ a w ≤ k := fun a w h => by
    have := Classical.choose_spec (hl a w h)
    simpa only [μ, dif_pos h] using this
  refine wpIn_loop (fun a w => ∃ n, J n a w) μ h0 fun a w h => ?_
  refine wpIn_mono (round _ a w (hμ a w h).1) fun e a' w' hq => ?_
  cases e with
  | normal =>
    obtain ⟨m, hm, hJ⟩ := hq
    exact ⟨⟨m, hJ⟩, Nat.lt_of_le_of_lt ((hμ a' w' ⟨m, hJ⟩).2 m hJ) hm⟩
  | _ => exact hq

theorem havLf_elim {l x : Lf} {K : Lf → Prop} {L0 L : Nat → Option LocE} {l' : Lf} (h : havLf l K) (hn : normLf L0 L l l' = some x) : K x := by
  cases l
  case ptr => simp only [havLf] at h; simp only [normLf] at hn; split at hn <;> simp at hn; subst hn; exact h _
  case op => simp only [havLf] at h; simp only [normLf] at hn; split at hn <;> simp at hn; subst hn; exact h _
  all_goals simp only [havLf] at h <;> cases l' <;> simp only [normLf, Lf.asB, reduceCtorEq, Option.some.injEq] at hn <;> first
    | (subst hn; exact h _)
    | (subst hn; exact h _ _)
    | (subst hn; exact h _ _ _)
    | (split at hn <;> simp at hn <;> subst hn <;> first | exact h _ | exact h _ _ | exact h _ _ _)
    | (revert hn; cases kEq _ _ <;> simp; intro hn; subst hn; exact h _)
    | (revert hn; cases (Nat.beq _ _ && (Nat.beq _ _ && hasL _ _)) <;> simp; intro hn; subst hn; exact h)
    | skip


/-- Where the keys of L0 lie in L2 and L at one block, a content in the shape of another has the same value. -/
theorem normLf_toV {L0 L L2 : Nat → Option LocE} (hb : ∀ k e, L0 k = some e → (∃ e', L k = some e' ∧ e'.b = e.b) ∧ ∃ e2, L2 k = some e2 ∧ e2.b = e.b) {l l' x : Lf} {v : Value} (hn : normLf L0 L l l' = some x) (hv : l'.toV L = some v) : x.toV L2 = some v := by
  have asb : ∀ {m : Lf} {b : Bool}, m.asB = some b → m.toV L = some v → v = .bool b := fun {m b} h1 h2 => by
    have := asB_spec (L := L) h1
    simp only [SV.toV, PV.toV] at this
    rw [h2] at this; exact Option.some.inj this
  cases l
  case int k n =>
    cases l' <;> simp only [normLf, reduceCtorEq] at hn
    rename_i k' n'
    cases hk : kEq k k' <;> simp only [hk, cond_true, cond_false, reduceCtorEq, Option.some.injEq] at hn
    obtain rfl := kEq_eq hk
    subst hn; exact hv
  case cmp =>
    simp only [normLf] at hn
    split at hn <;> simp at hn
    rename_i b hb'; subst hn; rw [asb hb' hv]; rfl
  case bool =>
    simp only [normLf] at hn
    split at hn <;> simp at hn
    rename_i b hb'; subst hn; rw [asb hb' hv]; rfl
  case tf =>
    simp only [normLf] at hn
    split at hn <;> simp at hn
    rename_i b hb'; subst hn; rw [asb hb' hv]; rfl
  case str => cases l' <;> simp only [normLf, reduceCtorEq, Option.some.injEq] at hn; subst hn; exact hv
  case sl =>
    cases l' <;> simp only [normLf, reduceCtorEq, Option.some.injEq] at hn
    · rename_i k o n c
      split at hn <;> simp at hn
      rename_i e he
      subst hn
      simpa [Lf.toV, he] using hv
    · subst hn; exact hv
  case ptr =>
    simp only [normLf] at hn
    rw [hv] at hn
    split at hn <;> simp at hn
    rename_i a ha
    obtain rfl := Option.some.inj ha
    subst hn; rfl
  case op =>
    simp only [normLf] at hn
    rw [hv] at hn
    split at hn <;> simp at hn
    rename_i a ha
    obtain rfl := Option.some.inj ha
    subst hn; rfl
  case map => cases l' <;> simp only [normLf, reduceCtorEq, Option.some.injEq] at hn; subst hn; exact hv
  case val =>
    simp only [normLf] at hn
    rw [hv] at hn; simp at hn; subst hn; rfl
  case vk =>
    simp only [normLf] at hn
    rw [hv] at hn; simp at hn; subst hn; rfl
  case loc k o =>
    cases l' <;> simp only [normLf, reduceCtorEq] at hn
    rename_i k' o'
    cases hc : (Nat.beq k k' && (Nat.beq o o' && hasL L0 k)) <;> simp only [hc, cond_true, cond_false, reduceCtorEq, Option.some.injEq] at hn
    simp only [Bool.and_eq_true] at hc
    have h1 := Nat.eq_of_beq_eq_true hc.1
    have h2 := Nat.eq_of_beq_eq_true hc.2.1
    obtain ⟨e, he⟩ := hasL_spec hc.2.2
    subst h1; subst h2; subst hn
    obtain ⟨⟨e1, h3, h4⟩, e2, h5, h6⟩ := hb k e he
    simp only [Lf.toV, h3] at hv
    simp only [Lf.toV, h5, h6, ← h4]; exact hv
  case lsl => cases l' <;> simp [normLf] at hn
  case fn => cases l' <;> simp [normLf] at hn
  case fv => cases l' <;> simp [normLf] at hn

theorem normLfs_toVs {L0 L L2 : Nat → Option LocE} (hb : ∀ k e, L0 k = some e → (∃ e', L k = some e' ∧ e'.b = e.b) ∧ ∃ e2, L2 k = some e2 ∧ e2.b = e.b) : ∀ {ls ls' xs : List Lf} {vs : List Value}, normLfs L0 L ls ls' = some xs → toVs L ls' = some vs → toVs L2 xs = some vs
  | [], [], xs, vs, hn, hv => by simp [normLfs] at hn; subst hn; exact hv
  | [], _ :: _, xs, vs, hn, hv => by simp [normLfs] at hn
  | _ :: _, [], xs, vs, hn, hv => by simp [normLfs] at hn
  | l :: ls, l' :: ls', xs, vs, hn, hv => by
    simp only [normLfs] at hn
    split at hn <;> simp at hn
    rename_i x ys hx hys
    subst hn
    simp only [toVs] at hv
    split at hv <;> simp at hv
    rename_i u us hu hus
    subst hv
    simp only [toVs, normLf_toV hb hx hu, normLfs_toVs hb hys hus]

theorem normSV_toV {L0 L L2 : Nat → Option LocE} (hb : ∀ k e, L0 k = some e → (∃ e', L k = some e' ∧ e'.b = e.b) ∧ ∃ e2, L2 k = some e2 ∧ e2.b = e.b) {v0 v x : SV} {ls : List Lf} {u : Value} (hn : normSV L0 L v0 v = some (x, ls)) (hx : x ≠ .none) (hv : v.toV L = some u) : x.toV L2 = some u := by
  unfold normSV at hn
  split at hn
  · rename_i l
    cases hf : isFnLf l <;> simp only [hf, cond_true, cond_false] at hn
    · split at hn
      · rename_i l'
        split at hn <;> simp at hn
        rename_i y hy
        obtain ⟨rfl, _⟩ := hn
        exact normLf_toV hb hy hv
      · simp at hn
    · simp at hn; exact absurd hn.1.symm hx
  · split at hn
    · rename_i ls ls'
      split at hn <;> simp at hn
      rename_i xs hxs
      obtain ⟨rfl, _⟩ := hn
      simp only [SV.toV, PV.toV] at hv ⊢
      split at hv <;> simp at hv
      rename_i vs hvs
      rw [normLfs_toVs hb hxs hvs]; simp [hv]
    · simp at hn
  · simp at hn; exact absurd hn.1.symm hx

theorem havLfs_elim {L0 L : Nat → Option LocE} : ∀ {ls ls' xs : List Lf} {K : List Lf → Prop}, havLfs ls K → normLfs L0 L ls ls' = some xs → K xs
  | [], [], xs, K, h, hn => by simp [normLfs] at hn; subst hn; exact h
  | [], _ :: _, xs, K, h, hn => by simp [normLfs] at hn
  | _ :: _, [], xs, K, h, hn => by simp [normLfs] at hn
  | l :: ls, l' :: ls', xs, K, h, hn => by
    simp only [normLfs] at hn
    split at hn <;> simp at hn
    rename_i x ys hx hys
    subst hn
    exact havLfs_elim (K := fun r' => K (x :: r')) (havLf_elim (K := fun l' => havLfs ls fun r' => K (l' :: r')) h hx) hys

theorem havSV_elim {L0 L : Nat → Option LocE} {v0 v x : SV} {ls : List Lf} {K : SV → List Lf → Prop} (h : havSV v0 K) (hn : normSV L0 L v0 v = some (x, ls)) : K x ls := by
  unfold normSV at hn
  split at hn
  · rename_i l
    simp only [havSV] at h
    cases hf : isFnLf l <;> simp only [hf, cond_true, cond_false] at hn h
    · split at hn
      · rename_i l'
        split at hn <;> simp at hn
        rename_i y hy
        obtain ⟨rfl, rfl⟩ := hn
        exact havLf_elim h hy
      · simp at hn
    · simp at hn; obtain ⟨rfl, rfl⟩ := hn; exact h
  · simp only [havSV] at h
    split at hn
    · split at hn <;> simp at hn
      rename_i xs hxs
      obtain ⟨rfl, rfl⟩ := hn
      exact havLfs_elim (K := fun ls' => K (SV.pv (PV.agg ls')) ls') h hxs
    · simp at hn
  · rename_i h1 h2
    simp at hn; obtain ⟨rfl, rfl⟩ := hn
    unfold havSV at h
    split at h
    · exact absurd rfl (h1 _)
    · exact absurd rfl (h2 _)
    · exact h

/-- What is known of others stays. -/
structure GhE (s s' : SS) : Prop where
  rf : s'.rf = s.rf
  rnd : s'.rnd = s.rnd
  gh : s'.gh = s.gh
  pg : s'.pg = s.pg
  pw : s'.pw = s.pw
theorem GhE.r {s s' : SS} (h : GhE s s') : GhR s s' := .of ⟨h.rnd, h.pg, h.pw⟩ h.rf h.gh
theorem GhE.refl (s : SS) : GhE s s := ⟨rfl, rfl, rfl, rfl, rfl⟩

theorem allSlots_elim {s0 s' : SS} : ∀ {md : List Nat} {s : SS} {acc ls : List Lf} {K : SS → List Lf → Prop}, allSlots s0 md s acc K → slotLeaves s0 s' md = some ls →
    ∃ s1, K s1 (acc ++ ls) ∧ s1.L = s.L ∧ s1.ro = s.ro ∧ s1.ws = s.ws ∧ (s1.xs = s.xs ∧ GhE s s1) ∧ (∀ d, d ∉ md → s1.sl d = s.sl d) ∧ ∀ d, d ∈ md → ∃ ls', normSV s0.L s'.L (s0.sl d) (s'.sl d) = some (s1.sl d, ls')
  | [], s, acc, ls, K, h, hl => by simp [slotLeaves] at hl; subst hl; exact ⟨s, by simpa [allSlots] using h, rfl, rfl, rfl, ⟨rfl, .refl _⟩, fun _ _ => rfl, fun d hd => by simp at hd⟩
  | d :: md, s, acc, ls, K, h, hl => by
    simp only [slotLeaves] at hl
    split at hl <;> simp at hl
    rename_i x l1 l2 hn hr
    subst hl
    obtain ⟨s1, h1, h2, h3, hw1, hx1, h4, h5⟩ := allSlots_elim (havSV_elim h hn) hr
    refine ⟨s1, by simpa using h1, h2, h3, hw1, ⟨hx1.1, ⟨hx1.2.1, hx1.2.2, hx1.2.3, hx1.2.4, hx1.2.5⟩⟩, fun k hk => ?_, fun k hk => ?_⟩
    · simp only [List.mem_cons, not_or] at hk
      rw [h4 k hk.2]; exact upd_other _ _ hk.1
    · by_cases hkm : k ∈ md
      · exact h5 k hkm
      · rcases List.mem_cons.1 hk with rfl | hk
        · exact ⟨_, by rw [h4 k hkm]; simp only [upd_same]; exact hn⟩
        · exact absurd hk hkm

theorem allKeys_elim {s0 s' : SS} : ∀ {ks : List Nat} {s : SS} {acc ls : List Lf} {K : SS → List Lf → Prop}, allKeys s0 ks s acc K → keyLeaves s0 s' ks = some ls →
    ∃ s2, K s2 (acc ++ ls) ∧ s2.sl = s.sl ∧ s2.ro = s.ro ∧ s2.ws = s.ws ∧ (s2.xs = s.xs ∧ GhE s s2) ∧ (∀ k, (k ∉ ks ∨ s0.L k = none) → s2.L k = s.L k) ∧ ∀ k e, k ∈ ks → s0.L k = some e → ∃ e' xs, s'.L k = some e' ∧ normLfs s0.L s'.L e.cells e'.cells = some xs ∧ s2.L k = some { e with cells := xs }
  | [], s, acc, ls, K, h, hl => by simp [keyLeaves] at hl; subst hl; exact ⟨s, by simpa [allKeys] using h, rfl, rfl, rfl, ⟨rfl, .refl _⟩, fun _ _ => rfl, fun d _ hd => by simp at hd⟩
  | k :: ks, s, acc, ls, K, h, hl => by
    simp only [keyLeaves] at hl
    simp only [allKeys] at h
    cases hk : s0.L k with
    | none =>
      simp only [hk] at hl h
      obtain ⟨s2, h1, h2, h3, hw1, hx1, h4, h5⟩ := allKeys_elim h hl
      refine ⟨s2, h1, h2, h3, hw1, hx1, fun j hj => ?_, fun j e hj he => ?_⟩
      · apply h4
        rcases hj with hj | hj
        · left; intro h'; exact hj (List.mem_cons_of_mem _ h')
        · exact .inr hj
      · rcases List.mem_cons.1 hj with rfl | hj
        · rw [hk] at he; cases he
        · exact h5 j e hj he
    | some e =>
      simp only [hk] at hl h
      split at hl
      · simp at hl
      rename_i e' he'
      split at hl <;> simp at hl
      rename_i l1 l2 hn hr
      subst hl
      obtain ⟨s2, h1, h2, h3, hw1, hx1, h4, h5⟩ := allKeys_elim (havLfs_elim (K := fun cs => allKeys s0 ks { s with L := upd s.L k (some { e with cells := cs }) } (acc ++ cs) K) h hn) hr
      refine ⟨s2, by simpa using h1, h2, h3, hw1, ⟨hx1.1, ⟨hx1.2.1, hx1.2.2, hx1.2.3, hx1.2.4, hx1.2.5⟩⟩, fun j hj => ?_, fun j e1 hj he1 => ?_⟩
      · have hjk : j ≠ k := fun h' => by
          subst h'
          rcases hj with hj | hj
          · exact hj (by simp)
          · rw [hk] at hj; cases hj
        rw [h4 j (hj.imp (fun hj h' => hj (List.mem_cons_of_mem _ h')) id)]
        exact upd_other _ _ hjk
      · by_cases hjm : j ∈ ks
        · exact h5 j e1 hjm he1
        · rcases List.mem_cons.1 hj with rfl | hj
          · rw [hk] at he1; cases he1
            exact ⟨e', l1, he', hn, by rw [h4 j (.inl hjm)]; exact upd_same _ _ _⟩
          · exact absurd hj hjm


theorem lfKeys_have {L : Nat → Option LocE} : ∀ {l : List Lf} {vs : List Value}, toVs L l = some vs → ∀ k, k ∈ lfKeys l → ∃ e, L k = some e
  | [], vs, h, k, hk => by simp [lfKeys] at hk
  | x :: r, vs, h, k, hk => by
    simp only [toVs] at h
    split at h <;> simp at h
    rename_i u us hu hus
    cases x <;> simp only [lfKeys, List.mem_cons] at hk <;> first
      | exact lfKeys_have hus k hk
      | (rcases hk with rfl | hk
         · simp only [Lf.toV] at hu; split at hu <;> simp at hu; exact ⟨_, ‹_›⟩
         · exact lfKeys_have hus k hk)
theorem lfKeys_append (a b : List Lf) : lfKeys (a ++ b) = lfKeys a ++ lfKeys b := by
  induction a with
  | nil => rfl
  | cons x r ih => cases x <;> simp [lfKeys, ih]
theorem pv_have {L : Nat → Option LocE} {p : PV} {u : Value} (h : p.toV L = some u) : ∀ k, k ∈ lfKeys p.cells → ∃ e, L k = some e := by
  cases p with
  | one l => exact lfKeys_have (vs := [u]) (by simp [PV.cells, toVs, show l.toV L = some u from h])
  | agg cs =>
    simp only [PV.toV] at h
    split at h <;> simp at h
    exact lfKeys_have ‹_›
theorem keys_have {L : Nat → Option LocE} {v : SV} {u : Value} (h : v.toV L = some u) : ∀ k, k ∈ v.keys → ∃ e, L k = some e := by
  cases v with
  | none => simp [SV.toV] at h
  | undef => intro k hk; simp [SV.keys, SV.lfs, lfKeys] at hk
  | pv p => exact pv_have h
  | tup vs =>
    simp only [SV.toV] at h
    split at h <;> simp at h
    rename_i us hus
    clear h
    simp only [SV.keys, SV.lfs]
    induction vs generalizing us with
    | nil => intro k hk; simp [lfKeys] at hk
    | cons p r ih =>
      simp only [pvs] at hus
      split at hus <;> simp at hus
      rename_i w ws hw hws
      intro k hk
      simp only [List.flatMap_cons, lfKeys_append, List.mem_append] at hk
      rcases hk with hk | hk
      · exact pv_have hw k hk
      · exact ih ws hws k hk

theorem lt_locs {C : Cfg} {s : SS} {w : World} (hm : MemS s w) : ∀ b, b ∈ locs C s → b < w.heap.size := fun b hb => by
  obtain ⟨k, e, _, he, rfl⟩ := mem_locs.1 hb
  obtain ⟨vs, _, h2⟩ := hm k e he
  exact lt_of_some h2

/-- Where nothing has happened since the world was known. -/
theorem WSim.now {C : Cfg} {s : SS} {w : World} (mem : MemS s w) (inj : ∀ k k' e e', s.L k = some e → s.L k' = some e' → e.b = e'.b → k = k') (low : ∀ k e, s.L k = some e → C.base ≤ e.b ∧ k < C.n)
    (below : C.pure = true → Below C.base C.w0 w) (hbase : C.base ≤ w.heap.size) (mu : ∀ k, k ∈ C.muts → s.ro k = false) (hw : s.ws = none) (hx : s.xs = []) : WSim C s w w :=
  ⟨mem, inj, low, Kept.refl (lt_locs mem), below, hbase, mu, fun _ => hx, fun u hu => (by rw [hw] at hu; cases hu), fun x hx' => (by rw [hx] at hx'; cases hx')⟩

theorem head_sound {C : Cfg} {s0 s' : SS} {a : Act} {wp' w : World} {md ks : List Nat} {ls : List Lf} {F : SS → List Lf → Prop}
    (hv0 : ∀ d, s0.sl d ≠ .none → ∃ v, (s0.sl d).toV s0.L = some v) (hm0 : ∀ k e, s0.L k = some e → ∃ vs, toVs s0.L e.cells = some vs)
    (hF : FrO ks (fun d => d ∈ md) s0 s') (hro : ∀ k e, s0.L k = some e → k ∉ ks → s0.ro k = true) (hmu : ∀ k, k ∈ ks → s0.ro k = false) (hS : Sim C s' a wp' w) (hl : leavesAt s0 s' md ks = some ls) (hw0 : s0.ws = none) (hx0 : s0.xs = [])
    (h : allSlots s0 md s0 [] fun s1 l1 => allKeys s0 ks s1 l1 F) : ∃ s2, F s2 ls ∧ GhE s0 s2 ∧ (s2.ws = none ∧ s2.xs = []) ∧ SimS s2 a ∧ WSim C s2 w w ∧ (∀ k e2, s2.L k = some e2 → ∃ e', s'.L k = some e' ∧ e'.b = e2.b) ∧ FrO ks (fun d => d ∈ md) s0 s2 := by
  unfold leavesAt at hl
  split at hl <;> simp at hl
  rename_i l1 l2 hl1 hl2
  subst hl
  obtain ⟨s1, h1, p2, p3, pw, px, p4, p5⟩ := allSlots_elim h hl1
  obtain ⟨s2, h2, q2, q3, qw, qx, q4, q5⟩ := allKeys_elim h1 hl2
  have hp0 : ∀ k e, s0.L k = some e → s0.ro k = true ∨ k ∈ ks := fun k e he => by
    by_cases hk : k ∈ ks
    · exact .inr hk
    · exact .inl (hro k e he hk)
  have hpd : ∀ d, s0.sl d ≠ .none → ∀ k, k ∈ (s0.sl d).keys → s0.ro k = true ∨ k ∈ ks := fun d hd k hk => by
    obtain ⟨v, hv⟩ := hv0 d hd
    obtain ⟨e, he⟩ := keys_have hv k hk
    exact hp0 k e he
  have hL2 : ∀ k e, s0.L k = some e → ∃ e2, s2.L k = some e2 ∧ e2.b = e.b ∧ e2.T = e.T ∧ (k ∉ ks → e2 = e) := fun k e he => by
    by_cases hk : k ∈ ks
    · obtain ⟨e', xs, _, _, r3⟩ := q5 k e hk he
      exact ⟨_, r3, rfl, rfl, fun h => absurd hk h⟩
    · exact ⟨e, by rw [q4 k (.inl hk), p2]; exact he, rfl, rfl, fun _ => rfl⟩
  have hb : ∀ k e, s0.L k = some e → (∃ e', s'.L k = some e' ∧ e'.b = e.b) ∧ ∃ e2, s2.L k = some e2 ∧ e2.b = e.b := fun k e he => by
    obtain ⟨e', r1, r2, _⟩ := hF.L k e he (hp0 k e he)
    obtain ⟨e2, r3, r4, _⟩ := hL2 k e he
    exact ⟨⟨e', r1, r2⟩, e2, r3, r4⟩
  have hm' : ∀ k e, s0.L k = some e → ∃ e', s'.L k = some e' ∧ e'.b = e.b := fun k e he => (hb k e he).1
  have hm2 : ∀ k e, s0.L k = some e → ∃ e', s2.L k = some e' ∧ e'.b = e.b := fun k e he => (hb k e he).2
  have hback : ∀ k e2, s2.L k = some e2 → ∃ e, s0.L k = some e := fun k e2 he2 => by
    cases hk : s0.L k with
    | some e => exact ⟨e, rfl⟩
    | none => rw [q4 k (.inr hk), p2, hk] at he2; cases he2
  obtain ⟨hsl, hn, hd, ⟨hmem, hinj, hlow, hkept, hbel, hbase, hmu', hwx', hws', hxs'⟩⟩ := hS
  have hblk : ∀ k e2, s2.L k = some e2 → ∃ e', s'.L k = some e' ∧ e'.b = e2.b := fun k e2 he2 => by
    obtain ⟨e, he⟩ := hback k e2 he2
    obtain ⟨⟨e', r1, r2⟩, e3, r3, r4⟩ := hb k e he
    rw [he2] at r3; cases r3
    exact ⟨e', r1, r2.trans r4.symm⟩
  have hgh : GhE s0 s2 := ⟨qx.2.1.trans px.2.1, qx.2.2.trans px.2.2, qx.2.3.trans px.2.3, qx.2.4.trans px.2.4, qx.2.5.trans px.2.5⟩
  refine ⟨s2, by simpa using h2, hgh, ⟨by rw [qw, pw, hw0], by rw [qx.1, px.1, hx0]⟩, fun d hd0 => ?_, WSim.now (fun k e2 he2 => ?_) (fun k k' e e' he he' hbb => ?_) (fun k e he => ?_) hbel hbase (fun k hk => ?_) (by rw [qw, pw, hw0]) (by rw [qx.1, px.1, hx0]), hblk, ⟨fun d hd0 _ => ?_, fun k e he _ => ?_, ?_, hgh.r⟩⟩
  · rw [q2] at hd0 ⊢
    by_cases hdm : d ∈ md
    · obtain ⟨ls', hn'⟩ := p5 d hdm
      have hne : s'.sl d ≠ .none := fun e => by
        rw [e] at hn'
        unfold normSV at hn'
        split at hn'
        · rename_i l _
          cases hf : isFnLf l <;> simp [hf] at hn'
          exact hd0 hn'.1.symm
        · simp at hn'
        · simp at hn'; exact hd0 hn'.1.symm
      obtain ⟨u, r1, r2⟩ := hsl d hne
      exact ⟨u, normSV_toV hb hn' hd0 r1, r2⟩
    · rw [p4 d hdm] at hd0 ⊢
      obtain ⟨v, r1⟩ := hv0 d hd0
      have hsd := hF.sl d hdm (hpd d hd0)
      obtain ⟨v', r2, r3⟩ := hsl d (by rw [hsd]; exact hd0)
      rw [hsd, sv_mono hm' r1] at r2
      cases r2
      exact ⟨v, sv_mono hm2 r1, r3⟩
  · obtain ⟨e, he⟩ := hback k e2 he2
    by_cases hk : k ∈ ks
    · obtain ⟨e', xs, r1, r2, r3⟩ := q5 k e hk he
      rw [he2] at r3; cases r3
      obtain ⟨vs, t1, t2⟩ := hmem k e' r1
      obtain ⟨e'', u1, u2, u3, _⟩ := hF.L k e he (hp0 k e he)
      rw [r1] at u1; cases u1
      exact ⟨vs, normLfs_toVs hb r2 t1, by rw [u2, u3] at t2; exact t2⟩
    · obtain ⟨e'', u1, u2, u3, u4⟩ := hF.L k e he (hp0 k e he)
      have u5 := u4 (hro k e he hk)
      subst u5
      obtain ⟨vs, t1, t2⟩ := hmem k e'' u1
      obtain ⟨vs0, t3⟩ := hm0 k e'' he
      obtain ⟨e3, r3, _, _, r4⟩ := hL2 k e'' he
      rw [he2] at r3; cases r3
      have := r4 hk
      subst this
      rw [toVs_mono hm' t3] at t1; cases t1
      exact ⟨_, toVs_mono hm2 t3, t2⟩
  · obtain ⟨e1, r1, r2⟩ := hblk k e he
    obtain ⟨e1', r1', r2'⟩ := hblk k' e' he'
    exact hinj k k' e1 e1' r1 r1' (by rw [r2, r2', hbb])
  · obtain ⟨e1, r1, r2⟩ := hblk k e he
    rw [← r2]; exact hlow k e1 r1
  · rw [q3, p3, ← hF.ro]; exact hmu' k hk
  · rw [q2]; exact p4 d hd0
  · obtain ⟨e2, r1, r2, r3, r4⟩ := hL2 k e he
    exact ⟨e2, r1, r2, r3, fun hr => r4 fun hk => by rw [hmu k hk] at hr; cases hr⟩
  · rw [q3, p3]

theorem escLf_toV {L L' : Nat → Option LocE} {ks : List Nat} (h : ∀ k e, L k = some e → memB k ks = false → ∃ e', L' k = some e' ∧ e'.b = e.b) {l : Lf} {v : Value} (hv : l.toV L = some v) : (escLf L ks l).toV L' = some v := by
  cases l <;> try exact hv
  · rename_i k o
    simp only [Lf.toV] at hv
    split at hv <;> simp at hv
    rename_i e he
    cases hk : memB k ks
    · obtain ⟨e', h1, h2⟩ := h k e he hk
      simp [escLf, hk, Lf.toV, h1, h2, hv]
    · simp [escLf, hk, he, Lf.toV, hv]
  · rename_i k o n c
    simp only [Lf.toV] at hv
    split at hv <;> simp at hv
    rename_i e he
    cases hk : memB k ks
    · obtain ⟨e', h1, h2⟩ := h k e he hk
      simp [escLf, hk, Lf.toV, h1, h2, hv]
    · simp [escLf, hk, he, Lf.toV, hv]
theorem escLfs_toVs {L L' : Nat → Option LocE} {ks : List Nat} (h : ∀ k e, L k = some e → memB k ks = false → ∃ e', L' k = some e' ∧ e'.b = e.b) : ∀ {l : List Lf} {v : List Value}, toVs L l = some v → toVs L' (l.map (escLf L ks)) = some v
  | [], v, hv => hv
  | x :: r, v, hv => by
    simp only [toVs] at hv
    split at hv <;> simp at hv
    rename_i u us hu hus
    simp only [List.map_cons, toVs, escLf_toV h hu, escLfs_toVs h hus, hv]
theorem escPV_toV {L L' : Nat → Option LocE} {ks : List Nat} (h : ∀ k e, L k = some e → memB k ks = false → ∃ e', L' k = some e' ∧ e'.b = e.b) {p : PV} {v : Value} (hv : p.toV L = some v) : (escPV L ks p).toV L' = some v := by
  cases p with
  | one l => exact escLf_toV h hv
  | agg cs =>
    simp only [PV.toV] at hv
    split at hv <;> simp at hv
    rename_i vs hvs
    simp only [escPV, PV.toV, escLfs_toVs h hvs, hv]
theorem escPVs_toV {L L' : Nat → Option LocE} {ks : List Nat} (h : ∀ k e, L k = some e → memB k ks = false → ∃ e', L' k = some e' ∧ e'.b = e.b) : ∀ {l : List PV} {v : List Value}, pvs L l = some v → pvs L' (l.map (escPV L ks)) = some v
  | [], v, hv => hv
  | x :: r, v, hv => by
    simp only [pvs] at hv
    split at hv <;> simp at hv
    rename_i u us hu hus
    simp only [List.map_cons, pvs, escPV_toV h hu, escPVs_toV h hus, hv]
theorem escSV_toV {L L' : Nat → Option LocE} {ks : List Nat} (h : ∀ k e, L k = some e → memB k ks = false → ∃ e', L' k = some e' ∧ e'.b = e.b) {x : SV} {v : Value} (hv : x.toV L = some v) : (escSV L ks x).toV L' = some v := by
  cases x with
  | none => exact hv
  | undef => exact hv
  | pv p => exact escPV_toV h hv
  | tup vs =>
    simp only [SV.toV] at hv
    split at hv <;> simp at hv
    rename_i us hus
    simp only [escSV, SV.toV, escPVs_toV h hus, hv]

theorem esc_sim {C : Cfg} {s : SS} {a : Act} {wp w : World} (hS : Sim C s a wp w) (ks : List Nat) : Sim C { s.esc ks with ws := none, xs := [] } a w w ∧ (s.esc ks).ro = s.ro ∧ (∀ k e, (s.esc ks).L k = some e → ∃ e', s.L k = some e' ∧ e'.b = e.b) := by
  obtain ⟨hsl, hn, hd, ⟨hmem, hinj, hlow, hkept, hbel, hbase, hmu, hwx, hws, hxs⟩⟩ := hS
  cases ks with
  | nil => exact ⟨⟨hsl, hn, hd, WSim.now (s := { s with ws := none, xs := [] }) hmem hinj hlow hbel hbase hmu rfl rfl⟩, rfl, fun k e he => ⟨e, he, rfl⟩⟩
  | cons x xs =>
    have hb : ∀ k e, (s.esc (x :: xs)).L k = some e → ∃ e', s.L k = some e' ∧ e.b = e'.b ∧ e.T = e'.T ∧ e.cells = e'.cells.map (escLf s.L (x :: xs)) := fun k e he => by
      simp only [SS.esc] at he
      cases hk : memB k (x :: xs) <;> simp only [hk, cond_true, cond_false, reduceCtorEq] at he
      split at he <;> simp at he
      rename_i e' he'
      subst he
      exact ⟨e', he', rfl, rfl, rfl⟩
    have hf : ∀ k e, s.L k = some e → memB k (x :: xs) = false → ∃ e', (s.esc (x :: xs)).L k = some e' ∧ e'.b = e.b := fun k e he hk => by
      exact ⟨{ e with cells := e.cells.map (escLf s.L (x :: xs)) }, by simp only [SS.esc, hk, he, cond_false], rfl⟩
    refine ⟨⟨fun d hd0 => ?_, hn, hd.step (fun k e he => (by obtain ⟨e', h1, h2, _⟩ := hb k e he; rw [h2]; exact hd.dj k e' h1)) (.refl _) fun _ _ => rfl, WSim.now (s := { s.esc (x :: xs) with ws := none, xs := [] }) (fun k e he => ?_) (fun k k' e e' he he' hbb => ?_) (fun k e he => ?_) hbel hbase hmu rfl rfl⟩, rfl, fun k e he => ?_⟩
    · have hne : s.sl d ≠ .none := fun e => hd0 (by simp [SS.esc, e, escSV])
      obtain ⟨v, h1, h2⟩ := hsl d hne
      exact ⟨v, escSV_toV hf h1, h2⟩
    · obtain ⟨e', h1, h2, h3, h4⟩ := hb k e he
      obtain ⟨vs, h5, h6⟩ := hmem k e' h1
      exact ⟨vs, by rw [h4]; exact escLfs_toVs hf h5, by rw [h2, h3]; exact h6⟩
    · obtain ⟨e1, h1, h2, _⟩ := hb k e he
      obtain ⟨e2, h3, h4, _⟩ := hb k' e' he'
      exact hinj k k' e1 e2 h1 h3 (by rw [← h2, ← h4, hbb])
    · obtain ⟨e1, h1, h2, _⟩ := hb k e he
      rw [h2]; exact hlow k e1 h1
    · obtain ⟨e1, h1, h2, _⟩ := hb k e he
      exact ⟨e1, h1, h2.symm⟩


theorem escLf_id {L : Nat → Option LocE} {ks : List Nat} {l : Lf} (h : ∀ k, k ∈ lfKeys [l] → memB k ks = false) : escLf L ks l = l := by
  cases l <;> try rfl
  · rename_i k o; simp [escLf, h k (by simp [lfKeys])]
  · rename_i k o n c; simp [escLf, h k (by simp [lfKeys])]
theorem escLfs_id {L : Nat → Option LocE} {ks : List Nat} : ∀ {l : List Lf}, (∀ k, k ∈ lfKeys l → memB k ks = false) → l.map (escLf L ks) = l
  | [], _ => rfl
  | x :: r, h => by
    have e : lfKeys (x :: r) = lfKeys [x] ++ lfKeys r := lfKeys_append [x] r
    rw [List.map_cons, escLf_id fun k hk => h k (by rw [e]; simp [hk]), escLfs_id fun k hk => h k (by rw [e]; simp [hk])]
theorem escPV_id {L : Nat → Option LocE} {ks : List Nat} {p : PV} (h : ∀ k, k ∈ lfKeys p.cells → memB k ks = false) : escPV L ks p = p := by
  cases p with
  | one l => simp only [escPV, escLf_id h]
  | agg cs => simp only [escPV]; rw [escLfs_id (l := cs) h]
theorem escSV_id {L : Nat → Option LocE} {ks : List Nat} {v : SV} (h : ∀ k, k ∈ v.keys → memB k ks = false) : escSV L ks v = v := by
  cases v with
  | none => rfl
  | undef => rfl
  | pv p => simp only [escSV, escPV_id h]
  | tup vs =>
    simp only [escSV]
    congr 1
    simp only [SV.keys, SV.lfs] at h
    induction vs with
    | nil => rfl
    | cons p r ih =>
      simp only [List.flatMap_cons, lfKeys_append, List.mem_append] at h
      rw [List.map_cons, escPV_id fun k hk => h k (.inl hk), ih fun k hk => h k (.inr hk)]

theorem esc_gh {s : SS} {ks : List Nat} : GhE s (s.esc ks) := by cases ks <;> exact ⟨rfl, rfl, rfl, rfl, rfl⟩

theorem WSim.congr {C : Cfg} {s s' : SS} {wp w : World} (h : WSim C s wp w) (hL : s'.L = s.L) (hr : s'.ro = s.ro) (hw : s'.ws = s.ws) (hx : s'.xs = s.xs) : WSim C s' wp w := by
  obtain ⟨a1, a2, a3, a4, a5, a6, a7, a8, a9, a10⟩ := h
  have hl : locs C s' = locs C s := by simp [locs, hL]
  exact ⟨fun k e he => by rw [hL] at he ⊢; exact a1 k e he, by rw [hL]; exact a2, by rw [hL]; exact a3, by rw [hl]; exact a4, a5, a6, by rw [hr]; exact a7, by rw [hw, hx]; exact a8, by rw [hw, hl]; exact a9, by rw [hx, hl]; exact a10⟩

theorem esc_fr {C : Cfg} {s : SS} {a : Act} {wp w : World} {p : Nat → Prop} {ks : List Nat} (h : escOk C s ks = true) (hS : Sim C s a wp w) : FrO C.muts p s (s.esc ks) := by
  cases ks with
  | nil => exact .refl _ _ _
  | cons x xs =>
    simp only [escOk, Bool.and_eq_true] at h
    obtain ⟨h, h'⟩ := h
    have hk : ∀ k, (s.ro k = true ∨ k ∈ C.muts) → memB k (x :: xs) = false := fun k hp => by
      cases hm : memB k (x :: xs)
      · rfl
      · have := List.all_eq_true.1 h k (memB_spec.1 hm)
        simp only [Bool.and_eq_true, Bool.not_eq_true'] at this
        rcases hp with hp | hp
        · rw [hp] at this; cases this.1
        · rw [memB_spec.2 hp] at this; cases this.2
    refine ⟨fun d _ hp => ?_, fun k e he hp => ?_, rfl, .of ⟨rfl, rfl, rfl⟩ rfl rfl⟩
    · exact escSV_id fun k hk' => hk k (hp k hk')
    · refine ⟨{ e with cells := e.cells.map (escLf s.L (x :: xs)) }, by simp only [SS.esc, hk k hp, he, cond_false], rfl, rfl, fun hr => ?_⟩
      have h1 := List.all_eq_true.1 h' k (List.mem_range.2 (hS.w.low k e he).2)
      simp only [he, hr, Bool.not_true, Bool.false_or] at h1
      rw [escLfs_id fun j hj => by have := List.all_eq_true.1 h1 j hj; simpa using this]

theorem sim_ro {C : Cfg} {s : SS} {a : Act} {wp w : World} {r : Nat → Bool} (hS : Sim C s a wp w) (hr : ∀ k, k ∈ C.muts → r k = false) : Sim C { s with ro := r } a wp w := by
  obtain ⟨b1, b2, b3, ⟨b4, b5, b6, b7, b8, b9, b10, b11, b12, b13⟩⟩ := hS
  exact ⟨b1, b2, b3, ⟨b4, b5, b6, b7, b8, b9, hr, b11, b12, b13⟩⟩


end Go.Vc
end
section
/- A range over a function: its conditions suffice. -/
namespace Go.Vc
open Go.RowKit

theorem CalmFrom.refl (B : Nat) (w : World) : CalmFrom B w w := ⟨rfl, rfl, rfl, Nat.le_refl _, fun _ _ h _ => h⟩
theorem CalmFrom.trans {B : Nat} {a b c : World} (h : CalmFrom B a b) (k : CalmFrom B b c) : CalmFrom B a c :=
  ⟨k.os.trans h.os, k.tape.trans h.tape, k.output.trans h.output, Nat.le_trans h.size k.size, fun i o hi hc => k.keep i o (h.keep i o hi hc) hc⟩
theorem CalmFrom.mono {B B' : Nat} {a b : World} (h : CalmFrom B a b) (hB : B' ≤ B) : CalmFrom B' a b :=
  ⟨h.os, h.tape, h.output, h.size, fun i o hi hc => h.keep i o hi (hc.imp id fun h => by omega)⟩
theorem CalmFrom.of_below {B : Nat} {w w' : World} (h : Below w.heap.size w w') : CalmFrom B w w' :=
  ⟨h.os, h.tape, h.output, h.size, fun k o hk _ => by rw [h.block k (lt_of_some hk)]; exact hk⟩
theorem CalmFrom.below {B : Nat} {w w' : World} (h : CalmFrom B w w') (hB : B ≤ w.heap.size) : Below B w w' :=
  ⟨h.os, h.tape, h.output, h.size, fun k hk => by
    cases ho : w.heap[k]? with
    | none => have := Array.getElem?_eq_none_iff.1 ho; omega
    | some o => exact h.keep k o ho (.inr hk)⟩
theorem CalmFrom.block {B : Nat} {w w' : World} (h : CalmFrom B w w') {k : Nat} (hk : k < B) (hs : k < w.heap.size) : w'.heap[k]? = w.heap[k]? := by
  rw [Array.getElem?_eq_getElem hs]
  exact h.keep k _ (Array.getElem?_eq_getElem hs) (.inr hk)
theorem CalmFrom.putObj {B : Nat} {w : World} {l : Nat} {o o' : Obj} (h : w.heap[l]? = some o) (hc : isCtl o = true) (hl : B ≤ l) : CalmFrom B w (w.putObj l o') :=
  ⟨rfl, rfl, rfl, by rw [World.putObj_size]; exact Nat.le_refl _, fun k x hk hx => by
    have hne : k ≠ l := fun e => by
      subst e
      rw [h] at hk; obtain rfl := Option.some.inj hk
      rcases hx with hx | hx
      · rw [hc] at hx; cases hx
      · omega
    rw [World.putObj_heap_other hne]; exact hk⟩

theorem CalmFrom.toX {G : Nat → Prop} {B : Nat} {w w' : World} (h : CalmFrom B w w') : CalmX G B w w' := ⟨h.os, h.tape, h.output, h.size, fun k o hk hc _ => h.keep k o hk hc⟩
theorem CalmX.mono {G : Nat → Prop} {B B' : Nat} {a b : World} (h : CalmX G B a b) (hB : B' ≤ B) : CalmX G B' a b :=
  ⟨h.os, h.tape, h.output, h.size, fun i o hi hc hg => h.keep i o hi (hc.imp id fun h => by omega) hg⟩
theorem CalmX.block {G : Nat → Prop} {B : Nat} {w w' : World} (h : CalmX G B w w') {k : Nat} (hk : k < B) (hs : k < w.heap.size) (hg : ¬ G k) : w'.heap[k]? = w.heap[k]? := by
  rw [Array.getElem?_eq_getElem hs]
  exact h.keep k _ (Array.getElem?_eq_getElem hs) (.inr hk) hg
theorem CalmX.below {G : Nat → Prop} {B : Nat} {w w' : World} (h : CalmX G B w w') (hB : B ≤ w.heap.size) (hg : ∀ b, G b → B ≤ b) : Below B w w' :=
  ⟨h.os, h.tape, h.output, h.size, fun k hk => h.block hk (by omega) fun hk' => by have := hg k hk'; omega⟩
theorem calmR.of {f : Bool} {G : Nat → Prop} {B : Nat} {w w' : World} (h : CalmFrom B w w') : calmR f G B w w' := by
  cases f
  · exact h
  · exact h.toX
theorem calmR.toX {f : Bool} {G : Nat → Prop} {B : Nat} {w w' : World} (h : calmR f G B w w') : CalmX G B w w' := by
  cases f
  · exact CalmFrom.toX h
  · exact h
theorem calmR.size {f : Bool} {G : Nat → Prop} {B : Nat} {w w' : World} (h : calmR f G B w w') : w.heap.size ≤ w'.heap.size := h.toX.size
theorem calmR.mono {f : Bool} {G : Nat → Prop} {B B' : Nat} {w w' : World} (h : calmR f G B w w') (hB : B' ≤ B) : calmR f G B' w w' := by
  cases f
  · exact CalmFrom.mono h hB
  · exact CalmX.mono h hB
/-- One change behind another: the blocks that may change now were not there at first, or may change already. -/
theorem calmR.trans {f : Bool} {G G' : Nat → Prop} {B : Nat} {a b c : World} (h : calmR f G B a b) (k : calmR f G' B b c) (hg : ∀ x, G' x → G x ∨ a.heap.size ≤ x) : calmR f G B a c := by
  cases f
  · exact CalmFrom.trans h k
  · have h' : CalmX G B a b := h
    have k' : CalmX G' B b c := k
    exact (⟨k'.os.trans h'.os, k'.tape.trans h'.tape, k'.output.trans h'.output, Nat.le_trans h'.size k'.size, fun i o hi hc hn => k'.keep i o (h'.keep i o hi hc hn) hc fun hx => by
      rcases hg i hx with h1 | h1
      · exact hn h1
      · have := lt_of_some hi; omega⟩ : CalmX G B a c)

theorem pureH_elim {C : Cfg} {w : World} {K : Prop} (h : pureH C w K) (hb : C.pure = true → Below C.base C.w0 w) : K := by
  unfold pureH at h
  split at h
  · rename_i hp; exact h (hb hp)
  · exact h

theorem leavesAt_L {s0 s s' : SS} {ks : List Nat} (h : s.L = s'.L) : leavesAt s0 s [] ks = leavesAt s0 s' [] ks := by
  have : ∀ ks, keyLeaves s0 s ks = keyLeaves s0 s' ks := by
    intro ks
    induction ks with
    | nil => rfl
    | cons k r ih => simp only [keyLeaves, ih, h]
  simp only [leavesAt, slotLeaves, this]

theorem exPVs_len {P : Program} : ∀ {ts : List TypeId} {K : List PV → Prop}, exPVs P ts K → ∃ l, l.length = ts.length ∧ K l
  | [], K, h => ⟨[], rfl, h⟩
  | t :: ts, K, h => by
    obtain ⟨p, h⟩ := exPV_elim h
    obtain ⟨l, h1, h2⟩ := exPVs_len h
    exact ⟨p :: l, by simp [h1], h2⟩

theorem pvs_length {L : Nat → Option LocE} : ∀ {l : List PV} {vs : List Value}, pvs L l = some vs → vs.length = l.length
  | [], vs, h => by simp [pvs] at h; subst h; rfl
  | p :: r, vs, h => by
    simp only [pvs] at h
    split at h <;> simp at h
    rename_i v us _ hus
    subst h
    simp [pvs_length hus]

theorem putAll_gh : ∀ {ps : List Nat} {l : List PV} {s : SS}, (putAll s ps l).L = s.L ∧ (putAll s ps l).ro = s.ro ∧ (putAll s ps l).ws = s.ws ∧ (putAll s ps l).xs = s.xs ∧ GhE s (putAll s ps l)
  | [], l, s => by simp [putAll, GhE.refl]
  | d :: ds, [], s => by simp [putAll, GhE.refl]
  | d :: ds, v :: vs, s => by
    obtain ⟨h1, h2, h3, h4, h5⟩ := putAll_gh (ps := ds) (l := vs) (s := { s with sl := upd s.sl d (.pv v) })
    simp only [putAll]
    exact ⟨h1, h2, h3, h4, ⟨h5.1, h5.2, h5.3, h5.4, h5.5⟩⟩

theorem putAll_slots {L : Nat → Option LocE} : ∀ {ps : List Nat} {l : List PV} {vs : List Value} {s : SS} {tm : Array Value} {n : Nat}, s.L = L → pvs L l = some vs → ps.length = l.length → (∀ d ∈ ps, d < n) → tm.size = n →
    (∀ d, s.sl d ≠ .none → ∃ v, (s.sl d).toV L = some v ∧ tm[d]? = some v) →
    ((ps.zip vs).foldl (fun t (x : Nat × Value) => t.setIfInBounds x.1 x.2) tm).size = n ∧
    ∀ d, (putAll s ps l).sl d ≠ .none → ∃ v, ((putAll s ps l).sl d).toV L = some v ∧ ((ps.zip vs).foldl (fun t (x : Nat × Value) => t.setIfInBounds x.1 x.2) tm)[d]? = some v
  | [], l, vs, s, tm, n, hL, hp, hlen, hn, ht, hs => by
    simp only [putAll, List.zip_nil_left, List.foldl_nil]
    exact ⟨ht, hs⟩
  | d :: ds, [], vs, s, tm, n, hL, hp, hlen, hn, ht, hs => by simp at hlen
  | d :: ds, p :: l, vs, s, tm, n, hL, hp, hlen, hn, ht, hs => by
    simp only [pvs] at hp
    split at hp <;> simp at hp
    rename_i v us hv hus
    subst hp
    simp only [putAll, List.zip_cons_cons, List.foldl_cons]
    refine putAll_slots (s := { s with sl := upd s.sl d (.pv p) }) hL hus (by simpa using hlen) (fun x hx => hn x (List.mem_cons_of_mem _ hx)) (by simpa using ht) fun k hk => ?_
    by_cases hkd : k = d
    · subst hkd
      simp only [upd_same]
      exact ⟨v, hv, by simp [ht, hn k List.mem_cons_self]⟩
    · simp only [upd_other _ _ hkd] at hk ⊢
      obtain ⟨u, h1, h2⟩ := hs k hk
      exact ⟨u, h1, by rw [Array.getElem?_setIfInBounds_ne fun e => hkd e.symm]; exact h2⟩

theorem foldl_zip {ps : Array Tmp} {vs : List Value} (tm : Array Value) : (ps.zip vs.toArray).foldl (fun t (x : Tmp × Value) => t.setIfInBounds x.1 x.2) tm = (ps.toList.zip vs).foldl (fun t (x : Nat × Value) => t.setIfInBounds x.1 x.2) tm := by
  rw [← Array.foldl_toList]
  simp

/-- Where the world has changed as far as only others can see. -/
theorem wsim_calm {C : Cfg} {s : SS} {wp w w' : World} {B : Nat} (h : WSim C s wp w) (hc : CalmFrom B w w') (hB : C.base ≤ B) (hw : s.ws = none) (hx : s.xs = []) : WSim C s w' w' := by
  obtain ⟨hmem, hinj, hlow, hkept, hbel, hbase, hmu, hwx, hws, hxs⟩ := h
  refine WSim.now (fun k e he => ?_) hinj hlow (fun hp => (hbel hp).trans ((hc.mono hB).below hbase)) (Nat.le_trans hbase hc.size) hmu hw hx
  obtain ⟨vs, h1, h2⟩ := hmem k e he
  exact ⟨vs, h1, hc.keep _ _ h2 (.inl rfl)⟩

theorem wsim_calmX {C : Cfg} {s : SS} {wp w w' : World} {B : Nat} {G : Nat → Prop} (h : WSim C s wp w) (hc : CalmX G B w w') (hB : C.base ≤ B) (hg : ∀ b, G b → B ≤ b) (hd : ∀ k e, s.L k = some e → ¬ G e.b) (hw : s.ws = none) (hx : s.xs = []) : WSim C s w' w' := by
  obtain ⟨hmem, hinj, hlow, hkept, hbel, hbase, hmu, hwx, hws, hxs⟩ := h
  refine WSim.now (fun k e he => ?_) hinj hlow (fun hp => (hbel hp).trans ((hc.mono hB).below hbase fun b hb => by have := hg b hb; omega)) (Nat.le_trans hbase hc.size) hmu hw hx
  obtain ⟨vs, h1, h2⟩ := hmem k e he
  exact ⟨vs, h1, hc.keep _ _ h2 (.inl rfl) (hd k e he)⟩

theorem WSim.left {C : Cfg} {s s' : SS} {w : World} (h : WSim C s w w) (hL : s'.L = s.L) (hr : ∀ k, k ∈ C.muts → s'.ro k = false) (hw : s'.ws = none) (hx : s'.xs = []) : WSim C s' w w :=
  WSim.now (fun k e he => by rw [hL] at he ⊢; exact h.mem k e he) (by rw [hL]; exact h.inj) (by rw [hL]; exact h.low) h.below h.hbase hr hw hx

/-- Between two rounds: as the function that holds the loop sees it. -/
structure Mid (C : Cfg) (s s0 : SS) (a : Act) (Gt : Nat → Prop) (s1 : SS) (w : World) : Prop where
  sim : Sim C s1 a w w
  fr : FrO C.muts (fun d => d ∈ ([] : List Nat)) s0 s1
  ge : GhE s s1
  w0 : s1.ws = none ∧ s1.xs = []
  sl : s1.sl = s.sl
  dj : ∀ k e, s1.L k = some e → ¬ Gt e.b

theorem Mid.calm {C : Cfg} {s s0 s1 : SS} {a : Act} {Gt Gt' : Nat → Prop} {w w' : World} {B : Nat} (h : Mid C s s0 a Gt s1 w) (hc : CalmFrom B w w') (hB : C.base ≤ B) (hg : ∀ b, s.gh b → b < B) (hgt : ∀ b, Gt' b → Gt b ∨ w.heap.size ≤ b) : Mid C s s0 a Gt' s1 w' := by
  obtain ⟨hS, hF, hG, hw, hsl, hdj⟩ := h
  refine ⟨⟨hS.sl, hS.n, hS.d.step hS.d.dj ⟨hc.os, hc.tape, hc.output, hc.size⟩ fun b hb => hc.block (hg b (by rw [← hG.gh]; exact hb)) (hS.d.gl b hb).2, wsim_calm hS.w hc hB hw.1 hw.2⟩, hF, hG, hw, hsl, fun k e he hb => ?_⟩
  rcases hgt _ hb with h1 | h1
  · exact hdj k e he h1
  · obtain ⟨vs, _, h2⟩ := hS.w.mem k e he
    have := lt_of_some h2
    omega

theorem Mid.calmX {C : Cfg} {s s0 s1 : SS} {a : Act} {Gt Gt' G : Nat → Prop} {w w' : World} {B : Nat} (h : Mid C s s0 a Gt s1 w) (hc : CalmX G B w w') (hB : C.base ≤ B) (hG : ∀ b, G b → B ≤ b ∧ Gt b) (hg : ∀ b, s.gh b → b < B) (hgt : ∀ b, Gt' b → Gt b ∨ w.heap.size ≤ b) : Mid C s s0 a Gt' s1 w' := by
  obtain ⟨hS, hF, hGe, hw, hsl, hdj⟩ := h
  refine ⟨⟨hS.sl, hS.n, hS.d.step hS.d.dj ⟨hc.os, hc.tape, hc.output, hc.size⟩ fun b hb => hc.block (hg b (by rw [← hGe.gh]; exact hb)) (hS.d.gl b hb).2 fun hx => by have := (hG b hx).1; have := hg b (by rw [← hGe.gh]; exact hb); omega, wsim_calmX hS.w hc hB (fun b hb => (hG b hb).1) (fun k e he hx => hdj k e he (hG _ hx).2) hw.1 hw.2⟩, hF, hGe, hw, hsl, fun k e he hb => ?_⟩
  rcases hgt _ hb with h1 | h1
  · exact hdj k e he h1
  · obtain ⟨vs, _, h2⟩ := hS.w.mem k e he
    have := lt_of_some h2
    omega

theorem FrO.gr {M : List Nat} {p : Nat → Prop} {s s1 s2 : SS} (h : FrO M p s s1) (hs : s2.sl = s1.sl) (hL : s2.L = s1.L) (hr : s2.ro = s1.ro) (hg : GhR s s2) : FrO M p s s2 :=
  ⟨fun d hd hp => by rw [hs]; exact h.sl d hd hp, fun k e he hp => by rw [hL]; exact h.L k e he hp, by rw [hr]; exact h.ro, hg⟩

def RecIs (rec : LoopState → Option Code → Loop) (fn : FuncId) (tmps : Array Value) (ps : Array Tmp) (assign body : Code) : Prop := ∃ d, ∀ st pe, rec st pe = { state := st, pending := pe, fn, tmps, params := ps, assign, body, defers := d }

def mkD (D : Nat) : Deferred := { target := .collected D, args := #[] }

theorem enter_loop {C : Cfg} {s : SS} {ds : List Deferred} {w : World} (hd : GhOk C.base s.L s.gh s.rf s.rnd s.pg s.pw ds w) (fn : FuncId) (tmps : Array Value) (ps : Array Tmp) (assign body : Code) :
    ∃ (l : Nat) (Dl : List Nat) (rec : LoopState → Option Code → Loop) (W1 : World), (Instr.enterLoop fn tmps ps assign body (WF s.rnd).round).run C.P w = .ok (l, Dl.map mkD) W1 ∧ Below w.heap.size w W1 ∧ W1.heap[l]? = some (.loop (rec .ready none)) ∧
      (∀ D ∈ Dl, W1.heap[D]? = some (.deferred (some [])) ∧ w.heap.size ≤ D ∧ D < W1.heap.size) ∧ Dl.Nodup ∧ l ∉ Dl ∧ w.heap.size ≤ l ∧ l < W1.heap.size ∧ RecIs rec fn tmps ps assign body := by
  cases hr : s.rnd with
  | none =>
    refine ⟨w.heap.size + 1, [w.heap.size], fun st pe => { state := st, pending := pe, fn, tmps, params := ps, assign, body, defers := w.heap.size }, _, run_enterLoop_outer fn tmps ps assign body, ((Below.refl _ w).alloc (Nat.le_refl _) _).alloc (by simp) _, ?_, ?_, by simp, by simp, by omega, by simp, ⟨_, fun _ _ => rfl⟩⟩
    · have := World.alloc_heap_new (w.alloc (.deferred (some []))) (.loop { state := .ready, pending := none, fn, tmps, params := ps, assign, body, defers := w.heap.size })
      rwa [World.size_alloc] at this
    · intro D hD
      obtain rfl := List.mem_singleton.1 hD
      exact ⟨(Below.heap_alloc _ _ _ (by simp)).trans (World.alloc_heap_new w _), Nat.le_refl _, by simp; omega⟩
  | some l0 =>
    obtain ⟨_, r0, h0⟩ := hd.rd l0 hr
    refine ⟨w.heap.size, [], fun st pe => { state := st, pending := pe, fn, tmps, params := ps, assign, body, defers := r0.defers }, _, run_enterLoop_inner h0 fn tmps ps assign body, (Below.refl _ w).alloc (Nat.le_refl _) _, World.alloc_heap_new w _, by simp, by simp, by simp, Nat.le_refl _, by simp, ⟨_, fun _ _ => rfl⟩⟩

def IterR (f : Bool) (P : Program) (gf : FuncId) (first cap : List Value) (N : Nat) (Y : Nat → List Value → World → Prop) (Inv : Nat → World → Prop) : Prop :=
  ∀ (l : Nat) (J Jx : (Nat → Prop) → Nat → World → Prop) (W : World),
    (∀ G k w G' w', J G k w → calmR f G W.heap.size w w' → (∀ b, G b → G' b) → (∀ b, G' b → G b ∨ w.heap.size ≤ b ∧ b < w'.heap.size) → J G' k w') →
    (∀ G k w G' w', Jx G k w → calmR f G W.heap.size w w' → (∀ b, G b → G' b) → (∀ b, G' b → G b ∨ w.heap.size ≤ b ∧ b < w'.heap.size) → Jx G' k w') →
    (∀ G k w, J G k w → Inv k w) →
    (∀ G k x w, J G k w → (∀ b, G b → W.heap.size ≤ b ∧ b < w.heap.size) → k < N → Y k x w → YieldAt Fence.wide 0 P l x.toArray w fun e w' =>
      ∃ t : Bool, e = .returned (.bool t) ∧ RoundKeeps G w w' ∧ (t = true → J G (k + 1) w') ∧ (t = false → Jx G (k + 1) w')) →
    J (fun _ => False) 0 W →
    Calls P gf (first ++ [Value.func (.yield l) #[] #[]] ++ cap).toArray W fun e W' => (∃ v, e = .returned v) ∧ ∃ G, J G N W' ∨ ∃ k, Jx G k W'
theorem iterR_y {f : Bool} {P : Program} {gf : FuncId} {first cap : List Value} {N : Nat} {Y : Nat → List Value → World → Prop} {Inv : World → Prop} (h : match f with | true => IterYX P gf first cap N Y Inv | false => IterY P gf first cap N Y Inv) : IterR f P gf first cap N Y (fun _ => Inv) := by
  cases f
  · exact h
  · exact h
theorem iterR_x {f : Bool} {P : Program} {gf : FuncId} {first cap : List Value} {xs : List (List Value)} {Inv : World → Prop} (h : match f with | true => IterX P gf first cap xs Inv | false => Iter P gf first cap xs Inv) : IterR f P gf first cap xs.length (fun k x _ => xs[k]? = some x) (fun _ => Inv) := by
  cases f
  · exact fun l J Jx W a b c d e => h l J Jx W a b c (fun G k x w j g hx => d G k x w j g (List.getElem?_eq_some_iff.1 hx).1 hx) e
  · exact fun l J Jx W a b c d e => h l J Jx W a b c (fun G k x w j g hx => d G k x w j g (List.getElem?_eq_some_iff.1 hx).1 hx) e

section
variable {C : Cfg} {g : Operand} {ps : Array Tmp} {assign body : Code}

theorem range_sound {K : Ex → SS → World → Prop} {s : SS} {a : Act} {wp w : World} {Q : Exit → Act → World → Prop} {pw : Nat → Prop}
    (ihA : ∀ {K : Ex → SS → World → Prop} {s : SS} {a : Act} {wp w : World} {Q : Exit → Act → World → Prop} (r : Option Nat), s.rnd = r → vc C assign K s wp → Sim C s a wp w →
      (∀ e s' a' w' wp', K e s' wp' → Sim C s' a' wp' w' → FrO C.muts (fun _ => True) s s' → Q e.to a' w') → assign.wpIn (WF r) 0 C.P Q a w)
    (ihB : ∀ {K : Ex → SS → World → Prop} {s : SS} {a : Act} {wp w : World} {Q : Exit → Act → World → Prop} (r : Option Nat), s.rnd = r → vc C body K s wp → Sim C s a wp w →
      (∀ e s' a' w' wp', K e s' wp' → Sim C s' a' wp' w' → FrO C.muts (fun _ => True) s s' → Q e.to a' w') → body.wpIn (WF r) 0 C.P Q a w)
    (h : rangeVC C g ps.toList (fun K => vc C assign K) (fun K => vc C body K) K s wp) (hS : Sim C s a wp w)
    (hk : ∀ e s' a' w' wp', K e s' wp' → Sim C s' a' wp' w' → FrO C.muts pw s s' → Q e.to a' w') : (Code.rangeFunc g ps assign body).wpIn (WF s.rnd) 0 C.P Q a w := by
  have hE := evOk_of_sim hS.sl
  obtain ⟨yb, ls0, gf, first, cap, keys, hls0, hg, h⟩ : ∃ yb ls0 gf first cap keys, leavesAt (s.lock C.muts) (s.lock C.muts) [] C.muts = some ls0 ∧ a.eval g = .func (.func gf) first.toArray cap.toArray ∧ rangeB yb C gf first cap keys ls0 ps.toList (fun K => vc C assign K) (fun K => vc C body K) K s wp := by
    simp only [rangeVC] at h
    split at h
    · rename_i ls0 gf first cap keys hls0 hev
      exact ⟨false, ls0, gf, first, cap, keys, hls0, hE.get (by rw [hev]; rfl), h⟩
    · rename_i ls0 v hls0 hev
      split at h
      · rename_i g0 _
        obtain ⟨cap, rfl, h⟩ := h
        exact ⟨true, ls0, g0, [], cap, [], hls0, hE.get (by rw [hev]; rfl), h⟩
      · exact h.elim
    · exact h.elim
    · exact h.elim
  simp only [rangeB] at h
  cases hcl : callOk C.P gf <;> simp only [hcl, Bool.not_true, Bool.not_false, cond_true, cond_false] at h
  · exact h.elim
  split at h
  rotate_left
  · exact h.elim
  rename_i ts hts
  cases hpl : (Nat.beq ts.length ps.toList.length && ps.toList.all fun d => Nat.blt d C.n) <;> simp only [hpl, Bool.not_true, Bool.not_false, cond_true, cond_false] at h
  · exact h.elim
  simp only [Bool.and_eq_true, List.all_eq_true] at hpl
  have hlen := Nat.eq_of_beq_eq_true hpl.1
  have hpn : ∀ d ∈ ps.toList, d < C.n := fun d hd => by simpa [Nat.blt_eq] using hpl.2 d hd
  obtain ⟨N, Y, pre, fin, I, Inv, hIter, hpre, hfin, h⟩ : ∃ (N : Nat) (Y : Nat → List Value → World → Prop) (pre : Nat → List Value → World → Prop → Prop) (fin : Nat → Prop → Prop) (I : (Nat → Prop) → List Lf → Nat → World → Prop) (Inv : Nat → World → Prop),
      IterR C.ownIt C.P gf first cap N Y Inv ∧ (∀ k x w Q, pre k x w Q → k < N → Y k x w → Q) ∧ (∀ k Q, fin k Q → k = N → Q) ∧ rangeR C keys ls0 ts ps.toList (fun K => vc C assign K) (fun K => vc C body K) K s wp pre fin I Inv := by
    cases yb <;> simp only at h
    · obtain ⟨xs, I, Inv, h1, h2⟩ := h
      exact ⟨xs.length, fun k x _ => xs[k]? = some x, _, _, I, fun _ => Inv, iterR_x h1, fun k x w Q hq _ hx => hq hx, fun k Q hq => hq, h2⟩
    · cases hK : hasKey C.joins 13000000 && !C.ownIt <;> simp only [hK] at h
      · obtain ⟨N, Y, I, Inv, h1, h2⟩ := h
        exact ⟨N, Y, _, _, I, fun _ => Inv, iterR_y h1, fun k x w Q hq => hq, fun k Q hq => hq, h2⟩
      · obtain ⟨N, Y, I, Inv, h1, h2⟩ := h
        have hf : C.ownIt = false := by
          cases ho : C.ownIt
          · rfl
          · rw [ho] at hK; simp at hK
        exact ⟨N, Y, _, _, I, Inv, by rw [hf]; exact h1, fun k x w Q hq => hq, fun k Q hq => hq, h2⟩
  simp only [rangeR] at h
  generalize hs0 : s.lock C.muts = s0 at h hls0
  obtain ⟨hI0, hrounds⟩ := h
  have hI0 := withLoc_elim hS.w.mem (expo_elim hI0 hS.w)
  have hcall := callOk_run hcl
  -- the state at the head
  have hsl0 : s0.sl = s.sl := by rw [← hs0]; rfl
  have hL0 : s0.L = s.L := by rw [← hs0]; rfl
  have hge0 : GhE s s0 := by rw [← hs0]; exact ⟨rfl, rfl, rfl, rfl, rfl⟩
  have hmu0 : ∀ k, k ∈ C.muts → s0.ro k = false := fun k hk => by
    rw [← hs0]; simp [SS.lock, memB_spec.2 hk, hS.w.mu k hk]
  have hro0 : ∀ k e, s0.L k = some e → k ∉ C.muts → s0.ro k = true := fun k e he hk => by
    rw [← hs0] at he ⊢
    have hm : memB k C.muts = false := by cases h : memB k C.muts; rfl; exact absurd (memB_spec.1 h) hk
    have : hasL s.L k = true := by unfold hasL; rw [show s.L k = some e from he]
    simp [SS.lock, hm, this]
  have hws0 : s0.ws = none ∧ s0.xs = [] := by rw [← hs0]; exact ⟨rfl, rfl⟩
  have hS0 : Sim C s0 a w w := by
    refine ⟨fun d hd => ?_, hS.n, ?_, ?_⟩
    · rw [hsl0] at hd ⊢; rw [hL0]; exact hS.sl d hd
    · rw [hL0, hge0.gh, hge0.rf, hge0.rnd, hge0.pg, hge0.pw]; exact hS.d
    · exact WSim.now (fun k e he => by rw [hL0] at he ⊢; exact hS.w.mem k e he) (by rw [hL0]; exact hS.w.inj) (by rw [hL0]; exact hS.w.low) hS.w.below hS.w.hbase hmu0 hws0.1 hws0.2
  have hv0 : ∀ d, s0.sl d ≠ .none → ∃ v, (s0.sl d).toV s0.L = some v := fun d hd => by obtain ⟨v, h1, _⟩ := hS0.sl d hd; exact ⟨v, h1⟩
  have hm0 : ∀ k e, s0.L k = some e → ∃ vs, toVs s0.L e.cells = some vs := fun k e he => by obtain ⟨vs, h1, _⟩ := hS0.w.mem k e he; exact ⟨vs, h1⟩
  refine wpIn_rangeFunc fun fn _ => ?_
  obtain ⟨l, Dl, rec, W1, hrun, hbel1, hrec1, hD1, hnd, hlD, hl0, hl1, dD, hrecIs⟩ := enter_loop hS.d fn a.tmps ps assign body
  have hbase := hS.w.hbase
  have hcs : CalmFrom C.base w W1 := .of_below hbel1
  have hB1 : w.heap.size ≤ W1.heap.size := hbel1.size
  -- the blocks that are not the body's own
  obtain ⟨Gt, hGt⟩ : ∃ Gt : (Nat → Prop) → Nat → Prop, Gt = fun G b => s.gh b ∨ b = l ∨ b ∈ Dl ∨ G b := ⟨_, rfl⟩
  have hgs : ∀ b, s.gh b → b < w.heap.size := fun b hb => (hS.d.gl b hb).2
  have hsub0 : ∀ G b, s.gh b → Gt G b := fun G b hb => by rw [hGt]; exact .inl hb
  have hlow : ∀ G (W : World), (∀ b, G b → W1.heap.size ≤ b ∧ b < W.heap.size) → W1.heap.size ≤ W.heap.size → ∀ b, Gt G b → C.base ≤ b ∧ b < W.heap.size := fun G W hG hW b hb => by
    rw [hGt] at hb
    rcases hb with hb | rfl | hb | hb
    · have := (hS.d.gl b hb); omega
    · omega
    · have := (hD1 b hb).2; omega
    · have := hG b hb; omega
  let J : (Nat → Prop) → Nat → World → Prop := fun G k W => W.heap[l]? = some (.loop (rec .ready none)) ∧ (∀ D ∈ Dl, W.heap[D]? = some (.deferred (some []))) ∧ W1.heap.size ≤ W.heap.size ∧ (∀ b, G b → W1.heap.size ≤ b ∧ b < W.heap.size) ∧
    ∃ s1 ls w0 G0, leavesAt s0 s1 [] C.muts = some ls ∧ I G0 ls k w0 ∧ calmR C.ownIt G0 C.base w0 W ∧ (∀ b, G0 b → Gt G b) ∧ (∀ b, Gt G b → G0 b ∨ w0.heap.size ≤ b) ∧ Mid C s s0 a (Gt G) s1 W
  let Jx : (Nat → Prop) → Nat → World → Prop := fun G k W => ∃ (e : Ex) (c : Code), ((e = .ret ∧ c = .ret) ∨ ∃ i, e = .exit i ∧ c = .exit i) ∧ W.heap[l]? = some (.loop (rec .done (some c))) ∧ (∀ D ∈ Dl, W.heap[D]? = some (.deferred (some []))) ∧ W1.heap.size ≤ W.heap.size ∧ (∀ b, G b → W1.heap.size ≤ b ∧ b < W.heap.size) ∧
    ∃ (s1 s5 : SS) (w5 : World) (G5 : Nat → Prop), (∀ (G' : Nat → Prop) (w6 : World), calmR C.ownIt G5 C.base w5 w6 → (∀ b, G5 b → G' b) → K e (s5.left s G') w6) ∧ calmR C.ownIt G5 C.base w5 W ∧ (∀ b, G5 b → Gt G b) ∧ (∀ b, Gt G b → G5 b ∨ w5.heap.size ≤ b) ∧ Mid C s s0 a (Gt G) s1 W ∧ s5.L = s1.L
  have stepG : ∀ (G G' : Nat → Prop) (W W' : World), W1.heap.size ≤ W.heap.size → W.heap.size ≤ W'.heap.size → (∀ b, G b → W1.heap.size ≤ b ∧ b < W.heap.size) → (∀ b, G' b → G b ∨ W.heap.size ≤ b ∧ b < W'.heap.size) → ∀ b, G' b → W1.heap.size ≤ b ∧ b < W'.heap.size := fun G G' W W' h1 h2 h3 h4 b hb => by
    rcases h4 b hb with h | h
    · have := h3 b h; omega
    · omega
  have gtMono : ∀ (G G' : Nat → Prop), (∀ b, G b → G' b) → ∀ b, Gt G b → Gt G' b := fun G G' hs b hb => by
    rw [hGt] at hb ⊢
    rcases hb with hb | hb | hb | hb
    · exact .inl hb
    · exact .inr (.inl hb)
    · exact .inr (.inr (.inl hb))
    · exact .inr (.inr (.inr (hs b hb)))
  have gtNew : ∀ (G G' : Nat → Prop) (W W' : World), (∀ b, G' b → G b ∨ W.heap.size ≤ b ∧ b < W'.heap.size) → ∀ b, Gt G' b → Gt G b ∨ W.heap.size ≤ b := fun G G' W W' hs b hb => by
    rw [hGt] at hb ⊢
    rcases hb with hb | hb | hb | hb
    · exact .inl (.inl hb)
    · exact .inl (.inr (.inl hb))
    · exact .inl (.inr (.inr (.inl hb)))
    · rcases hs b hb with hb | hb
      · exact .inl (.inr (.inr (.inr hb)))
      · exact .inr hb.1
  -- what the conditions say where another round may come
  have head : ∀ {G : Nat → Prop} {k : Nat} {W : World}, J G k W → ∀ {W' : World}, CalmFrom C.base W W' → W1.heap.size ≤ W'.heap.size → (∀ b, G b → W1.heap.size ≤ b ∧ b < W'.heap.size) → (∀ b, s.gh b → W'.heap[b]? = W.heap[b]?) → (∀ b, Gt G b → C.base ≤ b ∧ b < W'.heap.size) ∧
      ∃ s2, GhE s0 s2 ∧ (s2.ws = none ∧ s2.xs = []) ∧ SimS s2 a ∧ WSim C s2 W' W' ∧ (∀ k e, s2.L k = some e → ¬ Gt G e.b) ∧ FrO C.muts (fun d => d ∈ ([] : List Nat)) s0 s2 ∧ s2.sl = s.sl ∧ GhOk C.base s2.L s.gh s.rf s.rnd s.pg s.pw a.defers W' ∧
        Inv k W' ∧ (∀ x, pre k x W' (exPVs C.P ts fun pl => match pvs s2.L pl with
              | some vs => x = vs ∧ ∀ (rl : Nat) (rw : World),
                  vc C assign (fun e s3 wp3 => match e with
                    | .normal => expo C s3 wp3 fun w3 => ∀ w4, CalmFrom C.base w3 w4 → ∀ rw' : World, vc C body (fun e s5 wp5 => match e with
                      | .normal => match leavesAt s0 s5 [] C.muts with
                        | some ls' => expo C s5 wp5 fun w5 => I (Gt G) ls' (k + 1) w5
                        | none => Unsup "a round ends in another shape"
                      | e => expo C s5 wp5 fun w5 => ∀ (G' : Nat → Prop) (w6 : World), calmR C.ownIt (Gt G) C.base w5 w6 → (∀ b, Gt G b → G' b) → K e (s5.left s G') w6) { s3 with ws := none, xs := [], pw := rw' } w4
                    | _ => Unsup "an assignment to the variables of a range") (putAll { s2 with gh := Gt G, rf := false, rnd := some rl, pg := Gt G, pw := rw } ps.toList pl) W'
              | none => Unsup "what is yielded")) ∧ fin k (K .normal (s2.left s (Gt G)) W') := by
    intro G k W hJ W' hc hsz hGb hgk
    obtain ⟨j1, j2, j3, j4, s1, ls, w0, G0, j5, j6, j7, j8, j9, j10⟩ := hJ
    have hGl := hlow G W' hGb hsz
    have hM : Sim C s1 a W' W' := ⟨j10.sim.sl, j10.sim.n, j10.sim.d.step j10.sim.d.dj ⟨hc.os, hc.tape, hc.output, hc.size⟩ fun b hb => hgk b (by rw [← j10.ge.gh]; exact hb), wsim_calm j10.sim.w hc (Nat.le_refl _) j10.w0.1 j10.w0.2⟩
    obtain ⟨s2, q1, q2, q3, q4, q5, q6, q7⟩ := head_sound hv0 hm0 j10.fr hro0 hmu0 hM j5 hws0.1 hws0.2 hrounds
    have hF := q1 k G0 (Gt G) w0 W' j6 (j7.trans (G' := fun _ => False) (.of hc) fun x hx => hx.elim) j8 j9 hGl
    have hF' := pureH_elim hF q5.below
    have hsl2 : s2.sl = s.sl := by
      funext d
      by_cases hd : s0.sl d = .none
      · rw [← hsl0, hd]
        have := q7.sl d (by simp) (fun k hk => by rw [hd] at hk; simp [SV.keys, SV.lfs, lfKeys] at hk)
        rw [this, hd]
      · obtain ⟨v, hv⟩ := hv0 d hd
        rw [← hsl0]
        refine q7.sl d (by simp) fun k hk => ?_
        obtain ⟨e, he⟩ := keys_have hv k hk
        by_cases hk' : k ∈ C.muts
        · exact .inr hk'
        · exact .inl (hro0 k e he hk')
    refine ⟨hGl, s2, q2, q3, q4, q5, fun k e he hb => ?_, q7, hsl2, ?_, hF'.1, hF'.2.1, hF'.2.2⟩
    · obtain ⟨e', h1, h2⟩ := q6 k e he
      exact j10.dj k e' h1 (by rw [h2]; exact hb)
    · have := hM.d
      rw [j10.ge.gh, j10.ge.rf, j10.ge.rnd, j10.ge.pg, j10.ge.pw] at this
      refine this.step (fun k e he => ?_) (.refl _) fun _ _ => rfl
      obtain ⟨e', h1, h2⟩ := q6 k e he
      rw [← h2]; exact this.dj k e' h1
  have hcallIter := hIter l J Jx W1 (fun G k W G' W' hJ hc hsub hnew => ?stabJ) (fun G k W G' W' hJ hc hsub hnew => ?stabX) (fun G k W hJ => ?inv) (fun G k x W hJ hG hkN hx => ?round) ?start
  case stabJ =>
    obtain ⟨j1, j2, j3, j4, s1, ls, w0, G0, j5, j6, j7, j8, j9, j10⟩ := hJ
    have hlt := lt_of_some j1
    have hx := hc.toX
    have gG : ∀ b, G b → Gt G b := fun b hb => by rw [hGt]; exact .inr (.inr (.inr hb))
    refine ⟨hx.keep _ _ j1 (.inr hl1) (fun h => by have := (j4 _ h).1; omega), fun D hD => hx.keep _ _ (j2 D hD) (.inr (hD1 D hD).2.2) (fun h => by have := (j4 _ h).1; have := (hD1 D hD).2.2; omega), Nat.le_trans j3 hc.size, stepG G G' W W' j3 hc.size j4 hnew, s1, ls, w0, G0, j5, j6, j7.trans (hc.mono (by omega)) (fun x hx => j9 x (gG x hx)), fun b hb => gtMono G G' hsub b (j8 b hb), fun b hb => ?_, j10.calmX hx (by omega) (fun b hb => ⟨(j4 b hb).1, gG b hb⟩) (fun b hb => by have := hgs b hb; omega) (gtNew G G' W W' hnew)⟩
    rcases gtNew G G' W W' hnew b hb with h | h
    · exact j9 b h
    · right; have := j7.size; omega
  case stabX =>
    obtain ⟨e, c, hec, j1, j2, j3, j4, s1, s5, w5, G5, j5, j6, g5a, g5b, j7, j8⟩ := hJ
    have hx := hc.toX
    have gG : ∀ b, G b → Gt G b := fun b hb => by rw [hGt]; exact .inr (.inr (.inr hb))
    refine ⟨e, c, hec, hx.keep _ _ j1 (.inr hl1) (fun h => by have := (j4 _ h).1; omega), fun D hD => hx.keep _ _ (j2 D hD) (.inr (hD1 D hD).2.2) (fun h => by have := (j4 _ h).1; have := (hD1 D hD).2.2; omega), Nat.le_trans j3 hc.size, stepG G G' W W' j3 hc.size j4 hnew, s1, s5, w5, G5, j5, j6.trans (hc.mono (by omega)) (fun x hx => g5b x (gG x hx)), fun b hb => gtMono G G' hsub b (g5a b hb), fun b hb => ?_, j7.calmX hx (by omega) (fun b hb => ⟨(j4 b hb).1, gG b hb⟩) (fun b hb => by have := hgs b hb; omega) (gtNew G G' W W' hnew), j8⟩
    rcases gtNew G G' W W' hnew b hb with h | h
    · exact g5b b h
    · right; have := j6.size; omega
  case start =>
    refine ⟨hrec1, fun D hD => (hD1 D hD).1, Nat.le_refl _, fun b hb => hb.elim, s0, ls0, w, s.gh, hls0, hI0, .of hcs, hsub0 _, fun b hb => ?_, ?_⟩
    · rw [hGt] at hb
      rcases hb with hb | rfl | hb | hb
      · exact .inl hb
      · exact .inr hl0
      · exact .inr (hD1 b hb).2.1
      · exact hb.elim
    · refine Mid.calm (Gt := s.gh) (B := w.heap.size) ⟨hS0, .refl _ _ _, hge0, hws0, hsl0, fun k e he => ?_⟩ (.of_below hbel1) (by omega) (fun b hb => by have := hgs b hb; omega) fun b hb => ?_
      · rw [hL0] at he; exact hS.d.dj k e he
      · rw [hGt] at hb
        rcases hb with hb | rfl | hb | hb
        · exact .inl hb
        · exact .inr hl0
        · exact .inr (hD1 b hb).2.1
        · exact hb.elim
  case inv =>
    obtain ⟨_, s2, _, _, _, _, _, _, _, _, hInv, _⟩ := head hJ (.refl _ _) hJ.2.2.1 hJ.2.2.2.1 fun _ _ => rfl
    exact hInv
  case round =>
    obtain ⟨hGl, s2, q2, q3, q4, q5, hdj2, q7, hsl2, hgo2, _, hround, _⟩ := head hJ (.refl _ _) hJ.2.2.1 hJ.2.2.2.1 fun _ _ => rfl
    have hJ' := hJ
    obtain ⟨j1, j2, j3, j4, -⟩ := hJ'
    obtain ⟨pl, hpll, hx'⟩ := exPVs_len (hpre _ _ _ _ (hround x) hkN hx)
    split at hx'
    rotate_left
    · exact hx'.elim
    rename_i vs hvs
    obtain ⟨rfl, hx'⟩ := hx'
    have hasg := hx' l W
    have hlx : x.toArray.size = (rec .ready none).params.size := by
      rw [hrecIs]; simp only [List.size_toArray]
      rw [pvs_length hvs, hpll, hlen]; simp
    have hy := run_yield (P := C.P) j1 hlx
    rw [hrecIs] at hy
    refine ⟨fn, _, assign, body, hy, roundIn_of_wpIn (F := Fence.wide) trivial ?_⟩
    rw [foldl_zip]
    obtain ⟨hps1, hps2⟩ := putAll_slots (L := s2.L) (ps := ps.toList) (l := pl) (vs := x) (s := { s2 with gh := Gt G, rf := false, rnd := some l, pg := Gt G, pw := W }) (tm := a.tmps) rfl hvs (by rw [hpll, hlen]) hpn hS.n q4
    obtain ⟨pg1, pg2, pg3, pg4, pg5⟩ := putAll_gh (ps := ps.toList) (l := pl) (s := { s2 with gh := Gt G, rf := false, rnd := some l, pg := Gt G, pw := W })
    have hSr : Sim C (putAll { s2 with gh := Gt G, rf := false, rnd := some l, pg := Gt G, pw := W } ps.toList pl) { tmps := (ps.toList.zip x).foldl (fun t (y : Nat × Value) => t.setIfInBounds y.1 y.2) a.tmps, defers := [] } W W := by
      refine ⟨fun d hd => ?_, hps1, ?_, q5.congr pg1 pg2 pg3 pg4⟩
      · rw [pg1]; exact hps2 d hd
      · rw [pg1, pg5.gh, pg5.rf, pg5.rnd, pg5.pg, pg5.pw]
        refine ⟨.refl _, fun b hb => ⟨hb, rfl⟩, hdj2, hGl, fun l' hl' => ?_, [], .nil, rfl, fun _ => rfl, by simp⟩
        obtain rfl := Option.some.inj hl'
        exact ⟨by rw [hGt]; exact .inr (.inl rfl), _, j1⟩
    have hgl : Gt G l := by rw [hGt]; exact .inr (.inl rfl)
    refine ihA (some l) (by rw [pg5.rnd]) hasg hSr fun e s3 a3 w3 wp3 hK3 hS3 hF3 => ?_
    cases e with
    | exit i => exact hK3.elim
    | ret => exact hK3.elim
    | normal =>
    have g3 := hF3.g
    have hp3 : s3.pg = Gt G ∧ s3.pw = W ∧ s3.rnd = some l := ⟨by rw [g3.rnd.2.1, pg5.pg], by rw [g3.rnd.2.2, pg5.pw], by rw [g3.rnd.1, pg5.rnd]⟩
    have hd3 := hS3.d
    rw [hp3.1, hp3.2.1, hp3.2.2] at hd3
    have hr3 : w3.heap[l]? = some (.loop (rec .ready none)) := by rw [(hd3.pn l hgl).2]; exact j1
    have hbr := run_beginRound (P := C.P) hr3 (by rw [hrecIs])
    refine ⟨_, hbr, ?_⟩
    obtain ⟨W4, hW4⟩ : ∃ W4, w3.putObj l (.loop { rec .ready none with state := .busy }) = W4 := ⟨_, rfl⟩
    rw [hW4]
    have hr4 : W4.heap[l]? = some (.loop { rec .ready none with state := .busy }) := by rw [← hW4]; exact World.putObj_heap_same (lt_of_some hr3)
    have hc34 : CalmFrom C.base w3 W4 := by rw [← hW4]; exact .putObj hr3 rfl (by omega)
    have ho34 : ∀ b, b ≠ l → W4.heap[b]? = w3.heap[b]? := fun b hb => by rw [← hW4]; exact World.putObj_heap_other hb
    have hs34 : W4.heap.size = w3.heap.size := by rw [← hW4]; exact World.putObj_size
    have hbd := (expo_elim hK3 hS3.w) W4 hc34 W4
    have hS4 : Sim C { s3 with ws := none, xs := [], pw := W4 } a3 W4 W4 := by
      refine ⟨hS3.sl, hS3.n, ?_, ?_⟩
      · show GhOk C.base s3.L s3.gh s3.rf s3.rnd s3.pg W4 a3.defers W4
        rw [hp3.1, hp3.2.2]
        refine ⟨.refl _, fun b hb => ⟨(hd3.pn b hb).1, rfl⟩, hd3.dj, fun b hb => ⟨(hd3.gl b hb).1, by rw [hs34]; exact (hd3.gl b hb).2⟩, fun l' hl' => ?_, ?_⟩
        · obtain rfl := Option.some.inj hl'
          exact ⟨(hd3.pn l hgl).1, _, hr4⟩
        · obtain ⟨Ds, e1, e2, e3, e4⟩ := hd3.df
          refine ⟨Ds, e1, e2, e3, fun D hD => ⟨(e4 D hD).1, ?_⟩⟩
          rw [ho34 D fun h => by have := (e4 D hD).2; rw [h, hr3] at this; cases this]
          exact (e4 D hD).2
      · exact wsim_calm (s := { s3 with ws := none, xs := [], pw := W4 }) (wp := w3) (w := w3) (WSim.now hS3.w.mem hS3.w.inj hS3.w.low hS3.w.below hS3.w.hbase hS3.w.mu rfl rfl) hc34 (Nat.le_refl _) rfl rfl
    refine ihB (s := { s3 with ws := none, xs := [], pw := W4 }) (some l) hp3.2.2 hbd hS4 fun e s5 a5 w5 wp5 hK5 hS5 hF5 => ?_
    have g5 := hF5.g
    have hp5 : s5.pg = Gt G ∧ s5.pw = W4 ∧ s5.rnd = some l := ⟨by rw [g5.rnd.2.1]; exact hp3.1, by rw [g5.rnd.2.2], by rw [g5.rnd.1]; exact hp3.2.2⟩
    have hd5 := hS5.d
    rw [hp5.1, hp5.2.1, hp5.2.2] at hd5
    have hr5 : w5.heap[l]? = some (.loop { rec .ready none with state := .busy }) := by rw [(hd5.pn l hgl).2]; exact hr4
    have hkeep5 : ∀ b, Gt G b → b ≠ l → w5.heap[b]? = W.heap[b]? := fun b hb hne => by rw [(hd5.pn b hb).2, ho34 b hne, (hd3.pn b hb).2]
    have hso : SameOs W w5 := hd3.po.trans (SameOs.trans ⟨hc34.os, hc34.tape, hc34.output, hc34.size⟩ hd5.po)
    have hgh5 : ∀ b, Gt G b → s5.gh b := fun b hb => (hd5.pn b hb).1
    -- what the round leaves
    have fin : ∀ (jump : Option Code), (Instr.endRound l jump).run C.P w5 = .ok (.bool jump.isNone) (w5.putObj l (.loop (rec (if jump.isNone then .ready else .done) jump))) := fun jump => by
      have := run_endRound (P := C.P) jump hr5
      rw [hrecIs] at this ⊢
      exact this
    have after : ∀ (o : Obj), RoundKeeps G W (w5.putObj l o) ∧ (∀ D ∈ Dl, (w5.putObj l o).heap[D]? = some (.deferred (some []))) ∧ W1.heap.size ≤ (w5.putObj l o).heap.size ∧ (∀ b, G b → W1.heap.size ≤ b ∧ b < (w5.putObj l o).heap.size) ∧
        CalmFrom C.base w5 (w5.putObj l o) ∧ Mid C s s0 a (Gt G) { s5 with sl := s.sl, ro := s0.ro, rf := s.rf, rnd := s.rnd, gh := s.gh, pg := s.pg, pw := s.pw, ws := none, xs := [] } (w5.putObj l o) := fun o => by
      have hsz : (w5.putObj l o).heap.size = w5.heap.size := World.putObj_size
      have hcc : CalmFrom C.base w5 (w5.putObj l o) := .putObj hr5 rfl (by omega)
      have hoth : ∀ b, b ≠ l → (w5.putObj l o).heap[b]? = w5.heap[b]? := fun b hb => World.putObj_heap_other hb
      have hL05 : ∀ k e, s0.L k = some e → ∃ e', s5.L k = some e' ∧ e'.b = e.b ∧ e'.T = e.T ∧ (s0.ro k = true → e' = e) := fun k e he => by
        have hp : s0.ro k = true ∨ k ∈ C.muts := by
          by_cases hk : k ∈ C.muts
          · exact .inr hk
          · exact .inl (hro0 k e he hk)
        obtain ⟨e1, f1, f2, f3, f4⟩ := q7.L k e he hp
        obtain ⟨e2, f5, f6, f7, f8⟩ := hF3.L k e1 (by rw [pg1]; exact f1) (by rw [pg2, show s2.ro = s0.ro from q7.ro]; exact hp)
        obtain ⟨e3, f9, f10, f11, f12⟩ := hF5.L k e2 f5 (by show s3.ro k = true ∨ _; rw [hF3.ro, pg2, show s2.ro = s0.ro from q7.ro]; exact hp)
        refine ⟨e3, f9, f10.trans (f6.trans f2), f11.trans (f7.trans f3), fun hr => ?_⟩
        have g1 := f4 hr
        have g2 := f8 (by rw [pg2, show s2.ro = s0.ro from q7.ro]; exact hr)
        have g3 := f12 (by show s3.ro k = true; rw [hF3.ro, pg2, show s2.ro = s0.ro from q7.ro]; exact hr)
        rw [g3, g2, g1]
      have hro5 : s5.ro = s0.ro := by rw [hF5.ro]; show s3.ro = _; rw [hF3.ro, pg2]; exact q7.ro
      have hgsl : ∀ b, s.gh b → (w5.putObj l o).heap[b]? = W.heap[b]? := fun b hb => by
        have hne : b ≠ l := fun e => by have := hgs b hb; omega
        rw [hoth b hne]; exact hkeep5 b (hsub0 G b hb) hne
      refine ⟨⟨hso.os, hso.tape, hso.output, by rw [hsz]; exact hso.size, fun b hb => ?_⟩, fun D hD => ?_, by rw [hsz]; exact Nat.le_trans j3 hso.size, fun b hb => ⟨(j4 b hb).1, by rw [hsz]; exact Nat.lt_of_lt_of_le (j4 b hb).2 hso.size⟩, hcc, ⟨⟨fun d hd => ?_, hS.n, ?_, ?_⟩, ⟨fun d _ _ => ?_, fun k e he hp => hL05 k e he, rfl, .of ⟨hge0.rnd.symm, hge0.pg.symm, hge0.pw.symm⟩ hge0.rf.symm hge0.gh.symm⟩, ⟨rfl, rfl, rfl, rfl, rfl⟩, ⟨rfl, rfl⟩, rfl, fun k e he hb => ?_⟩⟩
      · have hne : b ≠ l := fun e => by have := (j4 b hb).1; omega
        rw [hoth b hne]; exact hkeep5 b (by rw [hGt]; exact .inr (.inr (.inr hb))) hne
      · have hne : D ≠ l := fun e => hlD (by rw [← e]; exact hD)
        rw [hoth D hne, hkeep5 D (by rw [hGt]; exact .inr (.inr (.inl hD))) hne]
        exact j2 D hD
      · obtain ⟨v, h1, h2⟩ := hS.sl d hd
        exact ⟨v, sv_mono (fun k e he => by obtain ⟨e', f1, f2, _⟩ := hL05 k e (by rw [hL0]; exact he); exact ⟨e', f1, f2⟩) h1, h2⟩
      · refine hgo2.step (fun k e he hb => ?_) ⟨hso.os, hso.tape, hso.output, by rw [hsz]; exact hso.size⟩ hgsl
        exact hd5.dj k e he (hgh5 _ (hsub0 G _ hb))
      · have := wsim_calm (s := { s5 with ws := none, xs := [] }) (wp := w5) (w := w5) (WSim.now hS5.w.mem hS5.w.inj hS5.w.low hS5.w.below hS5.w.hbase hS5.w.mu rfl rfl) hcc (Nat.le_refl _) rfl rfl
        exact this.congr rfl hro5.symm rfl rfl
      · show s.sl d = s0.sl d; rw [hsl0]
      · exact hd5.dj k e he (hgh5 _ hb)
    cases e with
    | normal =>
      simp only at hK5
      split at hK5
      rotate_left
      · exact hK5.elim
      rename_i ls' hls'
      have hI5 := expo_elim hK5 hS5.w
      obtain ⟨a1, a2, a3', a4, a5', a6⟩ := after (.loop (rec .ready none))
      refine ⟨_, _, fin none, true, rfl, a1, fun _ => ⟨World.putObj_heap_same (lt_of_some hr5), a2, a3', a4, _, ls', w5, Gt G, ?_, hI5, .of a5', fun _ h => h, fun _ h => .inl h, a6⟩, fun h => by cases h⟩
      rw [← hls']; exact leavesAt_L rfl
    | ret =>
      have hK5 := expo_elim hK5 hS5.w
      obtain ⟨a1, a2, a3', a4, a5', a6⟩ := after (.loop (rec .done (some .ret)))
      exact ⟨_, _, fin (some .ret), false, rfl, a1, fun h => (by cases h), fun _ => ⟨.ret, .ret, .inl ⟨rfl, rfl⟩, World.putObj_heap_same (lt_of_some hr5), a2, a3', a4, _, s5, w5, Gt G, hK5, .of a5', fun _ h => h, fun _ h => .inl h, a6, rfl⟩⟩
    | exit i =>
      have hK5 := expo_elim hK5 hS5.w
      obtain ⟨a1, a2, a3', a4, a5', a6⟩ := after (.loop (rec .done (some (.exit i))))
      exact ⟨_, _, fin (some (.exit i)), false, rfl, a1, fun h => (by cases h), fun _ => ⟨.exit i, .exit i, .inr ⟨i, rfl, rfl⟩, World.putObj_heap_same (lt_of_some hr5), a2, a3', a4, _, s5, w5, Gt G, hK5, .of a5', fun _ h => h, fun _ h => .inl h, a6, rfl⟩⟩
  -- the call of the iterator, and what comes behind it
  have hlast : ∀ (G : Nat → Prop) (W4 : World) (s4 : SS), (∀ b, Gt G b → C.base ≤ b ∧ b < W4.heap.size) → (∀ k e, s4.L k = some e → ¬ Gt G e.b) → (∀ D ∈ Dl, W4.heap[D]? = some (.deferred (some []))) → GhOk C.base s4.L s.gh s.rf s.rnd s.pg s.pw a.defers W4 →
      GhOk C.base s4.L (Gt G) true s.rnd s.pg s.pw (Dl.map mkD ++ a.defers) W4 := fun G W4 s4 h1 h2 h3 h4 => by
    obtain ⟨po, pn, dj, gl, rd, Ds, e1, e2, e3, e4⟩ := h4
    refine ⟨po, fun b hb => ⟨hsub0 G b (pn b hb).1, (pn b hb).2⟩, h2, h1, fun l' hl' => ⟨hsub0 G _ (rd l' hl').1, (rd l' hl').2⟩, Dl ++ Ds, ?_, ?_, fun h => (by cases h), fun D hD => ?_⟩
    · rw [List.nodup_append]
      refine ⟨hnd, e1, fun x hx y hy => ?_⟩
      have h1 := (hD1 x hx).2.1
      have h2 := hgs y (e4 y hy).1
      omega
    · rw [List.map_append, e2]; rfl
    · rcases List.mem_append.1 hD with hD | hD
      · exact ⟨by rw [hGt]; exact .inr (.inr (.inl hD)), h3 D hD⟩
      · exact ⟨hsub0 G D (e4 D hD).1, (e4 D hD).2⟩
  refine ⟨l, Dl.map mkD, W1, { target := .fn (.func gf) cap.toArray, args := first.toArray ++ #[.func (.yield l) #[] #[]] }, W1, gf, (first ++ [Value.func (.yield l) #[] #[]] ++ cap).toArray, W1, hrun, ?_, fun _ _ => trivial, ?_, fun h => by simp [WF] at h, (callsIn_wide (n := 0 - 1)).2 (hcallIter.mono ?_)⟩
  · simp [resolve, hg, Deferred.ofValue, Sem.run_pure]
    rfl
  · simp only [invoke]
    rw [hcall]
    simp
  · rintro e W2 ⟨⟨v, rfl⟩, G, hJ | ⟨k, hJ⟩⟩
    · have hJ' := hJ
      obtain ⟨j1, j2, j3, j4, -⟩ := hJ'
      have hend := run_endLoop (P := C.P) j1 (by rw [hrecIs]; simp)
      rw [show (rec .ready none).pending = none by rw [hrecIs]] at hend
      refine ⟨none, _, hend, ?_⟩
      generalize hW4 : W2.putObj l _ = W4
      have hc : CalmFrom C.base W2 W4 := by rw [← hW4]; exact .putObj j1 rfl (by omega)
      have hs : W4.heap.size = W2.heap.size := by rw [← hW4]; exact World.putObj_size
      have ho : ∀ b, b ≠ l → W4.heap[b]? = W2.heap[b]? := fun b hb => by rw [← hW4]; exact World.putObj_heap_other hb
      obtain ⟨hGl, s2, q2, q3, q4, q5, hdj2, q7, hsl2, hgo2, _, _, hdone⟩ := head hJ hc (by rw [hs]; exact j3) (fun b hb => by rw [hs]; exact j4 b hb) fun b hb => ho b fun e => by have := hgs b hb; omega
      have hD4 : ∀ D ∈ Dl, W4.heap[D]? = some (.deferred (some [])) := fun D hD => by rw [ho D fun e => hlD (by rw [← e]; exact hD)]; exact j2 D hD
      refine hk .normal _ _ _ _ (hfin _ _ hdone rfl) ⟨fun d hd => ?_, hS.n, hlast G W4 s2 hGl hdj2 hD4 hgo2, ?_⟩ ?_
      · have hd' : s.sl d ≠ .none := hd
        have := q4 d (by rw [hsl2]; exact hd')
        rw [hsl2] at this; exact this
      · exact q5.left rfl hS.w.mu rfl rfl
      · refine ⟨fun d _ _ => rfl, fun k e he _ => ?_, rfl, ⟨⟨rfl, rfl, rfl⟩, fun _ => rfl, fun h => (by cases h), fun b hb => hsub0 G b hb⟩⟩
        obtain ⟨e', f1, f2, f3, f4⟩ := q7.L k e (by rw [hL0]; exact he) (by
          by_cases hkm : k ∈ C.muts
          · exact .inr hkm
          · exact .inl (hro0 k e (by rw [hL0]; exact he) hkm))
        exact ⟨e', f1, f2, f3, fun hr => f4 (by rw [← hs0]; simp [SS.lock, hr])⟩
    · obtain ⟨e, c, hec, j1, j2, j3, j4, s1, s5, w5, G5, j5, j6, g5a, g5b, j7, j8⟩ := hJ
      have hend := run_endLoop (P := C.P) j1 (by rw [hrecIs]; simp)
      rw [show (rec .done (some c)).pending = some c by rw [hrecIs]] at hend
      refine ⟨some c, _, hend, ?_⟩
      generalize hW4 : W2.putObj l _ = W4
      have hc : CalmFrom C.base W2 W4 := by rw [← hW4]; exact .putObj j1 rfl (by omega)
      have hs : W4.heap.size = W2.heap.size := by rw [← hW4]; exact World.putObj_size
      have ho : ∀ b, b ≠ l → W4.heap[b]? = W2.heap[b]? := fun b hb => by rw [← hW4]; exact World.putObj_heap_other hb
      have hGl := hlow G W4 (fun b hb => by rw [hs]; exact j4 b hb) (by rw [hs]; exact j3)
      have hD4 : ∀ D ∈ Dl, W4.heap[D]? = some (.deferred (some [])) := fun D hD => by rw [ho D fun e => hlD (by rw [← e]; exact hD)]; exact j2 D hD
      have hgo : GhOk C.base s1.L s.gh s.rf s.rnd s.pg s.pw a.defers W4 := by
        have := j7.sim.d
        rw [j7.ge.gh, j7.ge.rf, j7.ge.rnd, j7.ge.pg, j7.ge.pw] at this
        exact this.step this.dj ⟨hc.os, hc.tape, hc.output, hc.size⟩ fun b hb => ho b fun e => by have := hgs b hb; omega
      have hSx : Sim C (s5.left s (Gt G)) { a with defers := Dl.map mkD ++ a.defers } W4 W4 := by
        refine ⟨fun d hd => ?_, hS.n, ?_, ?_⟩
        · have hd' : s.sl d ≠ .none := hd
          have := j7.sim.sl d (by rw [j7.sl]; exact hd')
          rw [j7.sl] at this
          show ∃ v, (s.sl d).toV s5.L = some v ∧ _
          rw [j8]; exact this
        · show GhOk C.base s5.L (Gt G) true s.rnd s.pg s.pw _ W4
          rw [j8]
          exact hlast G W4 s1 hGl j7.dj hD4 hgo
        · exact (wsim_calm j7.sim.w hc (Nat.le_refl _) j7.w0.1 j7.w0.2).left j8 hS.w.mu rfl rfl
      have hFx : FrO C.muts pw s (s5.left s (Gt G)) := by
        refine ⟨fun d _ _ => rfl, fun k e he _ => ?_, rfl, ⟨⟨rfl, rfl, rfl⟩, fun _ => rfl, fun h => (by cases h), fun b hb => hsub0 G b hb⟩⟩
        obtain ⟨e', f1, f2, f3, f4⟩ := j7.fr.L k e (by rw [hL0]; exact he) (by
          by_cases hkm : k ∈ C.muts
          · exact .inr hkm
          · exact .inl (hro0 k e (by rw [hL0]; exact he) hkm))
        exact ⟨e', by show s5.L k = _; rw [j8]; exact f1, f2, f3, fun hr => f4 (by rw [← hs0]; simp [SS.lock, hr])⟩
      have hKx := hk e _ _ _ _ (j5 (Gt G) W4 (j6.trans (G' := fun _ => False) (.of hc) fun x hx => hx.elim) g5a) hSx hFx
      rcases hec with ⟨rfl, rfl⟩ | ⟨i, rfl, rfl⟩
      · exact wpIn_ret hKx
      · exact wpIn_exit hKx
end
end Go.Vc
end
