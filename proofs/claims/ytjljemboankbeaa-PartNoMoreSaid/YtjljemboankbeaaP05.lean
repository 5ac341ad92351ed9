/- Part 5: own lemmas, and the conditions of the functions. -/
import Derived.Test.YtjljemboankbeaaProg
import Derived.Shelf.SortM.Plain
import Derived.Shelf.SortM.SortNone
import Derived.Ground.SlgmProg
import Derived.Sort.OwnSortedInts
import Derived.Test.YtjljemboankbeaaP04
section
/- Sorting numbers by a key, stable. -/
namespace Go.Proofs.R12
open Go.Vc Go.RowKit Go.Proofs

def lexLt (key : Int → Int) (x y : Int) : Prop := key x < key y ∨ (key x = key y ∧ x < y)
def Sorted (key : Int → Int) (s : List Int) : Prop := s.Pairwise (lexLt key)
theorem ins_sorted {key : Int → Int} {p1 p2 : List Int} {x : Int} (hs : Sorted key (p1 ++ p2)) (h2 : ∀ y ∈ p2, key x < key y) (hl : ∀ y, p1.getLast? = some y → key y ≤ key x) (hlt : ∀ z ∈ p1, z < x) : Sorted key (p1 ++ x :: p2) := by
  unfold Sorted at *
  rw [List.pairwise_append] at hs ⊢
  obtain ⟨s1, s2, s3⟩ := hs
  refine ⟨s1, List.pairwise_cons.2 ⟨fun y hy => .inl (h2 y hy), s2⟩, fun z hz y hy => ?_⟩
  rcases List.mem_cons.1 hy with rfl | hy
  · have hk : key z ≤ key y := by
      rcases List.eq_nil_or_concat p1 with rfl | ⟨q, u, rfl⟩
      · simp at hz
      · have hu := hl u (by simp)
        rcases List.mem_append.1 (by simpa using hz : z ∈ q ++ [u]) with h | h
        · have := (List.pairwise_append.1 (by simpa using s1 : List.Pairwise (lexLt key) (q ++ [u]))).2.2 z h u (by simp)
          unfold lexLt at this; omega
        · have : z = u := by simpa using h
          rw [this]; exact hu
    have := hlt z hz
    unfold lexLt; omega
  · exact s3 z hz y hy
/-- What a comparison answers, as long as only block g changes. -/
def CmpOk (f : Nat) (fi fc : List Value) (key : Int → Int) (S : Int → Prop) (g : Nat) (w0 : World) : Prop :=
  Callable Try.prog f ∧ ∀ w, Chg [g] w0 w → ∀ x y, S x → S y → Calls Try.prog f (fi ++ [I x, I y] ++ fc).toArray w fun e w' => ∃ r, e = .returned (I r) ∧ Below w.heap.size w w' ∧ (r < 0 ↔ key x < key y)
theorem CmpOk.chg {f : Nat} {fi fc : List Value} {key : Int → Int} {S : Int → Prop} {g : Nat} {w0 w1 : World} (h : CmpOk f fi fc key S g w0) (hc : Chg [g] w0 w1) : CmpOk f fi fc key S g w1 := ⟨h.1, fun w hw => h.2 w (hc.trans hw)⟩
theorem swap_sets (A B : List Int) (x y : Int) : ((A ++ y :: x :: B).set (A.length + 1) y).set A.length x = A ++ x :: y :: B := by
  rw [List.set_append_right _ _ (by omega), List.set_append_right _ _ (by omega)]
  simp
theorem getD_mid (A B : List Int) (x d : Int) : (A ++ x :: B).getD A.length d = x := by simp
theorem getD_prev (A B : List Int) (x y d : Int) : (A ++ y :: x :: B).getD A.length d = y := by simp
def A1 (g : Nat) : Option Addr := some ⟨g, 0, none⟩
section
variable {B n c g : Nat} {ns : List Nat} {l : List Int} {w : World}
theorem row_load (h : Row 3 1 B ns (some ⟨g, 0, none⟩) n c (ints l) w) {i : Int} (hi : 0 ≤ i ∧ i < l.length) {x : Int} (hx : l.getD i.toNat 0 = x) : w.cell? ⟨g, 0 + i.toNat * 1, none⟩ = some (I x) := by
  have hi' : i.toNat < l.length := by omega
  have := h.cells.at (ints_get (getElem_of_lt hi'))
  rw [← hx, List.getD_eq_getElem?_getD, getElem_of_lt hi']
  exact cell_at' this (by omega)
theorem row_store (h : Row 3 1 B ns (some ⟨g, 0, none⟩) n c (ints l) w) {i : Int} (hi : 0 ≤ i ∧ i < n) {x : Int} {R : Value → World → Prop}
    (hR : ∀ w', Row 3 1 B ns (some ⟨g, 0, none⟩) n c (ints (l.set i.toNat x)) w' → Chg [g] w w' → R (.tuple #[]) w') : RunsTo Try.prog ((Instr.storeAt 3 (.pointer (some ⟨g, 0 + i.toNat * 1, none⟩)) (I x)) >>= fun _ => pure (Value.tuple #[])) w R := by
  rw [show 0 + i.toNat * 1 = i.toNat by omega]
  exact row_set (P := Try.prog) (t := 3) (by kernel_rfl) (by kernel_rfl) h (by omega) (v := I x) trivial fun w' h1 h2 => hR w' (by simpa [ints, List.map_set] using h1) h2
theorem keep_false {S : List Nat} {w w' : World} {B : Nat} (h : Chg S w w') : KeepX false B [] (fun _ => False) w w' := h.own (by simp) (by simp) (fun h => by cases h)
theorem kept0 {w w' : World} (h : Kept [] w w') : Chg [g] w w' := (Chg.kept h).mono (by simp)
theorem keptin0 {w w' : World} {rs : List (Nat × Nat)} (h : KeptIn ((0, w.heap.size) :: rs) [] w w') : Chg [g] w w' := (KeptIn.chg h).mono (by simp)
end

set_option maxHeartbeats 1000000 in
theorem isort_l {f : Nat} {fi fc : List Value} {key : Int → Int} {B n c g : Nat} {ns : List Nat} {l : List Int} {w : World} {a b : Nat} (hR : Row 3 1 B ns (some ⟨g, 0, none⟩) n c (ints l) w) (hg : g ∉ ns) (hab : a ≤ b) (hbn : b ≤ n) (hn : n ≤ 100000)
    (hinc : ∀ j k, a ≤ j → j < k → k < b → l.getD j 0 < l.getD k 0) (hf : CmpOk f fi fc key (· ∈ l) g w) :
    Calls Try.prog 111 #[.slice (some ⟨g, 0, none⟩) n c, I a, I b, .func (.func f) fi.toArray fc.toArray] w fun e w' => e = .returned (.tuple #[]) ∧ Chg [g] w w' ∧ ∃ s, Row 3 1 B ns (some ⟨g, 0, none⟩) n c (ints (l.take a ++ s ++ l.drop b)) w' ∧ s.Perm ((l.drop a).take (b - a)) ∧ Sorted key s := by
  have hlen : l.length = n := by have := hR.len; simp [ints] at this; omega
  by_cases hlt : a < b
  rotate_left
  · have : a = b := by omega
    subst this
    refine vc111 _ _ _ _ _ _ _ _ w _ ⟨by omega, fun ls w' => match ls with | [.int _ i] => i = (a : Int) + 1 ∧ Chg [g] w w' ∧ Row 3 1 B ns (some ⟨g, 0, none⟩) n c (ints l) w' | _ => False, fun _ => 0, fun w2 hk => ⟨rfl, kept0 hk, hR.chg (Chg.kept hk) (by simp)⟩, ?_⟩
    rintro x1 w3 ⟨rfl, hc, R3⟩
    refine ⟨fun h => by omega, fun _ w16 hk => ⟨rfl, hc.trans (kept0 hk), [], by simpa using R3.chg (Chg.kept hk) (by simp), by simp, List.Pairwise.nil⟩⟩
  refine vc111 _ _ _ _ _ _ _ _ w _ ⟨by omega, fun ls w' => match ls with | [.int _ i] => ((a : Int) + 1 ≤ i ∧ i ≤ b) ∧ Chg [g] w w' ∧ ∃ p, Row 3 1 B ns (some ⟨g, 0, none⟩) n c (ints (l.take a ++ p ++ l.drop i.toNat)) w' ∧ p.Perm ((l.drop a).take (i.toNat - a)) ∧ Sorted key p | _ => False, fun ls => match ls with | [.int _ i] => (b - i).toNat | _ => 0, fun w2 hk => ?_, ?_⟩
  · refine ⟨⟨by omega, by omega⟩, kept0 hk, [l.getD a 0], ?_, ?_, by simp [Sorted]⟩
    · have : l.take a ++ [l.getD a 0] ++ l.drop ((a : Int) + 1).toNat = l := by
        rw [show ((a : Int) + 1).toNat = a + 1 by omega, ← take_getD (by omega), List.take_append_drop]
      rw [this]; exact hR.chg (Chg.kept hk) (by simp)
    · rw [show ((a : Int) + 1).toNat - a = 0 + 1 by omega, take_getD (d := 0) (by rw [List.length_drop]; omega)]
      simp [List.getD_eq_getElem?_getD]
  rintro x1 w3 ⟨⟨i1, i2⟩, hc3, p, R3, hp, hs⟩
  have hpl : p.length = x1.toNat - a := by rw [hp.length_eq, List.length_take, List.length_drop]; omega
  refine ⟨fun hi => ?_, fun hge w16 hk => ⟨rfl, hc3.trans (kept0 hk), p, by rw [show b = x1.toNat by omega]; exact R3.chg (Chg.kept hk) (by simp), by rw [show b = x1.toNat by omega]; exact hp, hs⟩⟩
  -- one element more
  have hdrop : l.drop x1.toNat = l.getD x1.toNat 0 :: l.drop (x1.toNat + 1) := by
    rw [List.drop_eq_getElem_cons (by omega), List.getD_eq_getElem?_getD, getElem_of_lt (by omega)]; rfl
  have hxm : l.getD x1.toNat 0 ∈ l := by rcases getD_mem (l := l) (i := x1.toNat) (d := 0) with e | e; (rw [List.getD_eq_getElem?_getD, getElem_of_lt (by omega)]; exact List.getElem_mem _); exact e
  have hpm : ∀ z ∈ p, z ∈ l ∧ z < l.getD x1.toNat 0 := fun z hz => by
    have hz' := hp.subset hz
    obtain ⟨k, hk, rfl⟩ := List.mem_iff_getElem.1 hz'
    have hk' : k < x1.toNat - a := by rw [List.length_take] at hk; omega
    have e : ((l.drop a).take (x1.toNat - a))[k] = l.getD (a + k) 0 := by
      rw [List.getElem_take, List.getElem_drop, List.getD_eq_getElem?_getD, getElem_of_lt (by omega)]; rfl
    rw [e]
    refine ⟨?_, hinc _ _ (by omega) (by omega) (by omega)⟩
    rw [List.getD_eq_getElem?_getD, getElem_of_lt (by omega)]; exact List.getElem_mem _
  generalize hx : l.getD x1.toNat 0 = x at *
  refine ⟨fun ls w' => match ls with | [.int _ j] => Chg [g] w w' ∧ ∃ p1 p2, p1 ++ p2 = p ∧ j = (a : Int) + p1.length ∧ Row 3 1 B ns (some ⟨g, 0, none⟩) n c (ints ((l.take a ++ p1) ++ x :: (p2 ++ l.drop (x1.toNat + 1)))) w' ∧ ∀ y ∈ p2, key x < key y | _ => False, fun ls => match ls with | [.int _ j] => j.toNat | _ => 0, fun w5 hk => ⟨hc3.trans (kept0 hk), p, [], by simp, by omega, ?_, by simp⟩, ?_⟩
  · rw [hdrop] at R3
    exact R3.chg (Chg.kept hk) (by simp)
  have done : ∀ {p1 p2 : List Int} {w6 w' : World}, Chg [g] w w6 → Kept [] w6 w' → p1 ++ p2 = p → Row 3 1 B ns (some ⟨g, 0, none⟩) n c (ints ((l.take a ++ p1) ++ x :: (p2 ++ l.drop (x1.toNat + 1)))) w6 → (∀ y ∈ p2, key x < key y) → (∀ y, p1.getLast? = some y → key y ≤ key x) →
      ((a : Int) + 1 ≤ x1 + 1 ∧ x1 + 1 ≤ b) ∧ Chg [g] w w' ∧ ∃ p, Row 3 1 B ns (some ⟨g, 0, none⟩) n c (ints (l.take a ++ p ++ l.drop (x1 + 1).toNat)) w' ∧ p.Perm ((l.drop a).take ((x1 + 1).toNat - a)) ∧ Sorted key p := fun {p1 p2 w6 w'} hc hk hpp R h2 hla => by
    refine ⟨⟨by omega, by omega⟩, hc.trans (kept0 hk), p1 ++ x :: p2, ?_, ?_, ins_sorted (by rw [hpp]; exact hs) h2 hla fun z hz => (hpm z (by rw [← hpp]; exact List.mem_append_left _ hz)).2⟩
    · rw [show (x1 + 1).toNat = x1.toNat + 1 by omega]
      have := R.chg (Chg.kept hk) (by simp)
      simpa [List.append_assoc] using this
    · rw [show (x1 + 1).toNat - a = (x1.toNat - a) + 1 by omega, take_getD (d := 0) (by rw [List.length_drop]; omega)]
      have e : (l.drop a).getD (x1.toNat - a) 0 = x := by rw [← hx, List.getD_eq_getElem?_getD, List.getElem?_drop, List.getD_eq_getElem?_getD, show a + (x1.toNat - a) = x1.toNat by omega]
      rw [e]
      have h1 : (p1 ++ x :: p2).Perm (x :: (p1 ++ p2)) := List.perm_middle
      rw [hpp] at h1
      exact h1.trans ((List.perm_append_comm (l₁ := [x]) (l₂ := p)).trans (hp.append_right [x]))
  have hta : (l.take a).length = a := by rw [List.length_take]; omega
  rintro x2 w6 ⟨hc6, p1, p2, hpp, rfl, R6, h2⟩
  have hlp : p1.length + p2.length = x1.toNat - a := by rw [← hpl, ← hpp, List.length_append]
  refine ⟨fun hj => ?_, fun hj => ⟨by omega, fun w15 hk => ⟨done hc6 hk hpp R6 h2 fun y hy => ?_, ?_⟩⟩⟩
  rotate_left
  · have : p1 = [] := List.length_eq_zero_iff.1 (by omega)
    rw [this] at hy; simp at hy
  · show ((b : Int) - (x1 + 1)).toNat < ((b : Int) - x1).toNat
    omega
  rcases List.eq_nil_or_concat p1 with rfl | ⟨q, y, hq⟩
  · simp at hj
  have hq : p1 = q ++ [y] := by simpa using hq
  subst hq
  have hql : (q ++ [y]).length = q.length + 1 := by simp
  have hL : ((l.take a ++ (q ++ [y])) ++ x :: (p2 ++ l.drop (x1.toNat + 1))) = (l.take a ++ q) ++ y :: x :: (p2 ++ l.drop (x1.toNat + 1)) := by simp
  have hAl : (l.take a ++ q).length = a + q.length := by rw [List.length_append, hta]
  have hLl : ((l.take a ++ q) ++ y :: x :: (p2 ++ l.drop (x1.toNat + 1))).length = n := by
    have := R6.len; rw [hL] at this; simpa [ints] using this
  rw [hL] at R6
  have gx : ((l.take a ++ q) ++ y :: x :: (p2 ++ l.drop (x1.toNat + 1))).getD ((a : Int) + (q ++ [y]).length).toNat 0 = x := by
    have := getD_mid ((l.take a ++ q) ++ [y]) (p2 ++ l.drop (x1.toNat + 1)) x 0
    rw [List.length_append, hAl] at this
    rw [hql, show ((a : Int) + ((q.length + 1 : Nat) : Int)).toNat = a + q.length + [y].length by simp; omega]
    simpa [List.append_assoc] using this
  have gy : ((l.take a ++ q) ++ y :: x :: (p2 ++ l.drop (x1.toNat + 1))).getD ((a : Int) + (q ++ [y]).length - 1).toNat 0 = y := by
    have := getD_prev (l.take a ++ q) (p2 ++ l.drop (x1.toNat + 1)) x y 0
    rw [hAl] at this
    rw [hql, show ((a : Int) + ((q.length + 1 : Nat) : Int) - 1).toNat = a + q.length by omega]
    exact this
  have hyp : y ∈ p := by rw [← hpp]; simp
  refine ⟨g, 0, rfl, ⟨by omega, by omega⟩, x, row_load R6 (by omega) gx, by omega, g, 0, rfl, ⟨by omega, by omega⟩, y, row_load R6 (by omega) gy, hf.1, fun w7 hk7 => ?_⟩
  have hc7 := hc6.trans (keptin0 (g := g) hk7)
  refine (hf.2 w7 hc7 x y hxm (hpm y hyp).1).mono fun e w8 he => ?_
  obtain ⟨r, rfl, hb8, hr⟩ := he
  have hc8 := hc7.trans (Chg.of_below (S := [g]) hb8)
  have R8 := (R6.chg (KeptIn.chg hk7) (by simp)).below hb8
  refine ⟨r, rfl, .all hb8, fun hneg => ⟨by omega, g, 0, rfl, ⟨by omega, by omega⟩, y, row_load R8 (by omega) gy, g, 0, rfl, ⟨by omega, by omega⟩, x, row_load R8 (by omega) gx, g, 0, rfl, ⟨by omega, by omega⟩, fun w9 hk9 => ?_⟩, fun hpos => ⟨by omega, fun w14 hk => ⟨done hc8 hk hpp (by rw [hL]; exact R8) h2 fun y' hy' => ?_, ?_⟩⟩⟩
  rotate_left
  · have : y' = y := by simpa using hy'.symm
    rw [this]
    have : ¬ key x < key y := fun h => by have := hr.2 h; omega
    omega
  · show ((b : Int) - (x1 + 1)).toNat < ((b : Int) - x1).toNat
    omega
  refine row_store (R8.chg (KeptIn.chg hk9) (by simp)) (by omega) fun w10 R10 c10 => ⟨keep_false c10, by omega, g, 0, rfl, ⟨by omega, by omega⟩, fun w11 hk11 => ?_⟩
  refine row_store (R10.chg (KeptIn.chg hk11) (by simp)) (by omega) fun w12 R12 c12 => ⟨keep_false c12, by omega, fun w13 hk13 => ⟨⟨?_, q, y :: p2, ?_, by omega, ?_, ?_⟩, ?_⟩⟩
  · exact (((hc8.trans (keptin0 hk9)).trans c10).trans (keptin0 hk11)).trans (c12.trans (kept0 hk13))
  · rw [← hpp]; simp
  · have := R12.chg (Chg.kept hk13) (by simp)
    have es := swap_sets (l.take a ++ q) (p2 ++ l.drop (x1.toNat + 1)) x y
    rw [hAl] at es
    rw [show ((a : Int) + (q ++ [y]).length).toNat = a + q.length + 1 by rw [hql]; omega, show ((a : Int) + (q ++ [y]).length - 1).toNat = a + q.length by rw [hql]; omega, es] at this
    simpa using this
  · intro z hz
    rcases List.mem_cons.1 hz with rfl | hz
    · exact hr.1 hneg
    · exact h2 z hz
  · show ((a : Int) + (q ++ [y]).length - 1).toNat < ((a : Int) + (q ++ [y]).length).toNat
    rw [hql]; omega
end Go.Proofs.R12
end
section
/- Sorting numbers by a key: the library's stable sort, at most 20; the numbers of sizes by size. -/
namespace Go.Proofs.R12
open Go.Vc Go.RowKit Go.Proofs

theorem stable_l {f : Nat} {fi fc : List Value} {key : Int → Int} {B n c g : Nat} {ns : List Nat} {l : List Int} {w : World} (hR : Row 3 1 B ns (some ⟨g, 0, none⟩) n c (ints l) w) (hg : g ∉ ns) (hn : n ≤ 20)
    (hinc : ∀ j k, j < k → k < n → l.getD j 0 < l.getD k 0) (hf : CmpOk f fi fc key (· ∈ l) g w) :
    Calls Try.prog 98 #[.slice (some ⟨g, 0, none⟩) n c, I n, .func (.func f) fi.toArray fc.toArray] w fun e w' => e = .returned (.tuple #[]) ∧ Chg [g] w w' ∧ ∃ s, Row 3 1 B ns (some ⟨g, 0, none⟩) n c (ints s) w' ∧ s.Perm l ∧ Sorted key s := by
  have hlen : l.length = n := by have := hR.len; simp [ints] at this; omega
  refine vc98 _ _ _ _ _ _ _ w _ ⟨fun ls w' => match ls with | [.int _ x, .int _ y] => Chg [g] w w' ∧ ((x = 0 ∧ y = 20 ∧ Row 3 1 B ns (some ⟨g, 0, none⟩) n c (ints l) w') ∨ (n = 20 ∧ x = 20 ∧ y = 40 ∧ ∃ s, Row 3 1 B ns (some ⟨g, 0, none⟩) n c (ints s) w' ∧ s.Perm l ∧ Sorted key s)) | _ => False, fun ls => match ls with | [_, .int _ y] => (60 - y).toNat | _ => 0, fun w2 hk => ⟨kept0 hk, .inl ⟨rfl, rfl, hR.chg (Chg.kept hk) (by simp)⟩⟩, ?_⟩
  rintro x1 x2 w3 ⟨hc3, h⟩
  refine ⟨fun hle w4 hk4 => ?_, fun hgt w7 hk7 => ?_⟩
  · rcases h with ⟨rfl, rfl, R3⟩ | ⟨_, rfl, rfl, _⟩
    rotate_left
    · omega
    have hn20 : n = 20 := by omega
    have hc4 := hc3.trans (kept0 hk4)
    refine (isort_l (a := 0) (b := 20) (R3.chg (Chg.kept hk4) (by simp)) hg (by omega) (by omega) (by omega) (fun j k _ h1 h2 => hinc j k h1 (by omega)) (hf.chg hc4)).mono fun e w5 he => ?_
    obtain ⟨rfl, hc5, s, R5, hp, hs⟩ := he
    refine ⟨rfl, keep_false hc5, by omega, fun w6 hk6 => ⟨⟨hc4.trans (hc5.trans (kept0 hk6)), .inr ⟨hn20, rfl, rfl, s, ?_, ?_, hs⟩⟩, ?_⟩⟩
    · have := R5.chg (Chg.kept hk6) (by simp)
      rw [List.drop_eq_nil_of_le (by omega)] at this
      simpa using this
    · simpa [List.take_of_length_le (show l.length ≤ 20 by omega)] using hp
    · show ((60 : Int) - (20 + 20)).toNat < ((60 : Int) - 20).toNat
      decide
  · have hc7 := hc3.trans (kept0 hk7)
    have key2 : ∃ x : Nat, x1 = x ∧ x ≤ n ∧ ∃ l', Row 3 1 B ns (some ⟨g, 0, none⟩) n c (ints l') w7 ∧ l'.Perm l ∧ (x = 0 ∧ l' = l ∨ x = n ∧ Sorted key l') := by
      rcases h with ⟨rfl, rfl, R3⟩ | ⟨h20, rfl, rfl, s, R3, hp, hs⟩
      · exact ⟨0, rfl, by omega, l, R3.chg (Chg.kept hk7) (by simp), .refl _, .inl ⟨rfl, rfl⟩⟩
      · exact ⟨20, rfl, by omega, s, R3.chg (Chg.kept hk7) (by simp), hp, .inr ⟨by omega, hs⟩⟩
    obtain ⟨x, rfl, hx, l', R7, hp, hcase⟩ := key2
    have hlen' : l'.length = n := by rw [hp.length_eq]; exact hlen
    refine (isort_l (key := key) (a := x) (b := n) R7 hg hx (Nat.le_refl _) (by omega) (fun j k h0 h1 h2 => ?_) ⟨hf.1, fun w hw x y hx hy => hf.2 w (hc7.trans hw) x y (hp.subset hx) (hp.subset hy)⟩).mono fun e w8 he => ?_
    · rcases hcase with ⟨rfl, rfl⟩ | ⟨h20, _⟩
      · exact hinc j k h1 h2
      · omega
    obtain ⟨rfl, hc8, s, R8, hp8, hs8⟩ := he
    have hfin : ∃ s', Row 3 1 B ns (some ⟨g, 0, none⟩) n c (ints s') w8 ∧ s'.Perm l ∧ Sorted key s' := by
      rcases hcase with ⟨rfl, rfl⟩ | ⟨h20, hsort⟩
      · refine ⟨s, ?_, ?_, hs8⟩
        · rw [List.drop_eq_nil_of_le (by omega)] at R8
          simpa using R8
        · rw [Nat.sub_zero, List.drop_zero, List.take_of_length_le (by omega)] at hp8; exact hp8
      · subst h20
        have : s = [] := by rw [Nat.sub_self, List.take_zero] at hp8; exact hp8.eq_nil
        subst this
        refine ⟨l', ?_, hp, hsort⟩
        rw [List.take_of_length_le (by omega), List.drop_eq_nil_of_le (by omega)] at R8
        simpa using R8
    obtain ⟨s', Rs, hps, hss⟩ := hfin
    refine ⟨rfl, keep_false hc8, fun ls w' => match ls with | [.int _ z, _, _] => z = 20 ∧ Chg [g] w w' ∧ Row 3 1 B ns (some ⟨g, 0, none⟩) n c (ints s') w' | _ => False, fun _ => 0, fun w10 hk => ⟨rfl, hc7.trans (hc8.trans (kept0 hk)), Rs.chg (Chg.kept hk) (by simp)⟩, ?_⟩
    rintro z1 z2 z3 w11 ⟨rfl, hc11, R11⟩
    exact ⟨fun h => by omega, fun _ w22 hk => ⟨rfl, hc11.trans (kept0 hk), s', R11.chg (Chg.kept hk) (by simp), hps, hss⟩⟩

theorem stableFunc_l {f : Nat} {fi fc : List Value} {key : Int → Int} {B n c g : Nat} {ns : List Nat} {l : List Int} {w : World} (hR : Row 3 1 B ns (some ⟨g, 0, none⟩) n c (ints l) w) (hg : g ∉ ns) (hn : n ≤ 20)
    (hinc : ∀ j k, j < k → k < n → l.getD j 0 < l.getD k 0) (hf : CmpOk f fi fc key (· ∈ l) g w) :
    Calls Try.prog 90 #[.slice (some ⟨g, 0, none⟩) n c, .func (.func f) fi.toArray fc.toArray] w fun e w' => e = .returned (.tuple #[]) ∧ Chg [g] w w' ∧ ∃ s, Row 3 1 B ns (some ⟨g, 0, none⟩) n c (ints s) w' ∧ s.Perm l ∧ Sorted key s := by
  refine vc90 _ _ _ _ _ _ w _ fun w1 hk1 => ?_
  refine (stable_l (hR.chg (Chg.kept hk1) (by simp)) hg hn hinc (hf.chg (kept0 hk1))).mono fun e w2 he => ?_
  obtain ⟨rfl, hc2, s, R2, hp, hs⟩ := he
  exact ⟨rfl, keep_false hc2, fun w3 hk3 => ⟨rfl, (kept0 hk1).trans (hc2.trans (kept0 hk3)), s, R2.chg (Chg.kept hk3) (by simp), hp, hs⟩⟩
end Go.Proofs.R12
end
section
/- The numbers of sizes, the smallest first. -/
namespace Go.Proofs.R12
open Go.Vc Go.RowKit Go.Proofs
def cmpI (x y : Int) : Int := if x < y then -1 else if y < x then 1 else 0
theorem cmpI_neg {x y : Int} : cmpI x y < 0 ↔ x < y := by unfold cmpI; split <;> (try split) <;> omega
def idxs (n : Nat) : List Int := (List.range n).map Int.ofNat
theorem idxs_succ (n : Nat) : idxs (n + 1) = idxs n ++ [(n : Int)] := by unfold idxs; rw [List.range_succ, List.map_append]; rfl
theorem idxs_get {n i : Nat} (h : i < n) : (idxs n).getD i 0 = i := by unfold idxs; simp [List.getD_eq_getElem?_getD, h]
theorem idxs_mem {n : Nat} {x : Int} (h : x ∈ idxs n) : 0 ≤ x ∧ x < n := by
  unfold idxs at h
  obtain ⟨k, hk, rfl⟩ := List.mem_map.1 h
  have := List.mem_range.1 hk
  exact ⟨Int.natCast_nonneg k, by simpa using this⟩
def insK (key : Int → Int) (x : Int) : List Int → List Int
  | [] => [x]
  | y :: r => if key x < key y ∨ (key x = key y ∧ x < y) then x :: y :: r else y :: insK key x r
def sortK (key : Int → Int) : List Int → List Int
  | [] => []
  | x :: r => insK key x (sortK key r)
theorem insK_perm (key : Int → Int) (x : Int) : ∀ l, (insK key x l).Perm (x :: l)
  | [] => .refl _
  | y :: r => by
    unfold insK
    split
    · exact .refl _
    · exact ((insK_perm key x r).cons y).trans (List.Perm.swap x y r)
theorem sortK_perm (key : Int → Int) : ∀ l, (sortK key l).Perm l
  | [] => .refl _
  | x :: r => (insK_perm key x _).trans ((sortK_perm key r).cons x)
theorem lexLt_trans {key : Int → Int} {x y z : Int} (h : lexLt key x y) (k : lexLt key y z) : lexLt key x z := by unfold lexLt at *; omega
theorem insK_sorted {key : Int → Int} {x : Int} : ∀ {l : List Int}, Sorted key l → x ∉ l → Sorted key (insK key x l)
  | [], _, _ => by simp [insK, Sorted]
  | y :: r, h, hx => by
    unfold insK
    have h' := List.pairwise_cons.1 h
    split
    · rename_i hc
      refine List.pairwise_cons.2 ⟨fun z hz => ?_, h⟩
      rcases List.mem_cons.1 hz with rfl | hz
      · exact hc
      · exact lexLt_trans hc (h'.1 z hz)
    · rename_i hc
      refine List.pairwise_cons.2 ⟨fun z hz => ?_, insK_sorted h'.2 (fun hm => hx (List.mem_cons_of_mem _ hm))⟩
      rcases List.mem_cons.1 ((insK_perm key x r).subset hz) with rfl | hz
      · have : z ≠ y := fun e => hx (by rw [e]; exact List.mem_cons_self)
        unfold lexLt; omega
      · exact h'.1 z hz
theorem sortK_sorted {key : Int → Int} : ∀ {l : List Int}, l.Nodup → Sorted key (sortK key l)
  | [], _ => List.Pairwise.nil
  | x :: r, h => by
    have h' := List.nodup_cons.1 h
    exact insK_sorted (sortK_sorted h'.2) fun hm => h'.1 ((sortK_perm key r).subset hm)
/-- The numbers of the elements, by size; of equals the first one first. -/
def sortIdx (l : List Int) : List Int := sortK (fun x => l.getD x.toNat 0) (idxs l.length)
theorem idxs_nodup (n : Nat) : (idxs n).Nodup := by
  unfold idxs
  rw [List.nodup_iff_pairwise_ne, List.pairwise_map]
  exact (List.nodup_iff_pairwise_ne.1 List.nodup_range).imp fun h e => h (Int.ofNat.inj e)
theorem sortIdx_eq {l s : List Int} (hp : s.Perm (idxs l.length)) (hs : Sorted (fun x => l.getD x.toNat 0) s) : s = sortIdx l :=
  List.Perm.eq_of_pairwise (fun a b _ _ h k => by unfold lexLt at h k; omega) hs (sortK_sorted (idxs_nodup _)) (hp.trans (sortK_perm _ _).symm)
theorem sortIdx_perm (l : List Int) : (sortIdx l).Perm (idxs l.length) := sortK_perm _ _
theorem sortIdx_len (l : List Int) : (sortIdx l).length = l.length := by rw [(sortIdx_perm l).length_eq]; simp [idxs]
theorem sortIdx_mem {l : List Int} {x : Int} (h : x ∈ sortIdx l) : 0 ≤ x ∧ x < l.length := idxs_mem ((sortIdx_perm l).subset h)
theorem stable0 {f : Nat} {fi fc : List Value} {a : Option Addr} {c : Nat} {w : World} : Calls Try.prog 90 #[.slice a 0 c, .func (.func f) fi.toArray fc.toArray] w (Pure w (.tuple #[])) := by
  have i0 : ∀ {w : World}, Calls Try.prog 111 #[.slice a 0 c, I 0, I 0, .func (.func f) fi.toArray fc.toArray] w (fun e w' => e = .returned (.tuple #[]) ∧ Chg [] w w') := fun {w} => by
    refine vc111 _ _ _ _ _ _ _ _ w _ ⟨by omega, fun ls w' => match ls with | [.int _ i] => i = 1 ∧ Chg [] w w' | _ => False, fun _ => 0, fun w2 hk => ⟨rfl, Chg.kept hk⟩, ?_⟩
    rintro x1 w3 ⟨rfl, hc⟩
    exact ⟨fun h => by omega, fun _ w16 hk => ⟨rfl, hc.trans (Chg.kept hk)⟩⟩
  have i1 : ∀ {w : World}, Calls Try.prog 98 #[.slice a 0 c, I 0, .func (.func f) fi.toArray fc.toArray] w (fun e w' => e = .returned (.tuple #[]) ∧ Chg [] w w') := fun {w} => by
    refine vc98 _ _ _ _ _ _ _ w _ ⟨fun ls w' => match ls with | [.int _ x, .int _ y] => x = 0 ∧ y = 20 ∧ Chg [] w w' | _ => False, fun _ => 0, fun w2 hk => ⟨rfl, rfl, Chg.kept hk⟩, ?_⟩
    rintro x1 x2 w3 ⟨rfl, rfl, hc⟩
    refine ⟨fun h => by omega, fun _ w7 hk7 => i0.mono fun e w8 he => ?_⟩
    obtain ⟨rfl, hc8⟩ := he
    refine ⟨rfl, hc8.own (by simp) (by simp) (fun h => by cases h), fun ls w' => match ls with | [.int _ z, _, _] => z = 20 ∧ Chg [] w w' | _ => False, fun _ => 0, fun w10 hk => ⟨rfl, (hc.trans (Chg.kept hk7)).trans (hc8.trans (Chg.kept hk))⟩, ?_⟩
    rintro z1 z2 z3 w11 ⟨rfl, hc11⟩
    exact ⟨fun h => by omega, fun _ w22 hk => ⟨rfl, hc11.trans (Chg.kept hk)⟩⟩
  refine vc90 _ _ _ _ _ _ w _ fun w1 hk1 => i1.mono fun e w2 he => ?_
  obtain ⟨rfl, hc2⟩ := he
  refine ⟨rfl, hc2.own (by simp) (by simp) (fun h => by cases h), fun w3 hk3 => ⟨rfl, ?_⟩⟩
  have h := (Chg.kept hk1).trans (hc2.trans (Chg.kept hk3))
  exact ⟨h.os, h.tape, h.output, h.size, fun k hk => h.keep k hk (by simp)⟩

theorem isNaN_any {w : World} (x : Int) : Calls Try.prog 99 #[I x] w (Pure w (.bool false)) := by
  refine vc99 _ w _ ?_
  intro w1 hb1 hk1
  exact ⟨by congr 2; simp, hb1⟩

theorem compare_any {w : World} (x y : Int) : Calls Try.prog 92 #[I x, I y] w (Pure w (I (cmpI x y))) := by
  refine vc92 _ _ w _ ?_
  intro w1 hb1 hk1
  refine Pure.calls (isNaN_any _) fun w2 hd2 => ?_
  have hb2 := hb1.trans (hd2.mono hb1.size)
  refine ⟨_, rfl, .all hd2, ?_⟩
  intro w3 hb3 hk3
  refine Pure.calls (isNaN_any _) fun w4 hd4 => ?_
  have hb4 := hb3.trans (hd4.mono hb3.size)
  refine ⟨_, rfl, .all hd4, ?_, ?_⟩
  · intro h1
    try simp only [Bool.not_eq_true', Bool.not_eq_false', decide_eq_true_eq, decide_eq_false_iff_not] at h1
    refine ⟨?_, ?_⟩
    · intro h2 w5 hb5 hk5
      try simp only [Bool.not_eq_true', Bool.not_eq_false', decide_eq_true_eq, decide_eq_false_iff_not] at h2
      exfalso; first | omega | (simp_all; done)
    · intro h3 w6 hb6 hk6
      try simp only [] at h3
      exfalso; first | omega | (simp_all; done)
  · intro h4
    try simp only [] at h4
    refine ⟨?_, ?_⟩
    · intro h5 w7 hb7 hk7
      try simp only [Bool.not_eq_true', Bool.not_eq_false', decide_eq_true_eq, decide_eq_false_iff_not] at h5
      exfalso; first | omega | (simp_all; done)
    · intro h6
      try simp only [] at h6
      refine ⟨?_, ?_⟩
      · intro h7 w8 hb8 hk8
        try simp only [Bool.not_eq_true', Bool.not_eq_false', decide_eq_true_eq, decide_eq_false_iff_not] at h7
        exact ⟨by unfold cmpI; congr 2; rw [if_pos (by assumption)], hb8⟩
      · intro h8
        try simp only [Bool.not_eq_true', Bool.not_eq_false', decide_eq_true_eq, decide_eq_false_iff_not] at h8
        refine ⟨?_, ?_⟩
        · intro h9 w9 hb9 hk9
          try simp only [Bool.not_eq_true', Bool.not_eq_false', decide_eq_true_eq, decide_eq_false_iff_not] at h9
          exact ⟨by unfold cmpI; congr 2; rw [if_neg (by omega), if_pos (by assumption)], hb9⟩
        · intro h10 w10 hb10 hk10
          try simp only [Bool.not_eq_true', Bool.not_eq_false', decide_eq_true_eq, decide_eq_false_iff_not] at h10
          exact ⟨by unfold cmpI; congr 2; rw [if_neg (by omega), if_neg (by omega)], hb10⟩

theorem bySize1_any {w : World} {l : List Int} {la : Option Addr} {lc : Nat} {a b : Int} {m : Nat} (ha : 0 ≤ a ∧ a < l.length) (hb : 0 ≤ b ∧ b < l.length) (hc : Cells w la (ints l)) (q0 : w.cell? ⟨m, 0, none⟩ = some (.slice la l.length lc)) : Calls Try.prog 91 #[I a, I b, .pointer (some ⟨m, 0, none⟩)] w (Pure w (I (cmpI (l.getD a.toNat 0) (l.getD b.toNat 0)))) := by
  refine vc91 _ _ _ w _ ?_
  refine ⟨_, _, _, cell_at' (q0) (by omega), ?_⟩
  refine load_int hc (.refl _ _) (by omega) fun m3 m4 hm1 => ?_
  refine ⟨_, _, _, cell_at' (q0) (by omega), ?_⟩
  refine load_int hc (.refl _ _) (by omega) fun m7 m8 hm2 => ?_
  intro w1 hb1 hk1
  refine Pure.calls (compare_any _ _) fun w2 hd2 => ?_
  have hb2 := hb1.trans (hd2.mono hb1.size)
  refine ⟨_, rfl, .all hd2, ?_⟩
  intro w3 hb3 hk3
  exact ⟨by rfl, hb3⟩

set_option maxRecDepth 100000 in
theorem bySize_l {w : World} {l : List Int} {la : Option Addr} {lc : Nat} (hc : Cells w la (ints l)) (hl : l.length ≤ 20) : Calls Try.prog 84 #[.slice la l.length lc] w (fun e w' => ∃ a' c', e = .returned (.slice a' l.length c') ∧ l.length ≤ c' ∧ Below w.heap.size w w' ∧ Lies [] w.heap.size w'.heap.size w' a' (ints (sortIdx l))) := by
  refine vc84 _ _ _ w _ ?_
  intro m1 g_m1
  refine ⟨fun ls w' => match ls with | [.sl a n c, .int _ ii] => (0 ≤ ii ∧ ii ≤ l.length) ∧ n = ii.toNat ∧ RowE 3 1 w.heap.size [m1] a n c (ints (idxs ii.toNat)) w' | _ => False, fun ls => match ls with | [_, .int _ ii] => (l.length - ii).toNat | _ => 0, ?_, ?_⟩
  · intro w2 hb2 hk2
    have y2 := hb2.size
    have z2 := hk2.size; have o2 := hk2.own
    simp only [List.mem_cons, List.not_mem_nil, or_false, forall_eq] at o2
    exact ⟨⟨by omega, by omega⟩, rfl, .inr Row.nil⟩
  rintro a1 m2 m3 x1 w3 hb3 ⟨⟨x0, xl⟩, rfl, RR⟩
  have y3 := hb3.size
  refine ⟨?_, ?_⟩
  · intro h1 m4 g_m4 w4 hb4 hk4 hc4_m4
    try simp only [Bool.not_eq_true', Bool.not_eq_false', decide_eq_true_eq, decide_eq_false_iff_not] at h1
    have y4 := hb4.size
    have z4 := hk4.size; have o4 := hk4.own
    simp only [List.mem_cons, List.not_mem_nil, or_false, forall_eq_or_imp, forall_eq] at o4
    have RR_4 := (RR.grow (ms := [m4]) (allc g_m4 all0)).chg (Chg.kept hk4) (fun _ h => h)
    refine append_rowE (P := Try.prog) (bytes := 8) (by kernel_rfl) (by omega) RR_4 (m := 1) (news := [_]) (Cells.obj (vs := [_]) hc4_m4) rfl (List.forall_mem_cons.2 ⟨rfl, by simp⟩) (by omega) (by omega) (by have := hb4.size; omega) hk4.own (by omega) fun aR5 cR5 w5 RR_5r S5 cS5 hS5 => ?_
    have RR_5 : RowE _ _ _ _ _ _ _ _ _ := .inr RR_5r
    have z5 := cS5.size
    have kx5 : KeepX true w.heap.size [m4, m1] (fun _ => False) w4 w5 := cS5.own (fun x hx => ⟨hk4.own x hx, fun h => (hS5 x h).2 hx⟩) (by simp) (fun _ => ⟨hb4.size, fun x hx => by have := (hS5 x hx).1; omega⟩)
    refine ⟨_, _, _, rfl, kx5, (by first | omega | (simp only; omega)), ?_⟩
    intro w6 hb6 hk6
    have y6 := hb6.size
    have z6 := hk6.size; have o6 := hk6.own
    simp only [List.mem_cons, List.not_mem_nil, or_false, forall_eq_or_imp, forall_eq] at o6
    have RR_6 := RR_5.chg (Chg.kept hk6) (fun _ h => h)
    refine ⟨?_, (by first | omega | (simp only; omega))⟩
    exact ⟨⟨by omega, by omega⟩, by omega, by rw [show (x1 + 1).toNat = x1.toNat + 1 by omega, idxs_succ, ints_append, Int.toNat_of_nonneg x0]; exact RR_6.less (by simp)⟩
  · intro h2 w7 hb7 hk7 hc7_m1
    try simp only [Bool.not_eq_true', Bool.not_eq_false', decide_eq_true_eq, decide_eq_false_iff_not] at h2
    have y7 := hb7.size
    have z7 := hk7.size; have o7 := hk7.own
    simp only [List.mem_cons, List.not_mem_nil, or_false, forall_eq] at o7
    have RR_7 := RR.chg (Chg.kept hk7) (fun _ h => h)
    have hk : x1.toNat = l.length := by omega
    rw [hk] at RR_7 ⊢
    by_cases h0 : l.length = 0
    · have hl0 : l = [] := List.length_eq_zero_iff.1 h0
      subst hl0
      refine Pure.calls (stable0 (a := a1) (c := m3)) fun w8 hd8 => ⟨rfl, .all hd8, fun w9 hb9 _ => ⟨a1, m3, rfl, Nat.zero_le _, hb9, lies_nil⟩⟩
    · rcases RR_7 with ⟨_, hz, _⟩ | R7
      · exact absurd hz h0
      obtain ⟨g, rfl, R7⟩ := (RowZ.at (.inr R7) h0 : _)
      have hg1 : g ≠ m1 := fun h => R7.ns g 0 rfl (by simp [h])
      have hgl := R7.lt g 0 rfl
      have hm1 : m1 < w7.heap.size := hk7.own m1 (by simp)
      refine (stableFunc_l (fi := []) (f := 91) (fc := [.pointer (some ⟨m1, 0, none⟩)]) (key := fun x => l.getD x.toNat 0) R7 (by simpa using hg1) hl (fun j k h1 h2 => ?_) ⟨callOk_run (by rfl), fun wj hj x y hx hy => ?_⟩).mono fun e w8 he => ?_
      · rw [idxs_get (by omega), idxs_get (by omega)]; omega
      · have bx := idxs_mem hx
        have bY := idxs_mem hy
        refine Pure.calls (bySize1_any (l := l) (la := la) (lc := lc) (by omega) (by omega) (fun i v hi => ?_) (hj.cell (by simpa using hg1.symm) (cell_obj (vs := [.slice la l.length lc]) hc7_m1 rfl))) fun wk hk => ⟨_, rfl, hk, cmpI_neg⟩
        obtain ⟨b, o, e, hcell⟩ := hc i v hi
        have := cell_lt hcell
        exact ⟨b, o, e, hj.cell (by simp; omega) (cell_keep hb7 hcell)⟩
      obtain ⟨rfl, c8, s, R8, hp, hs⟩ := he
      have hss := sortIdx_eq hp hs
      subst hss
      refine ⟨rfl, c8.own (fun x hx => ⟨hk7.own x hx, by simp at hx; simp [hx]; exact hg1.symm⟩) (by simp) (fun _ => ⟨y7, fun x hx => by simp at hx; rw [hx]; exact hgl.1⟩), fun w9 hb9 hk9 => ?_⟩
      have R9 := R8.chg (Chg.kept hk9) (fun _ h => h)
      refine ⟨_, _, rfl, row_cap R9, hb9, fun i v hi => ?_⟩
      obtain ⟨b, o, e, hcell⟩ := R9.cells i v hi
      exact ⟨b, o, e, ⟨by simp, (R9.lt b o e).1, (R9.lt b o e).2⟩, hcell⟩
end Go.Proofs.R12
end
section
/- The conditions of the functions, printed by program; each is what the generator reckons (kernel_rfl). -/
namespace Go.Proofs
open Go.Vc
set_option maxRecDepth 100000 in
set_option maxHeartbeats 2000000 in
theorem vc62 (p0w0a : Option Addr) (p0w0n : Nat) (p0w0c : Nat) (p0w1a : Option Addr) (p0w1n : Nat) (p0w1c : Nat) (n : Int) (holesa : Option Addr) (holesn : Nat) (holesc : Nat)
    (shaftsa : Option Addr) (shaftsn : Nat) (shaftsc : Nat) (w : World) (R : Ending → World → Prop) (h : ∀ (m1 : Nat), w.heap.size ≤ m1 → ∀ (w1 : World), RowKit.Below w.heap.size w
    w1 → Kept [m1] w w1 → Calls Try.prog 16 #[Value.agg #[Value.slice p0w0a p0w0n p0w0c, Value.slice p0w1a p0w1n p0w1c]] w1 fun (e1 : Ending) (w2 : World) => ∃ (x1 : Int), e1 =
    Ending.returned (Value.int IntKind.i64 x1) ∧ KeepX true w.heap.size [m1] (fun _ => False) w1 w2 ∧ (x1 ≠ 0 → ∀ (w3 : World), RowKit.Below w.heap.size w w3 → Kept [m1] w2 w3 → R
    (Ending.returned (Value.tuple #[Value.pointer none, Value.int IntKind.i64 2])) w3) ∧ (x1 = 0 → (-9223372036854775808 ≤ (↑p0w1n : Int) - 1 ∧ (↑p0w1n : Int) - (1 : Int) ≤
    9223372036854775807) ∧ ∀ (m3 : Nat), w2.heap.size ≤ m3 → ∀ (w4 : World), RowKit.Below w.heap.size w w4 → Kept [m3, m1] w2 w4 → w4.heap[m3]? = some (Obj.cells #[Value.int
    IntKind.i64 n] 3) → Calls Try.prog 50 #[Value.int IntKind.i64 0, Value.int IntKind.i64 ((↑p0w1n : Int) - 1), Value.slice (some { block := m3, off := 0 }) 1 1] w4 fun (e2 :
    Ending) (w5 : World) => ∃ (t1 : Bool), e2 = Ending.returned (Value.bool t1) ∧ KeepX true w.heap.size [m3, m1] (fun _ => False) w4 w5 ∧ ((!t1) = true → ∀ (w6 : World),
    RowKit.Below w.heap.size w w6 → Kept [m3, m1] w5 w6 → R (Ending.returned (Value.tuple #[Value.pointer none, Value.int IntKind.i64 7])) w6) ∧ ((!t1) = false → ∃ (F1 : List Lf →
    World → Prop), ((200 < (↑holesn : Int) → ∀ (w8 : World), RowKit.Below w.heap.size w w8 → Kept [m3, m1] w5 w8 → F1 [Lf.bool (decide (200 < (↑holesn : Int)))] w8) ∧ ((↑holesn :
    Int) ≤ 200 → ∀ (w9 : World), RowKit.Below w.heap.size w w9 → Kept [m3, m1] w5 w9 → F1 [Lf.bool (decide (200 < (↑shaftsn : Int)))] w9)) ∧ ∀ (t2 : Bool) (w10 : World),
    RowKit.Below w.heap.size w w10 → F1 [Lf.bool t2] w10 → ∃ (F2 : List Lf → World → Prop), ((t2 = true → ∀ (w12 : World), RowKit.Below w.heap.size w w12 → Kept [m3, m1] w10 w12 →
    R (Ending.returned (Value.tuple #[Value.pointer none, Value.int IntKind.i64 5])) w12) ∧ (t2 = false → ∀ (w13 : World), RowKit.Below w.heap.size w w13 → Kept [m3, m1] w10 w13 →
    Calls Try.prog 50 #[Value.int IntKind.i64 0, Value.int IntKind.i64 1000000, Value.slice holesa holesn holesc] w13 fun (e3 : Ending) (w14 : World) => ∃ (t3 : Bool), e3 =
    Ending.returned (Value.bool t3) ∧ KeepX true w.heap.size [m3, m1] (fun _ => False) w13 w14 ∧ ∃ (F3 : List Lf → World → Prop), (((!t3) = true → ∀ (w16 : World), RowKit.Below
    w.heap.size w w16 → Kept [m3, m1] w14 w16 → F3 [Lf.bool !t3] w16) ∧ ((!t3) = false → ∀ (w17 : World), RowKit.Below w.heap.size w w17 → Kept [m3, m1] w14 w17 → Calls Try.prog 50
    #[Value.int IntKind.i64 0, Value.int IntKind.i64 1000000, Value.slice shaftsa shaftsn shaftsc] w17 fun (e4 : Ending) (w18 : World) => ∃ (t4 : Bool), e4 = Ending.returned
    (Value.bool t4) ∧ KeepX true w.heap.size [m3, m1] (fun _ => False) w17 w18 ∧ ∀ (w19 : World), RowKit.Below w.heap.size w w19 → Kept [m3, m1] w18 w19 → F3 [Lf.bool !t4] w19)) ∧
    ∀ (t5 : Bool) (w20 : World), RowKit.Below w.heap.size w w20 → F3 [Lf.bool t5] w20 → ∃ (F4 : List Lf → World → Prop), ((t5 = true → ∀ (w22 : World), RowKit.Below w.heap.size w
    w22 → Kept [m3, m1] w20 w22 → R (Ending.returned (Value.tuple #[Value.pointer none, Value.int IntKind.i64 3])) w22) ∧ (t5 = false → ∀ (w23 : World), RowKit.Below w.heap.size w
    w23 → Kept [m3, m1] w20 w23 → F4 [] w23)) ∧ ∀ (w24 : World), RowKit.Below w.heap.size w w24 → F4 [] w24 → ∀ (w25 : World), RowKit.Below w.heap.size w w25 → Kept [m3, m1] w24
    w25 → F2 [] w25)) ∧ ∀ (w26 : World), RowKit.Below w.heap.size w w26 → F2 [] w26 → ∃ (m12 : Nat), ∃ (m13 : Nat), p0w1a = some { block := m12, off := m13 } ∧ (0 ≤ n ∧ n < (↑p0w1n
    : Int)) ∧ ∃ (x4 : Int), ∃ (x5 : Int), ∃ (x6 : Int), ∃ (x7 : Int), ∃ (x8 : Int), ∃ (x9 : Int), w26.cell? { block := m12, off := m13 + n.toNat * 6 } = some (Value.int IntKind.i64
    x4) ∧ w26.cell? { block := m12, off := m13 + n.toNat * 6 + 1 } = some (Value.int IntKind.i64 x5) ∧ w26.cell? { block := m12, off := m13 + n.toNat * 6 + 1 + 1 } = some
    (Value.int IntKind.i64 x6) ∧ w26.cell? { block := m12, off := m13 + n.toNat * 6 + 1 + 1 + 1 } = some (Value.int IntKind.i64 x7) ∧ w26.cell?
    { block := m12, off := m13 + n.toNat * 6 + 1 + 1 + 1 + 1 } = some (Value.int IntKind.i64 x8) ∧ w26.cell? { block := m12, off := m13 + n.toNat * 6 + 1 + 1 + 1 + 1 + 1 } = some
    (Value.int IntKind.i64 x9) ∧ (m12 < w.heap.size ∨ m12 ≠ m3 ∧ m12 ≠ m1) ∧ ∀ (w27 : World), RowKit.Below w.heap.size w w27 → Kept [m3, m1] w26 w27 → RunsTo Try.prog
    (Instr.makeMap 129 none) w27 fun (v1 : Value) (w28 : World) => ∃ (m14 : Nat), v1 = Value.map (some m14) ∧ KeepX true w.heap.size [m3, m1] (fun _ => False) w27 w28 ∧ ∀ (w29 :
    World), RowKit.Below w.heap.size w w29 → Kept [m3, m1] w28 w29 → RunsTo Try.prog (Instr.makeMap 129 none) w29 fun (v2 : Value) (w30 : World) => ∃ (m16 : Nat), v2 = Value.map
    (some m16) ∧ KeepX true w.heap.size [m3, m1] (fun _ => False) w29 w30 ∧ ∀ (m18 : Nat), w30.heap.size ≤ m18 → ∀ (w31 : World), RowKit.Below w.heap.size w w31 → Kept [m18, m3,
    m1] w30 w31 → w31.heap[m18]? = some (Obj.cells #[Value.int IntKind.i64 x4, Value.int IntKind.i64 x5, Value.int IntKind.i64 x6, Value.int IntKind.i64 x7, Value.int IntKind.i64
    x8, Value.int IntKind.i64 x9, Value.slice holesa holesn holesc, Value.slice shaftsa shaftsn shaftsc, Value.map (some m14), Value.map (some m16)] 131) → R (Ending.returned
    (Value.tuple #[Value.pointer (some { block := m18, off := 0 }), Value.int IntKind.i64 0])) w31))) : Calls Try.prog 62 #[Value.agg #[Value.slice p0w0a p0w0n p0w0c, Value.slice
    p0w1a p0w1n p0w1c], Value.int IntKind.i64 n, Value.slice holesa holesn holesc, Value.slice shaftsa shaftsn shaftsc] w R := calls_of_vcj (pure := true) (wrapAt := []) (muts :=
    []) (esc := []) (joins := [(23, [(23, 4)]), (23, [(8, 125), (9, 29)]), (30, [(30, 4)]), (30, [(8, 125), (9, 29)])]) (args := [SV.pv (PV.agg [Lf.sl p0w0a p0w0n p0w0c, Lf.sl
    p0w1a p0w1n p0w1c]), SV.pv (PV.one (Lf.int IntKind.i64 n)), SV.pv (PV.one (Lf.sl holesa holesn holesc)), SV.pv (PV.one (Lf.sl shaftsa shaftsn shaftsc))]) (vs := [Value.agg
    #[Value.slice p0w0a p0w0n p0w0c, Value.slice p0w1a p0w1n p0w1c], Value.int IntKind.i64 n, Value.slice holesa holesn holesc, Value.slice shaftsa shaftsn shaftsc]) Try.func62 rfl
    rfl rfl (Eq.mp (by kernel_rfl) h) 
set_option maxRecDepth 100000 in
set_option maxHeartbeats 2000000 in
theorem vc63 (bb : Nat) (bo : Nat) (w : World) (R : Ending → World → Prop) (h : ∃ (a1 : Option Addr), ∃ (m1 : Nat), ∃ (m2 : Nat), w.cell? { block := bb, off := bo + 6 } = some
    (Value.slice a1 m1 m2) ∧ ∀ (w1 : World), Kept [] w w1 → Calls Try.prog 84 #[Value.slice a1 m1 m2] w1 fun (e1 : Ending) (w2 : World) => ∃ (a2 : Option Addr), ∃ (m3 : Nat), ∃ (m4
    : Nat), e1 = Ending.returned (Value.slice a2 m3 m4) ∧ KeepX false w.heap.size [] (fun _ => False) w1 w2 ∧ ∃ (a3 : Option Addr), ∃ (m6 : Nat), ∃ (m7 : Nat), w2.cell?
    { block := bb, off := bo + 7 } = some (Value.slice a3 m6 m7) ∧ ∀ (w3 : World), Kept [] w2 w3 → Calls Try.prog 84 #[Value.slice a3 m6 m7] w3 fun (e2 : Ending) (w4 : World) => ∃
    (a4 : Option Addr), ∃ (m8 : Nat), ∃ (m9 : Nat), e2 = Ending.returned (Value.slice a4 m8 m9) ∧ KeepX false w.heap.size [] (fun _ => False) w3 w4 ∧ ∃ (F1 : List Lf → World →
    Prop), ∃ (F2 : List Lf → Nat), (∀ (w6 : World), Kept [] w4 w6 → F1 [Lf.sl a2 m3 m4, Lf.int IntKind.i64 0] w6) ∧ ∀ (a5 : Option Addr) (m11 m12 : Nat) (x1 : Int) (w7 : World), F1
    [Lf.sl a5 m11 m12, Lf.int IntKind.i64 x1] w7 → (x1 < (↑m8 : Int) → ∃ (m13 : Nat), ∃ (m14 : Nat), a4 = some { block := m13, off := m14 } ∧ (0 ≤ x1 ∧ x1 < (↑m8 : Int)) ∧ ∃ (x2 :
    Int), w7.cell? { block := m13, off := m14 + x1.toNat * 1 } = some (Value.int IntKind.i64 x2) ∧ ∃ (F3 : List Lf → World → Prop), ∃ (F4 : List Lf → Nat), (∀ (w9 : World), Kept []
    w7 w9 → F3 [Lf.sl a5 m11 m12] w9) ∧ ∀ (a6 : Option Addr) (m15 m16 : Nat) (w10 : World), F3 [Lf.sl a6 m15 m16] w10 → ∃ (F5 : List Lf → World → Prop), ((0 < (↑m15 : Int) → ∃ (a7
    : Option Addr), ∃ (m17 : Nat), ∃ (m18 : Nat), w10.cell? { block := bb, off := bo + 6 } = some (Value.slice a7 m17 m18) ∧ ∃ (m19 : Nat), ∃ (m20 : Nat), a6 = some
    { block := m19, off := m20 } ∧ ((0 : Int) ≤ 0 ∧ 0 < (↑m15 : Int)) ∧ ∃ (x3 : Int), w10.cell? { block := m19, off := m20 + Int.toNat 0 * 1 } = some (Value.int IntKind.i64 x3) ∧ ∃
    (m21 : Nat), ∃ (m22 : Nat), a7 = some { block := m21, off := m22 } ∧ (0 ≤ x3 ∧ x3 < (↑m17 : Int)) ∧ ∃ (x4 : Int), w10.cell? { block := m21, off := m22 + x3.toNat * 1 } = some
    (Value.int IntKind.i64 x4) ∧ ∃ (a8 : Option Addr), ∃ (m23 : Nat), ∃ (m24 : Nat), w10.cell? { block := bb, off := bo + 7 } = some (Value.slice a8 m23 m24) ∧ ∃ (m25 : Nat), ∃
    (m26 : Nat), a8 = some { block := m25, off := m26 } ∧ (0 ≤ x2 ∧ x2 < (↑m23 : Int)) ∧ ∃ (x5 : Int), w10.cell? { block := m25, off := m26 + x2.toNat * 1 } = some (Value.int
    IntKind.i64 x5) ∧ (-9223372036854775808 ≤ x4 - x5 ∧ x4 - x5 ≤ 9223372036854775807) ∧ ∃ (x6 : Int), w10.cell? { block := bb, off := bo + 0 + 0 + 4 + 0 } = some (Value.int
    IntKind.i64 x6) ∧ ∀ (w12 : World), Kept [] w10 w12 → F5 [Lf.bool (decide (x4 - x5 < x6))] w12) ∧ ((↑m15 : Int) ≤ 0 → ∀ (w13 : World), Kept [] w10 w13 → F5 [Lf.bool false] w13))
    ∧ ∀ (t1 : Bool) (w14 : World), F5 [Lf.bool t1] w14 → (t1 = true → ((0 : Int) ≤ 1 ∧ 1 ≤ (↑m15 : Int)) ∧ ∀ (w15 : World), Kept [] w14 w15 → F3 [Lf.sl (subA a6 m16 (Int.toNat 1)
    1) (m15 - Int.toNat 1) (m16 - Int.toNat 1)] w15 ∧ F4 [Lf.sl (subA a6 m16 (Int.toNat 1) 1) (m15 - Int.toNat 1) (m16 - Int.toNat 1)] < F4 [Lf.sl a6 m15 m16]) ∧ (t1 = false → ∃
    (F6 : List Lf → World → Prop), ((0 < (↑m15 : Int) → ∃ (x8 : Int), ∃ (x9 : Int), ∃ (x10 : Int), ∃ (x11 : Int), ∃ (x12 : Int), ∃ (x13 : Int), w14.cell?
    { block := bb, off := bo + 0 } = some (Value.int IntKind.i64 x8) ∧ w14.cell? { block := bb, off := bo + 0 + 1 } = some (Value.int IntKind.i64 x9) ∧ w14.cell?
    { block := bb, off := bo + 0 + 1 + 1 } = some (Value.int IntKind.i64 x10) ∧ w14.cell? { block := bb, off := bo + 0 + 1 + 1 + 1 } = some (Value.int IntKind.i64 x11) ∧ w14.cell?
    { block := bb, off := bo + 0 + 1 + 1 + 1 + 1 } = some (Value.int IntKind.i64 x12) ∧ w14.cell? { block := bb, off := bo + 0 + 1 + 1 + 1 + 1 + 1 } = some (Value.int IntKind.i64
    x13) ∧ ∃ (a9 : Option Addr), ∃ (m29 : Nat), ∃ (m30 : Nat), w14.cell? { block := bb, off := bo + 6 } = some (Value.slice a9 m29 m30) ∧ ∃ (m31 : Nat), ∃ (m32 : Nat), a6 = some
    { block := m31, off := m32 } ∧ ((0 : Int) ≤ 0 ∧ 0 < (↑m15 : Int)) ∧ ∃ (x14 : Int), w14.cell? { block := m31, off := m32 + Int.toNat 0 * 1 } = some (Value.int IntKind.i64 x14) ∧
    ∃ (m33 : Nat), ∃ (m34 : Nat), a9 = some { block := m33, off := m34 } ∧ (0 ≤ x14 ∧ x14 < (↑m29 : Int)) ∧ ∃ (x15 : Int), w14.cell? { block := m33, off := m34 + x14.toNat * 1 } =
    some (Value.int IntKind.i64 x15) ∧ ∃ (a10 : Option Addr), ∃ (m35 : Nat), ∃ (m36 : Nat), w14.cell? { block := bb, off := bo + 7 } = some (Value.slice a10 m35 m36) ∧ ∃ (m37 :
    Nat), ∃ (m38 : Nat), a10 = some { block := m37, off := m38 } ∧ (0 ≤ x2 ∧ x2 < (↑m35 : Int)) ∧ ∃ (x16 : Int), w14.cell? { block := m37, off := m38 + x2.toNat * 1 } = some
    (Value.int IntKind.i64 x16) ∧ ∀ (w17 : World), KeptIn [(0, w14.heap.size)] [] w14 w17 → Calls Try.prog 83 #[Value.agg #[Value.int IntKind.i64 x8, Value.int IntKind.i64 x9,
    Value.int IntKind.i64 x10, Value.int IntKind.i64 x11, Value.int IntKind.i64 x12, Value.int IntKind.i64 x13], Value.int IntKind.i64 x15, Value.int IntKind.i64 x16] w17 fun (e3 :
    Ending) (w18 : World) => ∃ (t2 : Bool), e3 = Ending.returned (Value.bool t2) ∧ KeepX false w.heap.size [] (fun _ => False) w17 w18 ∧ ∀ (w19 : World), Kept [] w18 w19 → F6
    [Lf.bool t2] w19) ∧ ((↑m15 : Int) ≤ 0 → ∀ (w20 : World), Kept [] w14 w20 → F6 [Lf.bool false] w20)) ∧ ∀ (t3 : Bool) (w21 : World), F6 [Lf.bool t3] w21 → (t3 = true → ∃ (m40 :
    Nat), w21.cell? { block := bb, off := bo + 8 } = some (Value.map (some m40)) ∧ ∃ (m41 : Nat), w21.cell? { block := bb, off := bo + 9 } = some (Value.map (some m41)) ∧ ∃ (m42 :
    Nat), ∃ (m43 : Nat), a6 = some { block := m42, off := m43 } ∧ ((0 : Int) ≤ 0 ∧ 0 < (↑m15 : Int)) ∧ ∃ (x17 : Int), w21.cell? { block := m42, off := m43 + Int.toNat 0 * 1 } =
    some (Value.int IntKind.i64 x17) ∧ ∀ (w22 : World), KeptIn [(0, w21.heap.size)] [] w21 w22 → RunsTo Try.prog (Instr.mapEntry 129 (Value.map (some m40)) (Value.int IntKind.i64
    x2)) w22 fun (v1 : Value) (w23 : World) => ∃ (x18 : Int), ∃ (x19 : Int), v1 = Value.tuple #[Value.int IntKind.i64 x18, Value.int IntKind.i64 x19] ∧ (KeepX false w.heap.size []
    (fun (m44 : Nat) => False ∨ w21.heap.size ≤ m44 ∧ m44 < w22.heap.size) w22 w23 ∧ ∀ (m45 : Nat), (∃ (y7 : Array Value), ∃ (m46 : Nat), ∃ (y8 : Nat × Nat), w22.heap[m45]? = some
    (Obj.cells y7 m46 y8)) → w23.heap[m45]? = w22.heap[m45]?) ∧ ∃ (m50 : Nat), ∃ (m51 : Nat), a6 = some { block := m50, off := m51 } ∧ ((0 : Int) ≤ 0 ∧ 0 < (↑m15 : Int)) ∧ ∃ (x20 :
    Int), w21.cell? { block := m50, off := m51 + Int.toNat 0 * 1 } = some (Value.int IntKind.i64 x20) ∧ ∀ (w24 : World), KeptIn [(0, w21.heap.size), (w22.heap.size, w23.heap.size)]
    [] w23 w24 → RunsTo Try.prog ((Instr.entryStore 129 (Value.map (some m40)) (Value.int IntKind.i64 x19) (Value.int IntKind.i64 x20)) >>= fun _ => pure (Value.tuple #[])) w24 fun
    (v2 : Value) (w25 : World) => KeepX false w.heap.size [] (fun _ => False) w24 w25 ∧ ∀ (w26 : World), KeptIn [(0, w25.heap.size)] [] w25 w26 → RunsTo Try.prog (Instr.mapEntry
    129 (Value.map (some m41)) (Value.int IntKind.i64 x17)) w26 fun (v3 : Value) (w27 : World) => ∃ (x21 : Int), ∃ (x22 : Int), v3 = Value.tuple #[Value.int IntKind.i64 x21,
    Value.int IntKind.i64 x22] ∧ KeepX false w.heap.size [] (fun _ => False) w26 w27 ∧ ∀ (w28 : World), KeptIn [(0, w27.heap.size)] [] w27 w28 → RunsTo Try.prog ((Instr.entryStore
    129 (Value.map (some m41)) (Value.int IntKind.i64 x22) (Value.int IntKind.i64 x2)) >>= fun _ => pure (Value.tuple #[])) w28 fun (v4 : Value) (w29 : World) => KeepX false
    w.heap.size [] (fun _ => False) w28 w29 ∧ ((0 : Int) ≤ 1 ∧ 1 ≤ (↑m15 : Int)) ∧ (-9223372036854775808 ≤ x1 + 1 ∧ x1 + (1 : Int) ≤ 9223372036854775807) ∧ ∀ (w30 : World), Kept []
    w29 w30 → F1 [Lf.sl (subA a6 m16 (Int.toNat 1) 1) (m15 - Int.toNat 1) (m16 - Int.toNat 1), Lf.int IntKind.i64 (x1 + 1)] w30 ∧ F2 [Lf.sl (subA a6 m16 (Int.toNat 1) 1) (m15 -
    Int.toNat 1) (m16 - Int.toNat 1), Lf.int IntKind.i64 (x1 + 1)] < F2 [Lf.sl a5 m11 m12, Lf.int IntKind.i64 x1]) ∧ (t3 = false → (-9223372036854775808 ≤ x1 + 1 ∧ x1 + (1 : Int) ≤
    9223372036854775807) ∧ ∀ (w31 : World), Kept [] w21 w31 → F1 [Lf.sl a6 m15 m16, Lf.int IntKind.i64 (x1 + 1)] w31 ∧ F2 [Lf.sl a6 m15 m16, Lf.int IntKind.i64 (x1 + 1)] < F2
    [Lf.sl a5 m11 m12, Lf.int IntKind.i64 x1]))) ∧ ((↑m8 : Int) ≤ x1 → ∀ (w32 : World), Kept [] w7 w32 → R (Ending.returned (Value.tuple #[])) w32)) : Calls Try.prog 63
    #[Value.pointer (some { block := bb, off := bo })] w R := calls_of_vcj (pure := false) (wrapAt := []) (muts := []) (esc := []) (joins := [(2000004, [(49, 4)]), (2000006, [(77,
    4)]), (5000000, [])]) (args := [SV.pv (PV.one (Lf.ptr bb bo))]) (vs := [Value.pointer (some { block := bb, off := bo })]) Try.func63 rfl rfl rfl (Eq.mp (by kernel_rfl) h) 
set_option maxRecDepth 100000 in
set_option maxHeartbeats 2000000 in
theorem vc30 (p0w0a : Option Addr) (p0w0n : Nat) (p0w0c : Nat) (p0w1a : Option Addr) (p0w1n : Nat) (p0w1c : Nat) (fit : Int) (holesa : Option Addr) (holesn : Nat) (holesc : Nat)
    (shaftsa : Option Addr) (shaftsn : Nat) (shaftsc : Nat) (w : World) (R : Ending → World → Prop) (h : ∀ (m1 : Nat), w.heap.size ≤ m1 → ∀ (w1 : World), RowKit.Below w.heap.size w
    w1 → Kept [m1] w w1 → Calls Try.prog 62 #[Value.agg #[Value.slice p0w0a p0w0n p0w0c, Value.slice p0w1a p0w1n p0w1c], Value.int IntKind.i64 fit, Value.slice holesa holesn
    holesc, Value.slice shaftsa shaftsn shaftsc] w1 fun (e1 : Ending) (w2 : World) => ∃ (a1 : Option Addr), ∃ (x1 : Int), e1 = Ending.returned (Value.tuple #[Value.pointer a1,
    Value.int IntKind.i64 x1]) ∧ KeepX true w.heap.size [m1] (fun _ => False) w1 w2 ∧ (x1 ≠ 0 → ∀ (w3 : World), RowKit.Below w.heap.size w w3 → Kept [m1] w2 w3 → R (Ending.returned
    (Value.tuple #[Value.slice none 0 0, Value.int IntKind.i64 x1])) w3) ∧ (x1 = 0 → ∀ (w4 : World), RowKit.Below w.heap.size w w4 → Kept [m1] w2 w4 → Calls Try.prog 63
    #[Value.pointer a1] w4 fun (e2 : Ending) (w5 : World) => e2 = Ending.returned (Value.tuple #[]) ∧ KeepX true w.heap.size [m1] (fun _ => False) w4 w5 ∧ ∃ (F1 : List Lf → World →
    Prop), ∃ (F2 : List Lf → Nat), (∀ (w7 : World), RowKit.Below w.heap.size w w7 → Kept [m1] w5 w7 → F1 [Lf.sl none 0 0, Lf.int IntKind.i64 0] w7) ∧ ∀ (a2 : Option Addr) (m4 m5 :
    Nat) (x2 : Int) (w8 : World), RowKit.Below w.heap.size w w8 → F1 [Lf.sl a2 m4 m5, Lf.int IntKind.i64 x2] w8 → (x2 < (↑shaftsn : Int) → ∃ (m6 : Nat), ∃ (m7 : Nat), a1 = some
    { block := m6, off := m7 } ∧ True ∧ ∃ (m8 : Nat), w8.cell? { block := m6, off := m7 + 8 } = some (Value.map (some m8)) ∧ (m6 < w.heap.size ∨ m6 ≠ m1) ∧ ∀ (w9 : World),
    RowKit.Below w.heap.size w w9 → Kept [m1] w8 w9 → RunsTo Try.prog (Instr.lookup 129 (Value.map (some m8)) (Value.int IntKind.i64 x2) true) w9 fun (v1 : Value) (w10 : World) =>
    ∃ (x3 : Int), ∃ (t1 : Bool), v1 = Value.tuple #[Value.int IntKind.i64 x3, Value.bool t1] ∧ KeepX true w.heap.size [m1] (fun _ => False) w9 w10 ∧ (t1 = true → ∀ (m10 : Nat),
    w10.heap.size ≤ m10 → ∀ (w11 : World), RowKit.Below w.heap.size w w11 → Kept [m10, m1] w10 w11 → w11.heap[m10]? = some (Obj.cells #[Value.int IntKind.i64 x2, Value.int
    IntKind.i64 x3] 68) → RunsTo Try.prog (Builtin.append_ #[58, 58] 58 #[Value.slice a2 m4 m5, Value.slice (some { block := m10, off := 0 }) 1 1]) w11 fun (v2 : Value) (w12 :
    World) => ∃ (a3 : Option Addr), ∃ (m12 : Nat), ∃ (m13 : Nat), v2 = Value.slice a3 m12 m13 ∧ KeepX true w.heap.size [m10, m1] (fun _ => False) w11 w12 ∧ (-9223372036854775808 ≤
    x2 + 1 ∧ x2 + (1 : Int) ≤ 9223372036854775807) ∧ ∀ (w13 : World), RowKit.Below w.heap.size w w13 → Kept [m10, m1] w12 w13 → F1 [Lf.sl a3 m12 m13, Lf.int IntKind.i64 (x2 + 1)]
    w13 ∧ F2 [Lf.sl a3 m12 m13, Lf.int IntKind.i64 (x2 + 1)] < F2 [Lf.sl a2 m4 m5, Lf.int IntKind.i64 x2]) ∧ (t1 = false → (-9223372036854775808 ≤ x2 + 1 ∧ x2 + (1 : Int) ≤
    9223372036854775807) ∧ ∀ (w14 : World), RowKit.Below w.heap.size w w14 → Kept [m1] w10 w14 → F1 [Lf.sl a2 m4 m5, Lf.int IntKind.i64 (x2 + 1)] w14 ∧ F2 [Lf.sl a2 m4 m5, Lf.int
    IntKind.i64 (x2 + 1)] < F2 [Lf.sl a2 m4 m5, Lf.int IntKind.i64 x2])) ∧ ((↑shaftsn : Int) ≤ x2 → ∀ (w15 : World), RowKit.Below w.heap.size w w15 → Kept [m1] w8 w15 → R
    (Ending.returned (Value.tuple #[Value.slice a2 m4 m5, Value.int IntKind.i64 0])) w15))) : Calls Try.prog 30 #[Value.agg #[Value.slice p0w0a p0w0n p0w0c, Value.slice p0w1a p0w1n
    p0w1c], Value.int IntKind.i64 fit, Value.slice holesa holesn holesc, Value.slice shaftsa shaftsn shaftsc] w R := calls_of_vc (pure := true) (wrapAt := []) (muts := []) (esc :=
    []) (args := [SV.pv (PV.agg [Lf.sl p0w0a p0w0n p0w0c, Lf.sl p0w1a p0w1n p0w1c]), SV.pv (PV.one (Lf.int IntKind.i64 fit)), SV.pv (PV.one (Lf.sl holesa holesn holesc)), SV.pv
    (PV.one (Lf.sl shaftsa shaftsn shaftsc))]) (vs := [Value.agg #[Value.slice p0w0a p0w0n p0w0c, Value.slice p0w1a p0w1n p0w1c], Value.int IntKind.i64 fit, Value.slice holesa
    holesn holesc, Value.slice shaftsa shaftsn shaftsc]) Try.func30 rfl rfl rfl (Eq.mp (by kernel_rfl) h) 
set_option maxRecDepth 100000 in
set_option maxHeartbeats 2000000 in
theorem vc31 (p0w0a : Option Addr) (p0w0n : Nat) (p0w0c : Nat) (p0w1a : Option Addr) (p0w1n : Nat) (p0w1c : Nat) (fit : Int) (holesa : Option Addr) (holesn : Nat) (holesc : Nat)
    (shaftsa : Option Addr) (shaftsn : Nat) (shaftsc : Nat) (w : World) (R : Ending → World → Prop) (h : ∀ (m1 : Nat), w.heap.size ≤ m1 → ∀ (w1 : World), RowKit.Below w.heap.size w
    w1 → Kept [m1] w w1 → Calls Try.prog 62 #[Value.agg #[Value.slice p0w0a p0w0n p0w0c, Value.slice p0w1a p0w1n p0w1c], Value.int IntKind.i64 fit, Value.slice holesa holesn
    holesc, Value.slice shaftsa shaftsn shaftsc] w1 fun (e1 : Ending) (w2 : World) => ∃ (a1 : Option Addr), ∃ (x1 : Int), e1 = Ending.returned (Value.tuple #[Value.pointer a1,
    Value.int IntKind.i64 x1]) ∧ KeepX true w.heap.size [m1] (fun _ => False) w1 w2 ∧ (x1 ≠ 0 → ∀ (w3 : World), RowKit.Below w.heap.size w w3 → Kept [m1] w2 w3 → R (Ending.returned
    (Value.tuple #[Value.slice none 0 0, Value.slice none 0 0, Value.int IntKind.i64 x1])) w3) ∧ (x1 = 0 → ∀ (w4 : World), RowKit.Below w.heap.size w w4 → Kept [m1] w2 w4 → Calls
    Try.prog 63 #[Value.pointer a1] w4 fun (e2 : Ending) (w5 : World) => e2 = Ending.returned (Value.tuple #[]) ∧ KeepX true w.heap.size [m1] (fun _ => False) w4 w5 ∧ ∀ (w6 :
    World), RowKit.Below w.heap.size w w6 → Kept [m1] w5 w6 → Calls Try.prog 64 #[Value.pointer a1] w6 fun (e3 : Ending) (w7 : World) => ∃ (m4 : Nat), ∃ (m5 : Nat), e3 =
    Ending.returned (Value.tuple #[Value.map (some m4), Value.map (some m5)]) ∧ KeepX true w.heap.size [m1] (fun _ => False) w6 w7 ∧ ∀ (w8 : World), RowKit.Below w.heap.size w w8 →
    Kept [m1] w7 w8 → Calls Try.prog 65 #[Value.map (some m4)] w8 fun (e4 : Ending) (w9 : World) => ∃ (a2 : Option Addr), ∃ (m7 : Nat), ∃ (m8 : Nat), e4 = Ending.returned
    (Value.slice a2 m7 m8) ∧ KeepX true w.heap.size [m1] (fun _ => False) w8 w9 ∧ ∀ (w10 : World), RowKit.Below w.heap.size w w10 → Kept [m1] w9 w10 → Calls Try.prog 65 #[Value.map
    (some m5)] w10 fun (e5 : Ending) (w11 : World) => ∃ (a3 : Option Addr), ∃ (m10 : Nat), ∃ (m11 : Nat), e5 = Ending.returned (Value.slice a3 m10 m11) ∧ KeepX true w.heap.size
    [m1] (fun _ => False) w10 w11 ∧ ∀ (w12 : World), RowKit.Below w.heap.size w w12 → Kept [m1] w11 w12 → R (Ending.returned (Value.tuple #[Value.slice a2 m7 m8, Value.slice a3 m10
    m11, Value.int IntKind.i64 0])) w12)) : Calls Try.prog 31 #[Value.agg #[Value.slice p0w0a p0w0n p0w0c, Value.slice p0w1a p0w1n p0w1c], Value.int IntKind.i64 fit, Value.slice
    holesa holesn holesc, Value.slice shaftsa shaftsn shaftsc] w R := calls_of_vc (pure := true) (wrapAt := []) (muts := []) (esc := []) (args := [SV.pv (PV.agg [Lf.sl p0w0a p0w0n
    p0w0c, Lf.sl p0w1a p0w1n p0w1c]), SV.pv (PV.one (Lf.int IntKind.i64 fit)), SV.pv (PV.one (Lf.sl holesa holesn holesc)), SV.pv (PV.one (Lf.sl shaftsa shaftsn shaftsc))]) (vs :=
    [Value.agg #[Value.slice p0w0a p0w0n p0w0c, Value.slice p0w1a p0w1n p0w1c], Value.int IntKind.i64 fit, Value.slice holesa holesn holesc, Value.slice shaftsa shaftsn shaftsc])
    Try.func31 rfl rfl rfl (Eq.mp (by kernel_rfl) h) 
end Go.Proofs
end
section
/- Pairs: what box.pair does. -/
namespace Go.Proofs.R12
open Go.Vc Go.RowKit Go.Proofs

theorem u3 : Try.prog.underlying 3 = some (.int .i64) := by kernel_rfl
theorem keyI_chk (b : Bool) (k : Int) (w : World) : (Instr.checkKey b 10000 3 (I k)).run Try.prog w = .ok () w := by cases b <;> kernel_rfl
theorem keyI : KeyNow Try.prog 3 I := ⟨⟨_, u3, fun k k' => by simp [Instr.sameNow]; rfl⟩, keyI_chk⟩

/-- Cells stay where a map is changed. -/
theorem cells_map {w w' : World} {a : Option Addr} {vs : List Value} (h : Cells w a vs) {K : Type} {enc : K → Value} {tm : Nat} {m : List (K × Value)} (hm : MapC w tm enc m) (hc : Chg [tm] w w') : Cells w' a vs := fun i v hi => by
  obtain ⟨b, o, e, hcell⟩ := h i v hi
  refine ⟨b, o, e, hc.cell (fun hb => ?_) hcell⟩
  simp only [List.mem_singleton] at hb
  subst hb
  obtain ⟨es, clock, h1, _⟩ := hm
  unfold World.cell? at hcell
  simp [h1] at hcell
theorem cells_chg {w w' : World} {a : Option Addr} {vs : List Value} (h : Cells w a vs) (hc : Chg [] w w') : Cells w' a vs := fun i v hi => by
  obtain ⟨b, o, e, hcell⟩ := h i v hi
  exact ⟨b, o, e, hc.cell (by simp) hcell⟩

def smallQ (f : Fit) (H S : List Int) (s h : Int) : Bool := decide (H.getD h.toNat 0 - S.getD s.toNat 0 < f.gap.1)
def pstep (f : Fit) (H S : List Int) (st : List Int × List (Int × Int)) (s : Int) : List Int × List (Int × Int) :=
  match st.1.dropWhile (smallQ f H S s) with
  | [] => ([], st.2)
  | h :: t => if isF f (H.getD h.toNat 0) (S.getD s.toNat 0) then (t, st.2 ++ [(s, h)]) else (h :: t, st.2)
def pairSt (f : Fit) (H S : List Int) (n : Nat) : List Int × List (Int × Int) := ((sortIdx S).take n).foldl (pstep f H S) (sortIdx H, [])
/-- The pairs (shaft, hole) in the order in which they are made. -/
def pairK (f : Fit) (H S : List Int) : List (Int × Int) := (pairSt f H S S.length).2

theorem pairSt_succ {f : Fit} {H S : List Int} {n : Nat} (h : n < S.length) : pairSt f H S (n + 1) = pstep f H S (pairSt f H S n) ((sortIdx S).getD n 0) := by
  have hl : n < (sortIdx S).length := by rw [sortIdx_len]; exact h
  unfold pairSt
  rw [List.take_succ_eq_append_getElem hl, List.foldl_append]
  simp [List.getD_eq_getElem?_getD, hl]
theorem pstep_suf {f : Fit} {H S : List Int} {st : List Int × List (Int × Int)} {s : Int} : (pstep f H S st s).1 <:+ st.1 := by
  unfold pstep
  have h := List.dropWhile_suffix (l := st.1) (smallQ f H S s)
  split
  · exact List.nil_suffix
  · rename_i a t e
    rw [e] at h
    split
    · exact (List.suffix_cons a t).trans h
    · exact h
/-- Holes that are left have no shaft, shafts that come have no hole. -/
theorem pairSt_inv {f : Fit} {H S : List Int} : ∀ {n : Nat}, n ≤ S.length → (pairSt f H S n).1 <:+ sortIdx H ∧ (∀ p ∈ (pairSt f H S n).2, p.1 ∈ (sortIdx S).take n ∧ p.2 ∈ sortIdx H ∧ p.2 ∉ (pairSt f H S n).1)
  | 0, _ => by simp [pairSt]
  | n + 1, h => by
    obtain ⟨h1, h2⟩ := pairSt_inv (f := f) (H := H) (S := S) (n := n) (by omega)
    have hl : n < (sortIdx S).length := by rw [sortIdx_len]; omega
    have hnd : (sortIdx H).Nodup := (sortIdx_perm H).nodup_iff.2 (idxs_nodup _)
    rw [pairSt_succ (by omega)]
    have hs := pstep_suf (f := f) (H := H) (S := S) (st := pairSt f H S n) (s := (sortIdx S).getD n 0)
    refine ⟨hs.trans h1, ?_⟩
    have htk : (sortIdx S).take (n + 1) = (sortIdx S).take n ++ [(sortIdx S).getD n 0] := by
      rw [List.take_succ_eq_append_getElem hl]; simp [List.getD_eq_getElem?_getD, hl]
    have old : ∀ p ∈ (pairSt f H S n).2, p.1 ∈ (sortIdx S).take (n + 1) ∧ p.2 ∈ sortIdx H ∧ p.2 ∉ (pstep f H S (pairSt f H S n) ((sortIdx S).getD n 0)).1 := fun p hp => by
      obtain ⟨g1, g2, g3⟩ := h2 p hp
      exact ⟨by rw [htk]; exact List.mem_append_left _ g1, g2, fun hm => g3 (hs.subset hm)⟩
    intro p hp
    have hd := List.dropWhile_suffix (l := (pairSt f H S n).1) (smallQ f H S ((sortIdx S).getD n 0))
    have hsuf := hd.trans h1
    unfold pstep at hp
    split at hp
    · exact old p hp
    · rename_i a t e
      split at hp
      · rename_i hF
        rcases List.mem_append.1 hp with hp | hp
        · exact old p hp
        · simp only [List.mem_singleton] at hp
          subst hp
          refine ⟨by rw [htk]; simp, hsuf.subset (by rw [e]; exact List.mem_cons_self), ?_⟩
          unfold pstep
          simp only [e, hF, if_true]
          have := (hnd.sublist hsuf.sublist)
          rw [e] at this
          exact (List.nodup_cons.1 this).1
      · exact old p hp

def getsV (ps : List (Int × Int)) : List (Int × Value) := ps.map fun p => (p.1, I p.2)
def takenV (ps : List (Int × Int)) : List (Int × Value) := ps.map fun p => (p.2, I p.1)
theorem look_none {ps : List (Int × Value)} {k : Int} (h : ∀ p ∈ ps, p.1 ≠ k) : ps.lookup k = none := by
  induction ps with
  | nil => rfl
  | cons p r ih =>
    obtain ⟨a, b⟩ := p
    have h1 := h (a, b) List.mem_cons_self
    simp only at h1
    simp only [List.lookup]
    have : (k == a) = false := by simpa using fun e => h1 e.symm
    rw [this]
    exact ih fun p hp => h p (List.mem_cons_of_mem _ hp)

/-- A box in memory. -/
def boxV (f : Fit) (aH : Option Addr) (nH cH : Nat) (aS : Option Addr) (nS cS : Nat) (mg mt : Nat) : List Value := f.cells ++ [.slice aH nH cH, .slice aS nS cS, .map (some mg), .map (some mt)]
structure BoxIs (w : World) (bb : Nat) (f : Fit) (H S : List Int) (aH : Option Addr) (cH : Nat) (aS : Option Addr) (cS : Nat) (mg mt : Nat) (ps : List (Int × Int)) : Prop where
  cells : Cells w (some ⟨bb, 0, none⟩) (boxV f aH H.length cH aS S.length cS mg mt)
  h : Cells w aH (ints H)
  s : Cells w aS (ints S)
  g : MapC w mg I (getsV ps)
  t : MapC w mt I (takenV ps)
  ne : mg ≠ mt
section
variable {w w' : World} {bb : Nat} {f : Fit} {H S : List Int} {aH : Option Addr} {cH : Nat} {aS : Option Addr} {cS : Nat} {mg mt : Nat} {ps : List (Int × Int)}
theorem BoxIs.chg (h : BoxIs w bb f H S aH cH aS cS mg mt ps) (hc : Chg [] w w') : BoxIs w' bb f H S aH cH aS cS mg mt ps :=
  ⟨cells_chg h.cells hc, cells_chg h.h hc, cells_chg h.s hc, h.g.chg hc (by simp), h.t.chg hc (by simp), h.ne⟩
theorem BoxIs.at (h : BoxIs w bb f H S aH cH aS cS mg mt ps) {i : Nat} {v : Value} (hv : (boxV f aH H.length cH aS S.length cS mg mt)[i]? = some v) : w.cell? ⟨bb, i, none⟩ = some v := by
  have := h.cells.at hv; rwa [Nat.zero_add] at this
end

theorem load_n {w : World} {a : Option Addr} {l : List Int} {i : Int} {n : Nat} {X : Nat → Nat → Int → Prop} (h : Cells w a (ints l)) (hn : l.length = n) (hi0 : 0 ≤ i ∧ i < (n : Int)) (k : ∀ m o, X m o (l.getD i.toNat 0)) :
    ∃ m o, a = some ⟨m, o, none⟩ ∧ (0 ≤ i ∧ i < (n : Int)) ∧ ∃ x0 : Int, w.cell? ⟨m, o + i.toNat * 1, none⟩ = some (I x0) ∧ X m o x0 := by
  subst hn
  exact load_int h (.refl _ _) hi0 fun m o _ => k m o
theorem chg_of_in {w w' : World} {rs : List (Nat × Nat)} (h : KeptIn ((0, w.heap.size) :: rs) [] w w') : Chg [] w w' := h.chg
/-- A map that is changed in a drawn region. -/
theorem map_keepM {K : Type} {enc : K → Value} {tm base : Nat} {m : List (K × Value)} {gh : Nat → Prop} {w w' : World} (hm : MapC w tm enc m) (hc : Chg [tm] w w') (hg : ∀ b, gh b → b < w.heap.size ∧ b ≠ tm) :
    KeepX false base [] gh w w' ∧ CellsKept w w' :=
  ⟨hc.own (by simp) (fun b hb => ⟨(hg b hb).1, by simpa using (hg b hb).2⟩) (fun h => by cases h), fun b hb => hc.keep b hb.lt fun h => by
    simp only [List.mem_singleton] at h
    subst h
    obtain ⟨es, clock, h1, _⟩ := hm
    obtain ⟨c, T, r, h2⟩ := hb
    rw [h1] at h2; cases h2⟩
def headQ (q : Int → Bool) : List Int → Bool
  | [] => false
  | h :: _ => q h
theorem drop_head {q : Int → Bool} {l : List Int} (h : headQ q l = false) : l.dropWhile q = l := by
  cases l with
  | nil => rfl
  | cons a t => simp only [headQ] at h; simp [List.dropWhile, h]
set_option maxRecDepth 100000 in
set_option maxHeartbeats 1000000 in
theorem pair_l {w : World} {bb : Nat} {f : Fit} {H S : List Int} {aH : Option Addr} {cH : Nat} {aS : Option Addr} {cS : Nat} {mg mt : Nat} (B : BoxIs w bb f H S aH cH aS cS mg mt []) (hH : ∀ x ∈ H, 0 ≤ x ∧ x ≤ 1000000) (hS : ∀ x ∈ S, 0 ≤ x ∧ x ≤ 1000000)
    (lH : H.length ≤ 20) (lS : S.length ≤ 20) : Calls Try.prog 63 #[.pointer (some ⟨bb, 0, none⟩)] w fun e w' => e = .returned (.tuple #[]) ∧ Chg [mg, mt] w w' ∧ BoxIs w' bb f H S aH cH aS cS mg mt (pairK f H S) := by
  have bH : ∀ i : Nat, 0 ≤ H.getD i 0 ∧ H.getD i 0 ≤ 1000000 := fun i => by
    rw [List.getD_eq_getElem?_getD]
    cases h : H[i]? with
    | none => simp
    | some v => exact hH v (List.mem_of_getElem? h)
  have bS : ∀ i : Nat, 0 ≤ S.getD i 0 ∧ S.getD i 0 ≤ 1000000 := fun i => by
    rw [List.getD_eq_getElem?_getD]
    cases h : S[i]? with
    | none => simp
    | some v => exact hS v (List.mem_of_getElem? h)
  refine vc63 _ _ w _ ⟨_, _, _, cell_at' (B.at (i := 6) rfl) (by omega), fun w1 hk1 => ?_⟩
  have B1 := B.chg (Chg.kept hk1)
  refine (bySize_l B1.h lH).mono fun e1 w2 he => ?_
  obtain ⟨aR, cR, rfl, hcR, hb2, LR⟩ := he
  have B2 := B1.chg (Chg.of_below hb2)
  refine ⟨_, _, _, rfl, .all hb2, _, _, _, cell_at' (B2.at (i := 7) rfl) (by omega), fun w3 hk3 => ?_⟩
  have B3 := B2.chg (Chg.kept hk3)
  refine (bySize_l B3.s lS).mono fun e2 w4 he => ?_
  obtain ⟨aO, cO, rfl, hcO, hb4, LO⟩ := he
  have B4 := B3.chg (Chg.of_below hb4)
  have c14 : Chg [] w w4 := (Chg.kept hk1).trans ((Chg.of_below hb2).trans ((Chg.kept hk3).trans (Chg.of_below hb4)))
  have CR4 := cells_chg (cells_chg LR.cells (Chg.kept hk3)) (Chg.of_below hb4)
  refine ⟨_, _, _, rfl, .all hb4, fun ls w' => match ls with | [.sl a n c, .int _ ii] => (0 ≤ ii ∧ ii ≤ S.length) ∧ (pairSt f H S ii.toNat).1.length = n ∧ n ≤ c ∧ Cells w' a (ints (pairSt f H S ii.toNat).1) ∧ Cells w' aO (ints (sortIdx S)) ∧ BoxIs w' bb f H S aH cH aS cS mg mt (pairSt f H S ii.toNat).2 ∧ Chg [mg, mt] w w' | _ => False,
    fun ls => match ls with | [_, .int _ ii] => (S.length - ii).toNat | _ => 0, fun w6 hk6 => ⟨⟨by omega, by omega⟩, sortIdx_len H, hcR, cells_chg CR4 (Chg.kept hk6), cells_chg LO.cells (Chg.kept hk6), B4.chg (Chg.kept hk6), (c14.trans (Chg.kept hk6)).mono (by simp)⟩, ?_⟩
  rintro a5 m11 m12 x1 w7 ⟨⟨x0, xl⟩, hn7, hc7, CR7, CO7, B7, G7⟩
  refine ⟨fun hlt => ?_, fun hge w32 hk => ?_⟩
  rotate_left
  · have : x1.toNat = S.length := by omega
    rw [this] at B7
    exact ⟨rfl, G7.trans ((Chg.kept hk).mono (by simp)), B7.chg (Chg.kept hk)⟩
  have hx1 : x1.toNat < S.length := by omega
  obtain ⟨iv1, iv2⟩ := pairSt_inv (f := f) (H := H) (S := S) (n := x1.toNat) (by omega)
  have hsm : (sortIdx S).getD x1.toNat 0 ∈ sortIdx S := by
    have hl : x1.toNat < (sortIdx S).length := by rw [sortIdx_len]; exact hx1
    simp [List.getD_eq_getElem?_getD, hl]
  have hps := pairSt_succ (f := f) (H := H) (S := S) hx1
  refine load_n CO7 (sortIdx_len S) ⟨x0, by omega⟩ fun m13 m14 => ?_
  have hs := sortIdx_mem hsm
  have hsn : ∀ p ∈ (pairSt f H S x1.toNat).2, p.1 ≠ (sortIdx S).getD x1.toNat 0 := fun p hp e => by
    have h1 := (iv2 p hp).1
    rw [e] at h1
    have hl : x1.toNat < (sortIdx S).length := by rw [sortIdx_len]; exact hx1
    have hnd : (sortIdx S).Nodup := (sortIdx_perm S).nodup_iff.2 (idxs_nodup _)
    obtain ⟨k, hk, he⟩ := List.getElem_of_mem h1
    simp only [List.length_take] at hk
    rw [List.getElem_take] at he
    simp only [List.getD_eq_getElem?_getD, hl, List.getElem?_eq_getElem, Option.getD_some] at he
    have := (List.getElem_inj hnd).1 he
    omega
  generalize (sortIdx S).getD x1.toNat 0 = s at hps hs hsn hsm ⊢
  generalize hst : pairSt f H S x1.toNat = st at *
  obtain ⟨rest, ps⟩ := st
  simp only at hn7 CR7 B7 iv1 iv2 hsn
  refine ⟨fun ls w' => match ls with | [.sl a n c] => ∃ r : List Int, r.length = n ∧ n ≤ c ∧ r.dropWhile (smallQ f H S s) = rest.dropWhile (smallQ f H S s) ∧ r <:+ rest ∧ Cells w' a (ints r) ∧ Chg [] w7 w' | _ => False, fun ls => match ls with | [.sl _ n _] => n | _ => 0, fun w9 hk9 => ⟨rest, hn7, hc7, rfl, List.suffix_refl _, cells_chg CR7 (Chg.kept hk9), Chg.kept hk9⟩, ?_⟩
  rintro a6 m15 m16 w10 ⟨r, rfl, hc10, hdw, hsuf, CR10, g10⟩
  have B10 := B7.chg g10
  have hr : ∀ x ∈ r, 0 ≤ x ∧ x < H.length := fun x hx => sortIdx_mem (iv1.subset (hsuf.subset hx))
  have h0 : 0 < r.length → 0 ≤ r.getD 0 0 ∧ r.getD 0 0 < H.length := fun h => hr _ (by cases r with | nil => simp at h | cons a t => simp)
  refine ⟨fun ls w' => match ls with | [.bool t] => t = headQ (smallQ f H S s) r ∧ Chg [] w10 w' | _ => False, ⟨fun hp => ?_, fun hp w13 hk => ?_⟩, ?_⟩
  · have hp' : 0 < r.length := by omega
    refine ⟨_, _, _, cell_at' (B10.at (i := 6) rfl) (by omega), ?_⟩
    refine load_n CR10 rfl ⟨by omega, hp⟩ fun m19 m20 => ?_
    refine load_n B10.h rfl (h0 hp') fun m21 m22 => ?_
    refine ⟨_, _, _, cell_at' (B10.at (i := 7) rfl) (by omega), ?_⟩
    refine load_n B10.s rfl hs fun m25 m26 => ?_
    have q1 := bH (r.getD 0 0).toNat
    have q2 := bS s.toNat
    refine ⟨⟨by simp only [Int.toNat_zero]; omega, by simp only [Int.toNat_zero]; omega⟩, _, cell_at' (B10.at (i := 4) rfl) (by omega), fun w12 hk => ⟨?_, Chg.kept hk⟩⟩
    cases r with
    | nil => simp at hp'
    | cons a t => rfl
  · have : r = [] := List.length_eq_zero_iff.1 (by omega)
    subst this
    exact ⟨rfl, Chg.kept hk⟩
  rintro t1 w14 ⟨rfl, g14⟩
  have B14 := B10.chg g14
  have CR14 := cells_chg CR10 g14
  refine ⟨fun ht => ?_, fun ht => ?_⟩
  · cases r with
    | nil => simp [headQ] at ht
    | cons a t =>
      obtain ⟨q, hq, Cq⟩ := cells_tail CR14 (by simp) hc10
      refine ⟨⟨by omega, by simp; omega⟩, fun w15 hk => ⟨⟨t, by simp, by omega, ?_, (List.suffix_cons a t).trans hsuf, ?_, g10.trans (g14.trans (Chg.kept hk))⟩, by simp⟩⟩
      · rw [← hdw]; simp only [headQ] at ht; simp [List.dropWhile, ht]
      · rw [show Int.toNat 1 = 1 from rfl, hq]; exact cells_chg Cq (Chg.kept hk)
  have hdr := drop_head ht
  rw [hdr] at hdw
  refine ⟨fun ls w' => match ls with | [.bool t] => t = headQ (fun h => decide (isF f (H.getD h.toNat 0) (S.getD s.toNat 0))) r ∧ Chg [] w14 w' | _ => False, ⟨fun hp => ?_, fun hp w20 hk => ?_⟩, ?_⟩
  · have hp' : 0 < r.length := by omega
    refine ⟨_, _, _, _, _, _, cell_at' (B14.at (i := 0) rfl) (by omega), cell_at' (B14.at (i := 1) rfl) (by omega), cell_at' (B14.at (i := 2) rfl) (by omega), cell_at' (B14.at (i := 3) rfl) (by omega), cell_at' (B14.at (i := 4) rfl) (by omega), cell_at' (B14.at (i := 5) rfl) (by omega), ?_⟩
    refine ⟨_, _, _, cell_at' (B14.at (i := 6) rfl) (by omega), ?_⟩
    refine load_n CR14 rfl ⟨by omega, hp⟩ fun m31 m32 => ?_
    refine load_n B14.h rfl (h0 hp') fun m33 m34 => ?_
    refine ⟨_, _, _, cell_at' (B14.at (i := 7) rfl) (by omega), ?_⟩
    refine load_n B14.s rfl hs fun m37 m38 => ?_
    intro w17 hk17
    have q1 := bH (r.getD 0 0).toNat
    have q2 := bS s.toNat
    refine Pure.calls (is_any f _ _ (by simp only [Int.toNat_zero]; omega) (by omega)) fun w18 hd => ⟨_, rfl, .all hd, fun w19 hk => ⟨?_, (chg_of_in hk17).trans ((Chg.of_below hd).trans (Chg.kept hk))⟩⟩
    cases r with
    | nil => simp at hp'
    | cons a t => rfl
  · have : r = [] := List.length_eq_zero_iff.1 (by omega)
    subst this
    exact ⟨rfl, Chg.kept hk⟩
  rintro t3 w21 ⟨rfl, g21⟩
  have B21 := B14.chg g21
  have CR21 := cells_chg CR14 g21
  have g7 : Chg [] w7 w21 := g10.trans (g14.trans g21)
  have CO21 := cells_chg CO7 g7
  refine ⟨fun ht3 => ?_, fun ht3 => ⟨⟨by omega, by omega⟩, fun w31 hk => ⟨?_, by simp only; omega⟩⟩⟩
  rotate_left
  · have e1 : pairSt f H S (x1 + 1).toNat = (r, ps) := by
      rw [show (x1 + 1).toNat = x1.toNat + 1 by omega, hps]
      unfold pstep
      rw [← hdw]
      cases r with
      | nil => rfl
      | cons a t =>
        simp only [headQ, decide_eq_false_iff_not] at ht3
        exact if_neg ht3
    simp only [e1]
    exact ⟨⟨by omega, by omega⟩, (by first | rfl | trivial), hc10, cells_chg CR21 (Chg.kept hk), cells_chg CO21 (Chg.kept hk), B21.chg (Chg.kept hk), G7.trans ((g7.trans (Chg.kept hk)).mono (by simp))⟩
  obtain ⟨a, t, rfl⟩ : ∃ a t, r = a :: t := by
    cases r with
    | nil => cases ht3
    | cons a t => exact ⟨a, t, rfl⟩
  replace ht3 : isF f (H.getD a.toNat 0) (S.getD s.toNat 0) := of_decide_eq_true ht3
  have hgb : mg < w21.heap.size := B21.g.lt
  have htb : mt < w21.heap.size := B21.t.lt
  have ham : a ∈ rest := hsuf.subset List.mem_cons_self
  have hlen : (0 : Int) < ((a :: t).length : Int) := by simp only [List.length_cons]; omega
  refine ⟨_, cell_at' (B21.at (i := 8) rfl) (by omega), _, cell_at' (B21.at (i := 9) rfl) (by omega), ?_⟩
  refine load_n CR21 rfl ⟨by omega, hlen⟩ fun m42 m43 => ?_
  intro w22 hk22
  have c22 := chg_of_in hk22
  have B22 := B21.chg c22
  refine entry_new keyI (P := Try.prog) (mt := 129) (vt := 3) (by kernel_rfl) B22.g s (z := I 0) (by kernel_rfl) (look_none fun p hp => ?_) fun w23 clock M23 c23 => ?_
  · obtain ⟨p', h1, rfl⟩ := List.mem_map.1 hp; exact hsn p' h1
  refine ⟨_, _, rfl, map_keepM B22.g c23 (fun b hb => by
    rcases hb with h | h
    · exact h.elim
    · exact ⟨h.2, by omega⟩), ?_⟩
  refine load_n CR21 rfl ⟨by omega, hlen⟩ fun m50 m51 => ?_
  intro w24 hk24
  have s22 := c22.size
  have s23 := c23.size
  have l24 : ∀ k, k < w21.heap.size → w24.heap[k]? = w23.heap[k]? := fun k hk => hk24.block k (by omega) (by simp) ⟨_, List.mem_cons_self, Nat.zero_le _, hk⟩
  have M24 : MapP w24 mg I (getsV ps) s clock := by
    obtain ⟨es, z, h1, h2, h3⟩ := M23
    exact ⟨es, z, by rw [l24 mg hgb]; exact h1, h2, h3⟩
  have c24 : Chg [mg] w21 w24 := ⟨hk24.os.trans (c23.os.trans c22.os), hk24.tape.trans (c23.tape.trans c22.tape), hk24.output.trans (c23.output.trans c22.output), Nat.le_trans s22 (Nat.le_trans s23 hk24.size), fun k hk hn => (l24 k hk).trans ((c23.keep k (by omega) hn).trans (c22.keep k hk (by simp)))⟩
  refine entry_store M24 fun w25 M25 c25 => ?_
  have g25 : Chg [mg] w21 w25 := c24.trans c25
  refine ⟨c25.own (by simp) (by simp) (fun h => by cases h), fun w26 hk26 => ?_⟩
  have c26 := chg_of_in hk26
  have T26 : MapC w26 mt I (takenV ps) := (B21.t.chg g25 (by simpa using B21.ne.symm)).chg c26 (by simp)
  refine entry_new keyI (P := Try.prog) (mt := 129) (vt := 3) (by kernel_rfl) T26 a (z := I 0) (by kernel_rfl) (look_none fun p hp => ?_) fun w27 clock2 M27 c27 => ?_
  · obtain ⟨p', h1, rfl⟩ := List.mem_map.1 hp
    exact fun e => (iv2 p' h1).2.2 (by simp only at e; rw [e]; exact ham)
  refine ⟨_, _, rfl, c27.own (by simp) (by simp) (fun h => by cases h), fun w28 hk28 => ?_⟩
  refine entry_store (M27.chg (chg_of_in hk28) (by simp)) fun w29 M29 c29 => ?_
  refine ⟨c29.own (by simp) (by simp) (fun h => by cases h), ⟨by omega, by omega⟩, ⟨by omega, by omega⟩, fun w30 hk30 => ⟨?_, by simp only; omega⟩⟩
  have h29 : Chg [mt] w26 w29 := c27.trans (((chg_of_in hk28).mono (by simp)).trans c29)
  have mv : ∀ {q : Option Addr} {vs : List Value}, Cells w21 q vs → Cells w30 q vs := fun C => cells_chg (cells_map (cells_chg (cells_map C B21.g g25) c26) T26 h29) (Chg.kept hk30)
  have e1 : pairSt f H S (x1 + 1).toNat = (t, ps ++ [(s, a)]) := by
    rw [show (x1 + 1).toNat = x1.toNat + 1 by omega, hps]
    unfold pstep
    rw [← hdw]
    exact if_pos ht3
  obtain ⟨q, hq, Cq⟩ := cells_tail CR21 (by simp) hc10
  simp only [e1]
  refine ⟨⟨by omega, by omega⟩, by simp, by omega, by rw [show Int.toNat 1 = 1 from rfl, hq]; exact mv Cq, mv CO21, ⟨mv B21.cells, mv B21.h, mv B21.s, ?_, ?_, B21.ne⟩, G7.trans ((g7.mono (by simp)).trans ((g25.mono (by simp)).trans ((c26.mono (by simp)).trans ((h29.mono (by simp)).trans ((Chg.kept hk30).mono (by simp))))))⟩
  · have := ((M25.chg c26 (by simp)).chg h29 (by simpa using B21.ne)).chg (Chg.kept hk30) (by simp)
    simpa [getsV] using this
  · have := M29.chg (Chg.kept hk30) (by simp)
    simpa [takenV] using this
end Go.Proofs.R12
end
section
/- A new box; Pair. -/
namespace Go.Proofs.R12
open Go.Vc Go.RowKit Go.Proofs

abbrev fit0 : Fit := ⟨0, 0, 0, 0, (0, 0)⟩
def okSz (l : List Int) : Prop := ∀ x ∈ l, 0 ≤ x ∧ x ≤ 1000000
instance (l : List Int) : Decidable (okSz l) := by unfold okSz; exact inferInstance
def boxE (W : Wk) (n : Int) (H S : List Int) : Int :=
  if ¬ OkW W then 2 else if ¬ (0 ≤ n ∧ n < W.fits.length) then 7 else if 200 < H.length ∨ 200 < S.length then 5 else if ¬ (okSz H ∧ okSz S) then 3 else 0
theorem all_sz {l : List Int} : (l.all fun n => decide (0 ≤ n ∧ n ≤ 1000000)) = decide (okSz l) := by
  rw [Bool.eq_iff_iff, List.all_eq_true, decide_eq_true_eq]
  exact ⟨fun h x hx => of_decide_eq_true (h x hx), fun h x hx => decide_eq_true (h x hx)⟩
theorem mkMap {w : World} {t : TypeId} {K : Type} {enc : K → Value} {R : Value → World → Prop} (h : ∀ w', Below w.heap.size w w' → MapC w' w.heap.size enc [] → R (.map (some w.heap.size)) w') : RunsTo Try.prog (Instr.makeMap t none) w R :=
  ⟨_, _, run_makeMap t w, h _ ((Below.refl _ _).alloc (Nat.le_refl _) _) ⟨#[], 0, by show (w.heap.push _)[w.heap.size]? = _; simp, rfl, by simp⟩⟩

set_option maxRecDepth 100000 in
theorem newBox_l {w : World} {W : Wk} {pa fa : Option Addr} {pc fc : Nat} {n : Int} {H S : List Int} {aH aS : Option Addr} {cH cS : Nat} (hp : CellsS w pa W.pats) (hf : Cells w fa (fitsV W.fits)) (hS : Small W) (hh : Cells w aH (ints H)) (hs : Cells w aS (ints S)) (lH : H.length ≤ 1000) (lS : S.length ≤ 1000) :
    Calls Try.prog 62 #[W.v pa pc fa fc, I n, .slice aH H.length cH, .slice aS S.length cS] w fun e w' => ∃ a, e = .returned (.tuple #[.pointer a, I (boxE W n H S)]) ∧ Below w.heap.size w w' ∧
      (boxE W n H S ≠ 0 → a = none) ∧ (boxE W n H S = 0 → ∃ mb mg mt, a = some ⟨mb, 0, none⟩ ∧ (w.heap.size ≤ mb ∧ w.heap.size ≤ mg ∧ w.heap.size ≤ mt) ∧ BoxIs w' mb (W.fits.getD n.toNat fit0) H S aH cH aS cS mg mt []) := by
  have hm := hS.m
  refine vc62 _ _ _ _ _ _ _ _ _ _ _ _ _ w _ fun m1 g1 w1 hb1 hk1 => ?_
  refine Pure.calls (check_any (hp.keep hb1) (hf.keep hb1) hS) fun w2 hd2 => ⟨_, rfl, .all hd2, fun h1 w3 hb3 _ => ?_, fun h1 => ?_⟩
  · have : ¬ OkW W := checkE_ne.1 h1
    have e : boxE W n H S = 2 := by unfold boxE; rw [if_pos this]
    rw [e]
    exact ⟨none, rfl, hb3, fun _ => rfl, fun h => by cases h⟩
  have hok : OkW W := checkE_ok.1 h1
  have hb2 := hb1.trans (hd2.mono hb1.size)
  refine ⟨by omega, fun m3 g3 w4 hb4 hk4 hc4 => ?_⟩
  have k4 : Kept [m3, m1] w2 w4 := hk4
  refine Pure.calls (in1_any hc4) fun w5 hd5 => ⟨_, rfl, .all hd5, fun h2 w6 hb6 _ => ?_, fun h2 => ?_⟩
  · have : ¬ (0 ≤ n ∧ n < W.fits.length) := by
      intro hh
      simp only [Bool.not_eq_true', decide_eq_false_iff_not] at h2
      omega
    have e : boxE W n H S = 7 := by unfold boxE; rw [if_neg (by simpa using hok), if_pos this]
    rw [e]
    exact ⟨none, rfl, hb6, fun _ => rfl, fun h => by cases h⟩
  have hn : 0 ≤ n ∧ n < W.fits.length := by
    simp only [Bool.not_eq_false', decide_eq_true_eq] at h2
    omega
  refine ⟨fun ls _ => match ls with | [.bool t] => t = decide (200 < H.length ∨ 200 < S.length) | _ => False, ⟨fun h w8 _ _ => ?_, fun h w9 _ _ => ?_⟩, ?_⟩
  · show _ = _
    rw [decide_eq_true h, decide_eq_true (Or.inl (by omega))]
  · show _ = _
    rw [Bool.eq_iff_iff, decide_eq_true_eq, decide_eq_true_eq]; omega
  rintro t2 w10 hb10 rfl
  have ko : ∀ {x : World}, Below w.heap.size w x → x.heap.size = x.heap.size := fun _ => rfl
  refine ⟨fun ls _ => match ls with | [] => boxE W n H S = 0 | _ => False, ⟨fun h w12 hb12 _ => ?_, fun h w13 hb13 _ => ?_⟩, ?_⟩
  · have e : boxE W n H S = 5 := by unfold boxE; rw [if_neg (by simpa using hok), if_neg (by simpa using hn), if_pos (of_decide_eq_true h)]
    rw [e]
    exact ⟨none, rfl, hb12, fun _ => rfl, fun h => by cases h⟩
  · have hl := of_decide_eq_false h
    have e : ¬ (okSz H ∧ okSz S) ↔ boxE W n H S = 3 := by unfold boxE; rw [if_neg (by simpa using hok), if_neg (by simpa using hn), if_neg hl]; split <;> simp_all
    have e0 : (okSz H ∧ okSz S) → boxE W n H S = 0 := fun hz => by unfold boxE; rw [if_neg (by simpa using hok), if_neg (by simpa using hn), if_neg hl, if_neg (by simpa using hz)]
    refine Pure.calls (within_any (hh.keep hb13) (by omega)) fun w14 hd14 => ⟨_, rfl, .all hd14, fun ls _ => match ls with | [.bool t] => t = decide (¬ (okSz H ∧ okSz S)) | _ => False, ⟨fun h w16 _ _ => ?_, fun h w17 hb17 _ => ?_⟩, ?_⟩
    · rw [all_sz] at h ⊢
      show _ = _
      rw [Bool.eq_iff_iff, decide_eq_true_eq]
      simp only [Bool.not_eq_true', decide_eq_false_iff_not] at h ⊢
      exact ⟨fun _ hz => h hz.1, fun _ => h⟩
    · rw [all_sz] at h
      simp only [Bool.not_eq_false', decide_eq_true_eq] at h
      refine Pure.calls (within_any (hs.keep hb17) (by omega)) fun w18 hd18 => ⟨_, rfl, .all hd18, fun w19 _ _ => ?_⟩
      rw [all_sz]
      show _ = _
      rw [Bool.eq_iff_iff, decide_eq_true_eq]
      simp only [Bool.not_eq_true', decide_eq_false_iff_not]
      exact ⟨fun hz hy => hz hy.2, fun hz hy => hz ⟨h, hy⟩⟩
    · rintro t5 w20 hb20 rfl
      refine ⟨fun ls _ => match ls with | [] => boxE W n H S = 0 | _ => False, ⟨fun h w22 hb22 _ => ?_, fun h w23 _ _ => ?_⟩, fun w24 _ h w25 _ _ => h⟩
      · rw [e.1 (of_decide_eq_true h)]
        exact ⟨none, rfl, hb22, fun _ => rfl, fun h => by cases h⟩
      · exact e0 (Classical.not_not.1 (of_decide_eq_false h))
  · rintro w26 hb26 he0
    refine load_fit hf hb26 hn fun m12 m13 hm12 => ?_
    refine ⟨Or.inl hm12, fun w27 hb27 hk27 => mkMap (K := Int) (enc := I) fun w28 hd28 mg28 => ⟨_, rfl, .all hd28, fun w29 hb29 hk29 => mkMap (K := Int) (enc := I) fun w30 hd30 mt30 => ⟨_, rfl, .all hd30, fun m18 g18 w31 hb31 hk31 hc31 => ?_⟩⟩⟩
    have o1 := hk27.own m3 (by simp)
    have o2 := hk27.own m1 (by simp)
    have l1 := mg28.lt
    have l2 := mt30.lt
    have z1 := hk29.size
    have z2 := hb27.size
    have z3 := hb29.size
    have z4 := hd30.size
    have z5 := hb4.size
    have z6 := hd2.size
    have z7 := hb1.size
    refine ⟨some ⟨m18, 0, none⟩, by rw [he0], hb31, fun h => absurd he0 h, fun _ => ⟨m18, w27.heap.size, w29.heap.size, rfl, ⟨by omega, by omega, by omega⟩, Cells.obj (vs := boxV _ aH H.length cH aS S.length cS _ _) hc31, hh.keep hb31, hs.keep hb31, ?_, ?_, by omega⟩⟩
    · refine ((mg28.chg (Chg.kept hk29) ?_).chg (Chg.of_below (S := []) hd30) (by simp)).chg (Chg.kept hk31) ?_
      · simp only [List.mem_cons, List.not_mem_nil, or_false, not_or]; omega
      · simp only [List.mem_cons, List.not_mem_nil, or_false, not_or]; omega
    · refine mt30.chg (Chg.kept hk31) ?_
      simp only [List.mem_cons, List.not_mem_nil, or_false, not_or]
      have o3 := hk29.own m3 (by simp)
      have o4 := hk29.own m1 (by simp)
      omega
end Go.Proofs.R12
end
section
/- Pair. -/
namespace Go.Proofs.R12
open Go.Vc Go.RowKit Go.Proofs

theorem cells_ne {w w' : World} {b0 o0 : Nat} {vs : List Value} {S : List Nat} (h : Cells w (some ⟨b0, o0, none⟩) vs) (hc : Chg S w w') (hb : b0 ∉ S) : Cells w' (some ⟨b0, o0, none⟩) vs := fun i v hi => by
  obtain ⟨b, o, e, hcell⟩ := h i v hi
  simp only [Option.some.injEq, Addr.mk.injEq, and_true] at e
  obtain ⟨rfl, rfl⟩ := e
  exact ⟨_, _, rfl, hc.cell hb hcell⟩
theorem gets_look {ps : List (Int × Int)} {s : Int} : (getsV ps).lookup s = (ps.lookup s).map I := by
  induction ps with
  | nil => rfl
  | cons p r ih =>
    obtain ⟨a, b⟩ := p
    simp only [getsV, List.map_cons, List.lookup] at ih ⊢
    cases s == a <;> simp [ih]
/-- The pairs by shaft. -/
def pairsL (ps : List (Int × Int)) (n : Nat) : List (Int × Int) := (idxs n).filterMap fun s => (ps.lookup s).map fun h => (s, h)
def pairsV (l : List (Int × Int)) : List Value := l.flatMap fun p => [I p.1, I p.2]
theorem pairsL_succ (ps : List (Int × Int)) (n : Nat) : pairsL ps (n + 1) = pairsL ps n ++ (match ps.lookup (n : Int) with | some h => [((n : Int), h)] | none => []) := by
  unfold pairsL
  rw [idxs_succ, List.filterMap_append]
  cases h : ps.lookup (n : Int) <;> simp [h]
theorem pairsL_len (ps : List (Int × Int)) (n : Nat) : (pairsL ps n).length ≤ n := by
  unfold pairsL
  exact Nat.le_trans (List.length_filterMap_le _ _) (by simp [idxs])
def fitOf (W : Wk) (n : Int) : Fit := W.fits.getD n.toNat fit0
def pairM (W : Wk) (n : Int) (H S : List Int) : List (Int × Int) := if boxE W n H S = 0 then pairsL (pairK (fitOf W n) H S) S.length else []
theorem boxE_ok {W : Wk} {n : Int} {H S : List Int} (h : boxE W n H S = 0) : OkW W ∧ (0 ≤ n ∧ n < W.fits.length) ∧ (H.length ≤ 200 ∧ S.length ≤ 200) ∧ okSz H ∧ okSz S := by
  unfold boxE at h
  split at h
  · cases h
  split at h
  · cases h
  split at h
  · cases h
  split at h
  · cases h
  simp_all

theorem rowE_lies {e : TypeId} {size B : Nat} {ns : List Nat} {a : Option Addr} {n c : Nat} {xs : List Value} {w : World} {lo : Nat} (h : RowE e size B ns a n c xs w) (hl : lo ≤ B) : Lies [] lo w.heap.size w a xs := by
  rcases h with ⟨_, _, _, rfl⟩ | R
  · exact fun i v hi => by simp at hi
  · intro i v hi
    obtain ⟨b, o, e, hc⟩ := R.cells i v hi
    exact ⟨b, o, e, ⟨by simp, Nat.le_trans hl (R.lt b o e).1, (R.lt b o e).2⟩, hc⟩
set_option maxRecDepth 100000 in
theorem Pair_l {w : World} {W : Wk} {pa fa : Option Addr} {pc fc : Nat} {n : Int} {H S : List Int} {aH aS : Option Addr} {cH cS : Nat} (hp : CellsS w pa W.pats) (hf : Cells w fa (fitsV W.fits)) (hS : Small W) (hh : Cells w aH (ints H)) (hs : Cells w aS (ints S)) (lH : H.length ≤ 1000) (lS : S.length ≤ 1000)
    (hl : boxE W n H S = 0 → H.length ≤ 20 ∧ S.length ≤ 20) :
    Calls Try.prog 30 #[W.v pa pc fa fc, I n, .slice aH H.length cH, .slice aS S.length cS] w fun e w' => ∃ a c, e = .returned (.tuple #[.slice a (pairM W n H S).length c, I (boxE W n H S)]) ∧ Below w.heap.size w w' ∧ Lies [] w.heap.size w'.heap.size w' a (pairsV (pairM W n H S)) := by
  refine vc30 _ _ _ _ _ _ _ _ _ _ _ _ _ w _ fun m1 g1 w1 hb1 hk1 => ?_
  refine (newBox_l (hp.keep hb1) (hf.keep hb1) hS (hh.keep hb1) (hs.keep hb1) lH lS (n := n)).mono fun e1 w2 he => ?_
  obtain ⟨a, rfl, hb2, hE, hO⟩ := he
  refine ⟨_, _, rfl, .all hb2, fun h1 w3 hb3 _ => ?_, fun h1 w4 hb4 hk4 => ?_⟩
  · have : pairM W n H S = [] := if_neg h1
    rw [this]
    exact ⟨none, 0, rfl, hb3, fun i v hi => by simp [pairsV] at hi⟩
  obtain ⟨mb, mg, mt, rfl, ⟨q1, q2, q3⟩, BX⟩ := hO h1
  obtain ⟨_, hn, _, zH, zS⟩ := boxE_ok h1
  obtain ⟨l1, l2⟩ := hl h1
  have hM : pairM W n H S = pairsL (pairK (fitOf W n) H S) S.length := if_pos h1
  have o1 := hk1.own m1 (by simp)
  have c4 := Chg.kept hk4
  have nm : ∀ x, w1.heap.size ≤ x → x ∉ [m1] := fun x hx => by simp only [List.mem_singleton]; omega
  have BX4 : BoxIs w4 mb (fitOf W n) H S aH cH aS cS mg mt [] := ⟨cells_ne BX.cells c4 (nm _ q1), hh.keep hb4, hs.keep hb4, BX.g.chg c4 (nm _ q2), BX.t.chg c4 (nm _ q3), BX.ne⟩
  refine (pair_l BX4 zH zS l1 l2).mono fun e2 w5 he => ?_
  obtain ⟨rfl, c5, BX5⟩ := he
  have z1 := hb1.size
  have z4 := hb4.size
  have z5 := c5.size
  have lg := BX5.g.lt
  have lb := cell_lt (BX5.at (i := 8) rfl)
  refine ⟨rfl, c5.own (fun x hx => ⟨hk4.own x hx, fun h => ?_⟩) (by simp) (fun _ => ⟨hb4.size, fun x hx => ?_⟩), ?_⟩
  · simp only [List.mem_cons, List.not_mem_nil, or_false] at hx h; omega
  · simp only [List.mem_cons, List.not_mem_nil, or_false] at hx; omega
  generalize hps : pairK (fitOf W n) H S = ps at *
  refine ⟨fun ls w' => match ls with | [.sl a k c, .int _ ii] => (0 ≤ ii ∧ ii ≤ S.length) ∧ k = (pairsL ps ii.toNat).length ∧ RowE 68 2 w5.heap.size [m1] a k c (pairsV (pairsL ps ii.toNat)) w' ∧ LowK w5.heap.size [m1] w5 w' ∧ w5.heap.size ≤ w'.heap.size | _ => False, fun ls => match ls with | [_, .int _ ii] => (S.length - ii).toNat | _ => 0, fun w7 hb7 hk7 => ?_, ?_⟩
  · exact ⟨⟨by omega, by omega⟩, rfl, .inr Row.nil, (Chg.kept hk7).low (Nat.le_refl _), hk7.size⟩
  rintro a2 m4 m5 x2 w8 hb8 ⟨⟨x0, xl⟩, rfl, RR, lk, z8⟩
  have hpl := pairsL_len ps x2.toNat
  refine ⟨fun hlt => ?_, fun hge w15 hb15 hk15 => ?_⟩
  · have hcell : w8.cell? ⟨mb, 0 + 8, none⟩ = some (.map (some mg)) := by
      have := BX5.at (i := 8) (v := .map (some mg)) rfl
      rw [Nat.zero_add]
      unfold World.cell? at this ⊢
      simp only [lk mb lb (nm _ q1)]; exact this
    refine ⟨mb, 0, rfl, trivial, mg, hcell, .inr (by omega), fun w9 hb9 hk9 => ?_⟩
    have G9 : MapC w9 mg I (getsV ps) := by
      obtain ⟨es, clock, h1, h2, h3⟩ := BX5.g
      exact ⟨es, clock, by rw [hk9.block mg (by omega) (nm _ q2), lk mg lg (nm _ q2)]; exact h1, h2, h3⟩
    refine lookup_ok keyI (P := Try.prog) (mt := 129) (vt := 3) (by kernel_rfl) G9 x2 (z := I 0) (by kernel_rfl) ?_
    rw [gets_look]
    have z9 := hk9.size
    refine ⟨((ps.lookup x2).getD 0), (ps.lookup x2).isSome, by cases ps.lookup x2 <;> rfl, .all (.refl _ _), fun ht m10 g10 w11 hb11 hk11 hc11 => ?_, fun ht => ⟨⟨by omega, by omega⟩, fun w14 hb14 hk14 => ⟨?_, by simp only; omega⟩⟩⟩
    · obtain ⟨h, hh⟩ := Option.isSome_iff_exists.1 ht
      rw [hh] at hc11
      have R9 := RR.chg (Chg.kept hk9) (fun _ h => h)
      have R11 := (R9.grow (ms := [m10]) (allc g10 all0)).chg (Chg.kept hk11) (fun _ h => h)
      have z11 := hk11.size
      refine append_rowE (P := Try.prog) (bytes := 16) (by kernel_rfl) (by omega) R11 (m := 1) (news := [I x2, I h]) (Cells.obj (vs := [I x2, I h]) hc11) rfl (List.forall_mem_cons.2 ⟨rfl, List.forall_mem_cons.2 ⟨rfl, by simp⟩⟩) (by omega) (by omega) (by omega) hk11.own (by omega) fun a3 c3 w12 R12 S12 cS12 hS12 => ?_
      refine ⟨_, _, _, rfl, cS12.own (fun x hx => ⟨hk11.own x hx, fun h => (hS12 x h).2 hx⟩) (by simp) (fun _ => ⟨hb11.size, fun x hx => by have := (hS12 x hx).1; omega⟩), ⟨by omega, by omega⟩, fun w13 hb13 hk13 => ⟨?_, by simp only; omega⟩⟩
      have e1 : pairsL ps (x2 + 1).toNat = pairsL ps x2.toNat ++ [(x2, h)] := by
        rw [show (x2 + 1).toNat = x2.toNat + 1 by omega, pairsL_succ, Int.toNat_of_nonneg x0, hh]
      have R13 := R12.chg (Chg.kept hk13) (fun _ h => h)
      have z12 := cS12.size
      have z13 := hk13.size
      simp only [e1]
      refine ⟨⟨by omega, by omega⟩, by simp, ?_, fun k hk hn => ?_, by omega⟩
      · have : pairsV (pairsL ps x2.toNat ++ [(x2, h)]) = pairsV (pairsL ps x2.toNat) ++ [I x2, I h] := by simp [pairsV]
        rw [this]
        exact .inr (R13.less (by simp))
      · simp only [List.mem_singleton] at hn
        have k10 : k ≠ m10 := by omega
        rw [hk13.block k (by omega) (by simp; exact ⟨k10, hn⟩), cS12.keep k (by omega) (fun h => by have := (hS12 k h).1; omega), hk11.block k (by omega) (by simp; exact ⟨k10, hn⟩), hk9.block k (by omega) (by simpa using hn)]
        exact lk k hk (by simpa using hn)
    · have e1 : pairsL ps (x2 + 1).toNat = pairsL ps x2.toNat := by
        rw [show (x2 + 1).toNat = x2.toNat + 1 by omega, pairsL_succ, Int.toNat_of_nonneg x0]
        cases h : ps.lookup x2 with
        | none => simp
        | some v => rw [h] at ht; cases ht
      have z14 := hk14.size
      simp only [e1]
      refine ⟨⟨by omega, by omega⟩, trivial, (RR.chg (Chg.kept hk9) (fun _ h => h)).chg (Chg.kept hk14) (fun _ h => h), fun k hk hn => ?_, by omega⟩
      rw [hk14.block k (by omega) hn, hk9.block k (by omega) hn]
      exact lk k hk hn
  · have e : x2.toNat = S.length := by omega
    rw [e] at RR
    rw [hM, h1]
    have R15 := RR.chg (Chg.kept hk15) (fun _ h => h)
    exact ⟨_, _, by rw [e], hb15, rowE_lies R15 (by omega)⟩
end Go.Proofs.R12
end
section
/- The conditions of the functions, printed by program; each is what the generator reckons (kernel_rfl). -/
namespace Go.Proofs
open Go.Vc
set_option maxRecDepth 100000 in
set_option maxHeartbeats 2000000 in
theorem vc64 (bb : Nat) (bo : Nat) (w : World) (R : Ending → World → Prop) (h : ∀ (w1 : World), RowKit.Below w.heap.size w w1 → Kept [] w w1 → RunsTo Try.prog (Instr.makeMap 87
    none) w1 fun (v1 : Value) (w2 : World) => ∃ (m1 : Nat), v1 = Value.map (some m1) ∧ KeepX true w.heap.size [] (fun _ => False) w1 w2 ∧ ∀ (w3 : World), RowKit.Below w.heap.size w
    w3 → Kept [] w2 w3 → RunsTo Try.prog (Instr.makeMap 87 none) w3 fun (v2 : Value) (w4 : World) => ∃ (m3 : Nat), v2 = Value.map (some m3) ∧ KeepX true w.heap.size [] (fun _ =>
    False) w3 w4 ∧ ∃ (a1 : Option Addr), ∃ (m5 : Nat), ∃ (m6 : Nat), w4.cell? { block := bb, off := bo + 7 } = some (Value.slice a1 m5 m6) ∧ ∃ (F1 : Nat → List Lf → World → Prop),
    (∀ (w6 : World), RowKit.Below w.heap.size w w6 → Kept [] w4 w6 → ∃ (m8 : Nat), F1 m8 [Lf.sl none 0 0, Lf.int IntKind.i64 0] w6) ∧ ∀ (m9 : Nat) (a2 : Option Addr) (m10 m11 :
    Nat) (x1 : Int) (w7 : World), RowKit.Below w.heap.size w w7 → F1 m9 [Lf.sl a2 m10 m11, Lf.int IntKind.i64 x1] w7 → (x1 < (↑m5 : Int) → ∃ (m12 : Nat), w7.cell?
    { block := bb, off := bo + 8 } = some (Value.map (some m12)) ∧ ∀ (w8 : World), RowKit.Below w.heap.size w w8 → Kept [] w7 w8 → RunsTo Try.prog (Instr.lookup 129 (Value.map
    (some m12)) (Value.int IntKind.i64 x1) true) w8 fun (v3 : Value) (w9 : World) => ∃ (x2 : Int), ∃ (t1 : Bool), v3 = Value.tuple #[Value.int IntKind.i64 x2, Value.bool t1] ∧
    KeepX true w.heap.size [] (fun _ => False) w8 w9 ∧ ((!t1) = true → ∀ (m14 : Nat), w9.heap.size ≤ m14 → ∀ (w10 : World), RowKit.Below w.heap.size w w10 → Kept [m14] w9 w10 →
    w10.heap[m14]? = some (Obj.cells #[Value.int IntKind.i64 x1] 3) → RunsTo Try.prog (Builtin.append_ #[38, 38] 38 #[Value.slice a2 m10 m11, Value.slice (some
    { block := m14, off := 0 }) 1 1]) w10 fun (v4 : Value) (w11 : World) => ∃ (a3 : Option Addr), ∃ (m16 : Nat), ∃ (m17 : Nat), v4 = Value.slice a3 m16 m17 ∧ KeepX true w.heap.size
    [m14] (fun _ => False) w10 w11 ∧ (-9223372036854775808 ≤ x1 + 1 ∧ x1 + (1 : Int) ≤ 9223372036854775807) ∧ ∀ (w12 : World), RowKit.Below w.heap.size w w12 → Kept [m14] w11 w12 →
    ∃ (m19 : Nat), m19 < m9 ∧ F1 m19 [Lf.sl a3 m16 m17, Lf.int IntKind.i64 (x1 + 1)] w12) ∧ ((!t1) = false → (-9223372036854775808 ≤ x1 + 1 ∧ x1 + (1 : Int) ≤ 9223372036854775807)
    ∧ ∀ (w13 : World), RowKit.Below w.heap.size w w13 → Kept [] w9 w13 → ∃ (m20 : Nat), m20 < m9 ∧ F1 m20 [Lf.sl a2 m10 m11, Lf.int IntKind.i64 (x1 + 1)] w13)) ∧ ((↑m5 : Int) ≤ x1
    → ∃ (F2 : Nat → List Lf → World → Prop), (∀ (w15 : World), RowKit.Below w.heap.size w w15 → Kept [] w7 w15 → ∃ (m22 : Nat), F2 m22 [Lf.sl a2 m10 m11] w15) ∧ ∀ (m23 : Nat) (a4 :
    Option Addr) (m24 m25 : Nat) (w16 : World), RowKit.Below w.heap.size w w16 → F2 m23 [Lf.sl a4 m24 m25] w16 → (0 < (↑m24 : Int) → ∃ (m26 : Nat), ∃ (m27 : Nat), a4 = some
    { block := m26, off := m27 } ∧ ((0 : Int) ≤ 0 ∧ 0 < (↑m24 : Int)) ∧ ∃ (x3 : Int), w16.cell? { block := m26, off := m27 + Int.toNat 0 * 1 } = some (Value.int IntKind.i64 x3) ∧
    ((0 : Int) ≤ 1 ∧ 1 ≤ (↑m24 : Int)) ∧ ∀ (w17 : World), RowKit.Below w.heap.size w w17 → Kept [] w16 w17 → RunsTo Try.prog ((Instr.mapUpdate 87 (Value.map (some m1)) (Value.int
    IntKind.i64 x3) (Value.bool true)) >>= fun _ => pure (Value.tuple #[])) w17 fun (v5 : Value) (w18 : World) => KeepX true w.heap.size [] (fun _ => False) w17 w18 ∧ ∃ (a5 :
    Option Addr), ∃ (m29 : Nat), ∃ (m30 : Nat), w18.cell? { block := bb, off := bo + 6 } = some (Value.slice a5 m29 m30) ∧ ∃ (F3 : Nat → List Lf → World → Prop), (∀ (w20 : World),
    RowKit.Below w.heap.size w w20 → Kept [] w18 w20 → ∃ (m32 : Nat), F3 m32 [Lf.sl (subA a4 m25 (Int.toNat 1) 1) (m24 - Int.toNat 1) (m25 - Int.toNat 1), Lf.int IntKind.i64 0]
    w20) ∧ ∀ (m33 : Nat) (a6 : Option Addr) (m34 m35 : Nat) (x4 : Int) (w21 : World), RowKit.Below w.heap.size w w21 → F3 m33 [Lf.sl a6 m34 m35, Lf.int IntKind.i64 x4] w21 → (x4 <
    (↑m29 : Int) → ∃ (m36 : Nat), ∃ (m37 : Nat), a5 = some { block := m36, off := m37 } ∧ (0 ≤ x4 ∧ x4 < (↑m29 : Int)) ∧ ∃ (x5 : Int), w21.cell?
    { block := m36, off := m37 + x4.toNat * 1 } = some (Value.int IntKind.i64 x5) ∧ ∃ (F4 : List Lf → World → Prop), (∀ (w23 : World), RowKit.Below w.heap.size w w23 → KeptIn [(0,
    w21.heap.size)] [] w21 w23 → RunsTo Try.prog (Instr.lookup 87 (Value.map (some m3)) (Value.int IntKind.i64 x4) false) w23 fun (v6 : Value) (w24 : World) => ∃ (t2 : Bool), v6 =
    Value.bool t2 ∧ KeepX true w.heap.size [] (fun _ => False) w23 w24 ∧ (t2 = true → ∀ (w25 : World), RowKit.Below w.heap.size w w25 → Kept [] w24 w25 → F4 [Lf.bool true] w25) ∧
    (t2 = false → ∃ (x6 : Int), ∃ (x7 : Int), ∃ (x8 : Int), ∃ (x9 : Int), ∃ (x10 : Int), ∃ (x11 : Int), w24.cell? { block := bb, off := bo + 0 } = some (Value.int IntKind.i64 x6) ∧
    w24.cell? { block := bb, off := bo + 0 + 1 } = some (Value.int IntKind.i64 x7) ∧ w24.cell? { block := bb, off := bo + 0 + 1 + 1 } = some (Value.int IntKind.i64 x8) ∧ w24.cell?
    { block := bb, off := bo + 0 + 1 + 1 + 1 } = some (Value.int IntKind.i64 x9) ∧ w24.cell? { block := bb, off := bo + 0 + 1 + 1 + 1 + 1 } = some (Value.int IntKind.i64 x10) ∧
    w24.cell? { block := bb, off := bo + 0 + 1 + 1 + 1 + 1 + 1 } = some (Value.int IntKind.i64 x11) ∧ ∃ (a7 : Option Addr), ∃ (m39 : Nat), ∃ (m40 : Nat), w24.cell?
    { block := bb, off := bo + 7 } = some (Value.slice a7 m39 m40) ∧ ∃ (m41 : Nat), ∃ (m42 : Nat), a7 = some { block := m41, off := m42 } ∧ (0 ≤ x3 ∧ x3 < (↑m39 : Int)) ∧ ∃ (x12 :
    Int), w24.cell? { block := m41, off := m42 + x3.toNat * 1 } = some (Value.int IntKind.i64 x12) ∧ ∀ (w26 : World), RowKit.Below w.heap.size w w26 → KeptIn [(0, w24.heap.size)]
    [] w24 w26 → Calls Try.prog 83 #[Value.agg #[Value.int IntKind.i64 x6, Value.int IntKind.i64 x7, Value.int IntKind.i64 x8, Value.int IntKind.i64 x9, Value.int IntKind.i64 x10,
    Value.int IntKind.i64 x11], Value.int IntKind.i64 x5, Value.int IntKind.i64 x12] w26 fun (e1 : Ending) (w27 : World) => ∃ (t3 : Bool), e1 = Ending.returned (Value.bool t3) ∧
    KeepX true w.heap.size [] (fun _ => False) w26 w27 ∧ ∀ (w28 : World), RowKit.Below w.heap.size w w28 → Kept [] w27 w28 → F4 [Lf.bool !t3] w28)) ∧ ∀ (t4 : Bool) (w29 : World),
    RowKit.Below w.heap.size w w29 → F4 [Lf.bool t4] w29 → (t4 = true → (-9223372036854775808 ≤ x4 + 1 ∧ x4 + (1 : Int) ≤ 9223372036854775807) ∧ ∀ (w30 : World), RowKit.Below
    w.heap.size w w30 → Kept [] w29 w30 → ∃ (m44 : Nat), m44 < m33 ∧ F3 m44 [Lf.sl a6 m34 m35, Lf.int IntKind.i64 (x4 + 1)] w30) ∧ (t4 = false → ∀ (w31 : World), RowKit.Below
    w.heap.size w w31 → Kept [] w29 w31 → RunsTo Try.prog ((Instr.mapUpdate 87 (Value.map (some m3)) (Value.int IntKind.i64 x4) (Value.bool true)) >>= fun _ => pure (Value.tuple
    #[])) w31 fun (v7 : Value) (w32 : World) => KeepX true w.heap.size [] (fun _ => False) w31 w32 ∧ ∃ (m46 : Nat), w32.cell? { block := bb, off := bo + 9 } = some (Value.map (some
    m46)) ∧ ∀ (w33 : World), RowKit.Below w.heap.size w w33 → Kept [] w32 w33 → RunsTo Try.prog (Instr.lookup 129 (Value.map (some m46)) (Value.int IntKind.i64 x4) true) w33 fun
    (v8 : Value) (w34 : World) => ∃ (x13 : Int), ∃ (t5 : Bool), v8 = Value.tuple #[Value.int IntKind.i64 x13, Value.bool t5] ∧ KeepX true w.heap.size [] (fun _ => False) w33 w34 ∧
    (t5 = true → ∀ (m48 : Nat), w34.heap.size ≤ m48 → ∀ (w35 : World), RowKit.Below w.heap.size w w35 → Kept [m48] w34 w35 → w35.heap[m48]? = some (Obj.cells #[Value.int
    IntKind.i64 x13] 3) → RunsTo Try.prog (Builtin.append_ #[38, 38] 38 #[Value.slice a6 m34 m35, Value.slice (some { block := m48, off := 0 }) 1 1]) w35 fun (v9 : Value) (w36 :
    World) => ∃ (a8 : Option Addr), ∃ (m50 : Nat), ∃ (m51 : Nat), v9 = Value.slice a8 m50 m51 ∧ KeepX true w.heap.size [m48] (fun _ => False) w35 w36 ∧ (-9223372036854775808 ≤ x4 +
    1 ∧ x4 + (1 : Int) ≤ 9223372036854775807) ∧ ∀ (w37 : World), RowKit.Below w.heap.size w w37 → Kept [m48] w36 w37 → ∃ (m53 : Nat), m53 < m33 ∧ F3 m53 [Lf.sl a8 m50 m51, Lf.int
    IntKind.i64 (x4 + 1)] w37) ∧ (t5 = false → (-9223372036854775808 ≤ x4 + 1 ∧ x4 + (1 : Int) ≤ 9223372036854775807) ∧ ∀ (w38 : World), RowKit.Below w.heap.size w w38 → Kept []
    w34 w38 → ∃ (m54 : Nat), m54 < m33 ∧ F3 m54 [Lf.sl a6 m34 m35, Lf.int IntKind.i64 (x4 + 1)] w38))) ∧ ((↑m29 : Int) ≤ x4 → ∀ (w39 : World), RowKit.Below w.heap.size w w39 → Kept
    [] w21 w39 → ∃ (m55 : Nat), m55 < m23 ∧ F2 m55 [Lf.sl a6 m34 m35] w39)) ∧ ((↑m24 : Int) ≤ 0 → ∀ (w40 : World), RowKit.Below w.heap.size w w40 → Kept [] w16 w40 → R
    (Ending.returned (Value.tuple #[Value.map (some m1), Value.map (some m3)])) w40))) : Calls Try.prog 64 #[Value.pointer (some { block := bb, off := bo })] w R := calls_of_vcj
    (pure := true) (wrapAt := []) (muts := []) (esc := []) (joins := [(2000017, [(77, 4)]), (4000000, [])]) (args := [SV.pv (PV.one (Lf.ptr bb bo))]) (vs := [Value.pointer (some
    { block := bb, off := bo })]) Try.func64 rfl rfl rfl (Eq.mp (by kernel_rfl) h) 
set_option maxRecDepth 100000 in
set_option maxHeartbeats 2000000 in
theorem vc65 (p0set : Nat) (w : World) (R : Ending → World → Prop) (h : ∀ (w1 : World), RowKit.Below w.heap.size w w1 → Kept [] w w1 → RunsTo Try.prog (Instr.range 87 (Value.map
    (some p0set))) w1 fun (v1 : Value) (w2 : World) => ∃ (v2 : Value), v1 = v2 ∧ KeepX true w.heap.size [] (fun _ => False) w1 w2 ∧ ∃ (F1 : Nat → List Lf → World → Prop), (∀ (w4 :
    World), RowKit.Below w.heap.size w w4 → Kept [] w2 w4 → ∃ (m3 : Nat), F1 m3 [Lf.sl none 0 0] w4) ∧ ∀ (m4 : Nat) (a1 : Option Addr) (m5 m6 : Nat) (w5 : World), RowKit.Below
    w.heap.size w w5 → F1 m4 [Lf.sl a1 m5 m6] w5 → ∀ (w6 : World), RowKit.Below w.heap.size w w6 → Kept [] w5 w6 → RunsTo Try.prog (Instr.next v2 false 0) w6 fun (v3 : Value) (w7 :
    World) => (∃ (v4 : Value), ∃ (v5 : Value), v3 = Value.tuple #[Value.bool true, v4, v5] ∧ KeepX true w.heap.size [] (fun _ => False) w6 w7 ∧ ∀ (w8 : World), RowKit.Below
    w.heap.size w w8 → Kept [] w7 w8 → RunsTo Try.prog (Instr.entry v2) w8 fun (v6 : Value) (w9 : World) => ∃ (x1 : Int), ∃ (t1 : Bool), v6 = Value.tuple #[Value.int IntKind.i64
    x1, Value.bool t1] ∧ KeepX true w.heap.size [] (fun _ => False) w8 w9 ∧ ∀ (m9 : Nat), w9.heap.size ≤ m9 → ∀ (w10 : World), RowKit.Below w.heap.size w w10 → Kept [m9] w9 w10 →
    w10.heap[m9]? = some (Obj.cells #[Value.int IntKind.i64 x1] 3) → RunsTo Try.prog (Builtin.append_ #[38, 38] 38 #[Value.slice a1 m5 m6, Value.slice (some
    { block := m9, off := 0 }) 1 1]) w10 fun (v7 : Value) (w11 : World) => ∃ (a2 : Option Addr), ∃ (m11 : Nat), ∃ (m12 : Nat), v7 = Value.slice a2 m11 m12 ∧ KeepX true w.heap.size
    [m9] (fun _ => False) w10 w11 ∧ ∀ (w12 : World), RowKit.Below w.heap.size w w12 → Kept [m9] w11 w12 → ∃ (m14 : Nat), m14 < m4 ∧ F1 m14 [Lf.sl a2 m11 m12] w12) ∨ v3 =
    Value.tuple #[Value.bool false] ∧ KeepX true w.heap.size [] (fun _ => False) w6 w7 ∧ ∀ (w13 : World), RowKit.Below w.heap.size w w13 → Kept [] w7 w13 → Calls Try.prog 85
    #[Value.slice a1 m5 m6] w13 fun (e1 : Ending) (w14 : World) => e1 = Ending.returned (Value.tuple #[]) ∧ KeepX true w.heap.size [] (fun _ => False) w13 w14 ∧ ∀ (w15 : World),
    RowKit.Below w.heap.size w w15 → Kept [] w14 w15 → R (Ending.returned (Value.slice a1 m5 m6)) w15) : Calls Try.prog 65 #[Value.map (some p0set)] w R := calls_of_vc (pure :=
    true) (wrapAt := []) (muts := []) (esc := [9000030004]) (args := [SV.pv (PV.one (Lf.map p0set))]) (vs := [Value.map (some p0set)]) Try.func65 rfl rfl rfl (Eq.mp (by kernel_rfl)
    h) 
end Go.Proofs
end
section
/- The library's sort of integers; a set, sorted. -/
namespace Go.Proofs
open Go.Shelf
def R12.sort85_ren : Go.Shelf.Ren := ⟨fun | 5 => 85 | 8 => 94 | 7 => 93 | 19 => 109 | 20 => 110 | 10 => 100 | 11 => 101 | 12 => 102 | 13 => 103 | 14 => 104 | 15 => 105 | 16 => 106 | 17 => 107 | 18 => 108 | 30 => 113 | 31 => 114 | 32 => 115 | 33 => 116 | 34 => 117 | 35 => 99 | 40 => 119 | n => n, fun | 23 => 38 | 25 => 3 | 3 => 3 | 32 => 102 | 22 => 38 | 0 => 0 | 44 => 176 | 46 => 178 | 4 => 4 | 36 => 170 | 35 => 169 | 41 => 128 | 5 => 5 | 9 => 9 | 53 => 181 | 57 => 185 | 63 => 187 | 64 => 188 | n => n, fun | n => n⟩
theorem R12.sort85 : Go.Proofs.SlLaysM.n5 Try.prog R12.sort85_ren := {
  mixed := by kernel_rfl
  f5 := ⟨Try.f85.name, by decide, Try.func85.trans (congrArg some (by kernel_rfl))⟩
  f7 := ⟨Try.f93.name, by decide, Try.func93.trans (congrArg some (by kernel_rfl))⟩
  f8 := Try.func94.trans (congrArg some (by kernel_rfl))
  f10 := ⟨Try.f100.name, by decide, Try.func100.trans (congrArg some (by kernel_rfl))⟩
  f11 := ⟨Try.f101.name, by decide, Try.func101.trans (congrArg some (by kernel_rfl))⟩
  f12 := ⟨Try.f102.name, by decide, Try.func102.trans (congrArg some (by kernel_rfl))⟩
  f13 := ⟨Try.f103.name, by decide, Try.func103.trans (congrArg some (by kernel_rfl))⟩
  f14 := ⟨Try.f104.name, by decide, Try.func104.trans (congrArg some (by kernel_rfl))⟩
  f15 := ⟨Try.f105.name, by decide, Try.func105.trans (congrArg some (by kernel_rfl))⟩
  f16 := ⟨Try.f106.name, by decide, Try.func106.trans (congrArg some (by kernel_rfl))⟩
  f17 := ⟨Try.f107.name, by decide, Try.func107.trans (congrArg some (by kernel_rfl))⟩
  f18 := ⟨Try.f108.name, by decide, Try.func108.trans (congrArg some (by kernel_rfl))⟩
  f19 := Try.func109.trans (congrArg some (by kernel_rfl))
  f20 := Try.func110.trans (congrArg some (by kernel_rfl))
  f30 := ⟨Try.f113.name, by decide, Try.func113.trans (congrArg some (by kernel_rfl))⟩
  f31 := Try.func114.trans (congrArg some (by kernel_rfl))
  f32 := Try.func115.trans (congrArg some (by kernel_rfl))
  f33 := ⟨Try.f116.name, by decide, Try.func116.trans (congrArg some (by kernel_rfl))⟩
  f34 := ⟨Try.f117.name, by decide, Try.func117.trans (congrArg some (by kernel_rfl))⟩
  f35 := ⟨Try.f99.name, by decide, Try.func99.trans (congrArg some (by kernel_rfl))⟩
  f40 := ⟨Try.f119.name, by decide, Try.func119.trans (congrArg some (by kernel_rfl))⟩
  t0 := Try.underlying0
  a0 := Try.isAgg0
  z0 := Try.sizeOf0
  v0 := Try.zeroValue0
  t3 := Try.underlying3
  a3 := Try.isAgg3
  z3 := Try.sizeOf3
  v3 := Try.zeroValue3
  t4 := Try.underlying4
  a4 := Try.isAgg4
  z4 := Try.sizeOf4
  v4 := Try.zeroValue4
  t5 := Try.underlying5
  a5 := Try.isAgg5
  z5 := Try.sizeOf5
  v5 := Try.zeroValue5
  t9 := Try.underlying9
  a9 := Try.isAgg9
  z9 := Try.sizeOf9
  v9 := Try.zeroValue9
  t22 := Try.underlying38
  a22 := Try.isAgg38
  z22 := Try.sizeOf38
  v22 := Try.zeroValue38
  t23 := Try.underlying38
  a23 := Try.isAgg38
  z23 := Try.sizeOf38
  v23 := Try.zeroValue38
  t25 := Try.underlying3
  a25 := Try.isAgg3
  z25 := Try.sizeOf3
  v25 := Try.zeroValue3
  t32 := Try.underlying102
  a32 := Try.isAgg102
  z32 := Try.sizeOf102
  v32 := Try.zeroValue102
  t35 := Try.underlying169
  a35 := Try.isAgg169
  z35 := Try.sizeOf169
  v35 := Try.zeroValue169
  t36 := Try.underlying170
  a36 := Try.isAgg170
  z36 := Try.sizeOf170
  v36 := Try.zeroValue170
  t41 := Try.underlying128
  a41 := Try.isAgg128
  z41 := Try.sizeOf128
  v41 := Try.zeroValue128
  t44 := Try.underlying176
  a44 := Try.isAgg176
  z44 := Try.sizeOf176
  v44 := Try.zeroValue176
  t46 := Try.underlying178
  a46 := Try.isAgg178
  z46 := Try.sizeOf178
  v46 := Try.zeroValue178
  t53 := Try.underlying181
  a53 := Try.isAgg181
  z53 := Try.sizeOf181
  v53 := Try.zeroValue181
  t57 := Try.underlying185
  a57 := Try.isAgg185
  z57 := Try.sizeOf185
  v57 := Try.zeroValue185
  t63 := Try.underlying187
  a63 := Try.isAgg187
  z63 := Try.sizeOf187
  v63 := Try.zeroValue187
  t64 := Try.underlying188
  a64 := Try.isAgg188
  z64 := Try.sizeOf188
  v64 := Try.zeroValue188 }
namespace R12
open Go.Vc Go.RowKit

def srt (l : List Int) : List Int := l.mergeSort fun x y => decide (x ≤ y)
theorem srt_perm (l : List Int) : (srt l).Perm l := List.mergeSort_perm _ _
theorem srt_len (l : List Int) : (srt l).length = l.length := (srt_perm l).length_eq
theorem srt_sorted (l : List Int) : (srt l).Pairwise (· ≤ ·) := by
  have := List.pairwise_mergeSort (le := fun x y : Int => decide (x ≤ y)) (fun a b c h k => by simp only [decide_eq_true_eq] at *; omega) (fun a b => by simp only [Bool.or_eq_true, decide_eq_true_eq]; omega) l
  exact this.imp fun h => of_decide_eq_true h
theorem sort_l {B g n c : Nat} {ns : List Nat} {l : List Int} {w : World} (hR : Row 3 1 B ns (some ⟨g, 0, none⟩) n c (ints l) w) (hn1 : n ≤ 1000) : Calls Try.prog 85 #[.slice (some ⟨g, 0, none⟩) n c] w fun e w' =>
    e = .returned (.tuple #[]) ∧ Chg [g] w w' ∧ Row 3 1 B ns (some ⟨g, 0, none⟩) n c (ints (srt l)) w' := by
  have hl : l.length = n := by have := hR.own.1; simpa [ints] using this
  rcases hR.own.2 with ⟨h0, _⟩ | ⟨g', cap', cur, hv, hg, hb, hn, hcap, hsz, ht⟩
  · cases h0
  cases hv
  have hgl := (Array.getElem?_eq_some_iff.1 hb).1
  have ht' : cur.toList.take l.length = l.map (Value.int .i64) := by rw [hl]; simpa [ints] using ht
  have := AnyM.slices_Sort_int R12.sort85 g 0 c l w (holds_of_blockI hb ht') hgl (by omega)
  rw [hl] at this
  refine this.mono fun e w' he => ?_
  obtain ⟨rfl, k, os, rfl⟩ := he
  refine ⟨rfl, ⟨rfl, rfl, rfl, by simp, fun j hj hne => ?_⟩, ?_, hR.ns⟩
  · rw [Sort.heap_grow_old _ _ (by simpa using hj)]
    have : g ≠ j := fun e => hne (by simp [e])
    simp [Sort.putRow, Sort.mapBlock, Sort.ahead, Array.getElem?_modify, this]
  · have := ownsRow_sortedI (w := w) (base := B) (g := g) (cap := c) (n := k) (e := 3) (os := os) (cur := cur) (ss := l) (ts := srt l) (srt_len l) hg hb (by omega) hcap (by simpa using hsz)
    rw [hl] at this
    exact this
theorem sort_none {p : Option Addr} {c : Nat} {w : World} : Calls Try.prog 85 #[.slice p 0 c] w fun e w' => e = .returned (.tuple #[]) ∧ w' = w := AnyM.slices_Sort_int_none R12.sort85 p c w

theorem nodup_len : ∀ {l k : List Int}, l.Nodup → (∀ x ∈ l, x ∈ k) → l.length ≤ k.length
  | [], _, _, _ => Nat.zero_le _
  | a :: l, k, h, hs => by
    have h' := List.nodup_cons.1 h
    have h1 := nodup_len (l := l) (k := k.erase a) h'.2 (fun x hx => (List.mem_erase_of_ne (fun e => h'.1 (by rw [← e]; exact hx))).2 (hs x (List.mem_cons_of_mem _ hx)))
    rw [List.length_erase_of_mem (hs a List.mem_cons_self)] at h1
    have := List.length_pos_of_mem (hs a List.mem_cons_self)
    simp only [List.length_cons]; omega
def setV (ks : List Int) : List (Int × Value) := ks.map fun k => (k, .bool true)
set_option maxRecDepth 100000 in
theorem sorted_l {w : World} {tm : Nat} {ks : List Int} (hm : MapC w tm I (setV ks)) (hnd : ks.Nodup) (hl : ks.length ≤ 1000) : Calls Try.prog 65 #[.map (some tm)] w fun e w' => ∃ a c, e = .returned (.slice a ks.length c) ∧ Below w.heap.size w w' ∧ Lies [] w.heap.size w'.heap.size w' a (ints (srt ks)) := by
  refine vc65 _ w _ fun w1 hb1 hk1 => ?_
  obtain ⟨es, clock, MB⟩ := (hm.below hb1).toB
  have hnk : ((setV ks).map (·.1)).Nodup := by
    have : (setV ks).map (·.1) = ks := by simp [setV, Function.comp_def]
    rw [this]; exact hnd
  have z1 := hb1.size
  have lt := hm.lt
  refine range_map (t := 87) (kt := 3) (vt := 4) (by kernel_rfl) MB fun w2 hb2 I2 => ⟨_, rfl, .all hb2, fun n ls w' => match ls with | [.sl a k c] => ∃ seen sn, n + seen.length = ks.length ∧ seen.Nodup ∧ (∀ x ∈ seen, x ∈ ks) ∧ k = seen.length ∧ RowE 3 1 w2.heap.size [] a k c (ints seen.reverse) w' ∧ IterB w' w1.heap.size tm I (setV ks) seen es clock sn ∧ w2.heap.size ≤ w'.heap.size | _ => False, fun w4 hb4 hk4 => ⟨ks.length, [], #[], rfl, List.nodup_nil, by simp, rfl, .inr Row.nil, I2.chg (Chg.kept hk4) (by simp) (by simp), hk4.size⟩, ?_⟩
  have li := I2.lt
  rintro n a1 m5 m6 w5 hb5 ⟨seen, sn, hn, sd, sk, rfl, RR, II, z5⟩ w6 hb6 hk6
  have z56 := hk6.size
  have R6 := RR.chg (Chg.kept hk6) (fun _ h => h)
  have I6 := II.chg (Chg.kept hk6) (by simp) (by simp)
  have z6 := hb6.size
  have l6 := I6.lt
  refine next_map I6 hnk (fun k v w7 sn' hmem hns c7 E7 => .inl ?_) (fun hall => .inr ?_)
  · obtain ⟨k', hk', he⟩ := List.mem_map.1 hmem
    simp only [Prod.mk.injEq] at he
    obtain ⟨rfl, rfl⟩ := he
    refine ⟨_, _, rfl, c7.own (by simp) (by simp) (fun _ => ⟨z6, fun x hx => by simp only [List.mem_singleton] at hx; omega⟩), fun w8 hb8 hk8 => entry_map (k := k') (v := .bool true) (enc := I) ⟨E7.iter.chg (Chg.kept hk8) (by simp) (by simp), E7.last⟩ ?_⟩
    refine ⟨k', true, rfl, .all (.refl _ _), fun m9 g9 w10 hb10 hk10 hc10 => ?_⟩
    have R7 : RowE 3 1 w2.heap.size [] a1 seen.length m6 (ints seen.reverse) w7 := R6.imp id fun R => R.chgOld c7 fun x hx => by simp only [List.mem_singleton] at hx; omega
    have I8 := E7.iter.chg (Chg.kept hk8) (by simp) (by simp)
    have R8 := R7.chg (Chg.kept hk8) (fun _ h => h)
    have I10 := I8.chg (Chg.kept hk10) (by simp; have := I8.map.lt; omega) (by simp; have := I8.lt; omega)
    have R10 := (R8.grow (ms := [m9]) (allc g9 all0)).chg (Chg.kept hk10) (fun _ h => h)
    have z7 := c7.size
    have z2 := hb2.size
    have z8 := hk8.size
    have z10 := hk10.size
    have hlen : (k' :: seen).length ≤ ks.length := nodup_len (List.nodup_cons.2 ⟨hns, sd⟩) (fun x hx => by
      rcases List.mem_cons.1 hx with rfl | hx
      · exact hk'
      · exact sk x hx)
    simp only [List.length_cons] at hlen
    refine append_rowE (P := Try.prog) (bytes := 8) (by kernel_rfl) (by omega) R10 (m := 1) (news := [I k']) (Cells.obj (vs := [I k']) hc10) rfl (List.forall_mem_cons.2 ⟨rfl, by simp⟩) (by omega) (by omega) (by omega) hk10.own (by omega) fun a2 c2 w11 R11 S11 cS11 hS11 => ?_
    refine ⟨_, _, _, rfl, cS11.own (fun x hx => ⟨hk10.own x hx, fun h => (hS11 x h).2 hx⟩) (by simp) (fun _ => ⟨hb10.size, fun x hx => by have := (hS11 x hx).1; omega⟩), fun w12 hb12 hk12 => ⟨n - 1, by omega, k' :: seen, sn', by simp only [List.length_cons]; omega, List.nodup_cons.2 ⟨hns, sd⟩, fun x hx => ?_, by simp, ?_, ?_, by have := cS11.size; have := hk12.size; omega⟩⟩
    · rcases List.mem_cons.1 hx with rfl | hx
      · exact hk'
      · exact sk x hx
    · have : ints (k' :: seen).reverse = ints seen.reverse ++ [I k'] := by simp [ints]
      rw [this]
      exact .inr ((R11.chg (Chg.kept hk12) (fun _ h => h)).less (by simp))
    · have z2 := hb2.size
      refine (I10.chg cS11 (fun h => ?_) (fun h => ?_)).chg (Chg.kept hk12) ?_ ?_
      · have := (hS11 _ h).1; omega
      · have := (hS11 _ h).1; omega
      · simp only [List.mem_singleton]; omega
      · simp only [List.mem_singleton]; omega
  · refine ⟨rfl, .all (.refl _ _), fun w13 hb13 hk13 => ?_⟩
    have hp : seen.reverse.Perm ks := (List.reverse_perm _).trans ((List.perm_ext_iff_of_nodup sd hnd).2 fun x => ⟨sk x, fun hx => hall (x, .bool true) (List.mem_map.2 ⟨x, hx, rfl⟩)⟩)
    have hlen : seen.length = ks.length := by rw [← List.length_reverse]; exact hp.length_eq
    have hs : srt seen.reverse = srt ks := List.Perm.eq_of_pairwise (fun a b _ _ h k => by omega) (srt_sorted _) (srt_sorted _) ((srt_perm _).trans (hp.trans (srt_perm _).symm))
    have R13 := R6.chg (Chg.kept hk13) (fun _ h => h)
    by_cases h0 : seen.length = 0
    · have : ks = [] := List.length_eq_zero_iff.1 (by omega)
      subst this
      have : seen = [] := List.length_eq_zero_iff.1 h0
      subst this
      refine sort_none.mono fun e w14 he => ?_
      obtain ⟨rfl, rfl⟩ := he
      exact ⟨rfl, .all (.refl _ _), fun w15 hb15 hk15 => ⟨_, _, rfl, hb15, fun i v hi => by simp [srt, ints] at hi⟩⟩
    · rcases R13 with ⟨_, hz, _⟩ | R13
      · exact absurd hz h0
      obtain ⟨g, rfl, R13⟩ := (RowZ.at (.inr R13) h0 : _)
      have hg := R13.lt g 0 rfl
      refine (sort_l R13 (by omega)).mono fun e w14 he => ?_
      obtain ⟨rfl, c14, R14⟩ := he
      have z2 := hb2.size
      refine ⟨rfl, c14.own (by simp) (by simp) (fun _ => ⟨hb13.size, fun x hx => by simp only [List.mem_singleton] at hx; omega⟩), fun w15 hb15 hk15 => ?_⟩
      have R15 := R14.chg (Chg.kept hk15) (fun _ h => h)
      rw [hs] at R15
      exact ⟨_, _, by rw [hlen], hb15, rowE_lies (.inr R15) (by omega)⟩
end R12
end Go.Proofs
end
section
/- Short shafts. -/
namespace Go.Proofs.R12
open Go.Vc Go.RowKit Go.Proofs

def fitsX (f : Fit) (H S : List Int) (s h : Int) : Prop := isF f (H.getD h.toNat 0) (S.getD s.toNat 0)
instance (f : Fit) (H S : List Int) (s h : Int) : Decidable (fitsX f H S s h) := by unfold fitsX; exact inferInstance
/-- Shafts without a hole, or with one that fits a short shaft. -/
inductive Short (f : Fit) (H S : List Int) (ps : List (Int × Int)) : Int → Prop
  | free {s : Int} : 0 ≤ s → s < S.length → ps.lookup s = none → Short f H S ps s
  | next {s h s' : Int} : Short f H S ps s → 0 ≤ h → h < H.length → fitsX f H S s h → (s', h) ∈ ps → Short f H S ps s'
def FitS (f : Fit) (H S : List Int) (ps : List (Int × Int)) (h : Int) : Prop := (0 ≤ h ∧ h < H.length) ∧ ∃ s, Short f H S ps s ∧ fitsX f H S s h
structure PsOk (ps : List (Int × Int)) (n m : Nat) : Prop where
  nf : (ps.map (·.1)).Nodup
  ns : (ps.map (·.2)).Nodup
  r : ∀ p ∈ ps, (0 ≤ p.1 ∧ p.1 < n) ∧ (0 ≤ p.2 ∧ p.2 < m)
theorem look_mem {V : Type} {k : Int} {v : V} : ∀ {m : List (Int × V)}, m.lookup k = some v → (k, v) ∈ m
  | (a, b) :: r, h => by
    simp only [List.lookup] at h
    cases e : k == a <;> rw [e] at h
    · exact List.mem_cons_of_mem _ (look_mem h)
    · obtain rfl := Option.some.inj h
      have : k = a := by simpa using e
      subst this; exact List.mem_cons_self
theorem look_mem_none {V : Type} {k : Int} : ∀ {m : List (Int × V)}, m.lookup k = none → ∀ p ∈ m, p.1 ≠ k
  | (a, b) :: r, h, p, hp => by
    simp only [List.lookup] at h
    cases e : k == a <;> rw [e] at h
    · rcases List.mem_cons.1 hp with rfl | hp
      · simpa using fun x => (by simpa using e : ¬ k = a) x.symm
      · exact look_mem_none h p hp
    · cases h
theorem setV_look {Z : List Int} {x : Int} : (setV Z).lookup x = if x ∈ Z then some (.bool true) else none := by
  induction Z with
  | nil => rfl
  | cons a r ih =>
    simp only [setV, List.map_cons, List.lookup] at ih ⊢
    by_cases h : x = a
    · subst h; simp
    · have : (x == a) = false := by simpa using h
      rw [this]; simp only [ih, List.mem_cons, h, false_or]
section
variable {f : Fit} {H S : List Int} {ps : List (Int × Int)}
theorem Short.in (hp : PsOk ps S.length H.length) {s : Int} (h : Short f H S ps s) : 0 ≤ s ∧ s < S.length := by
  cases h with
  | free h1 h2 _ => exact ⟨h1, h2⟩
  | next _ _ _ _ h => exact (hp.r _ h).1
structure SInv (f : Fit) (H S : List Int) (ps : List (Int × Int)) (T A Z : List Int) : Prop where
  s : ∀ x ∈ A ++ T, Short f H S ps x
  z : ∀ h ∈ Z, FitS f H S ps h
  nd : (A ++ T).Nodup
  zn : Z.Nodup
  fr : ∀ s : Int, 0 ≤ s → s < S.length → ps.lookup s = none → s ∈ A ++ T
  tk : ∀ p ∈ ps, p.2 ∈ Z → p.1 ∈ A ++ T
  nt : ∀ p ∈ ps, p.1 ∈ A ++ T → p.2 ∈ Z
def Closed1 (f : Fit) (H S : List Int) (Z : List Int) (k : Int) (s : Int) : Prop := ∀ h : Int, 0 ≤ h → h < k → fitsX f H S s h → h ∈ Z
theorem SInv.start (_ : PsOk ps S.length H.length) : SInv f H S ps ((idxs S.length).filter fun s => (ps.lookup s).isNone) [] [] where
  s := fun x hx => by
    simp only [List.nil_append, List.mem_filter, Option.isNone_iff_eq_none] at hx
    exact .free (idxs_mem hx.1).1 (idxs_mem hx.1).2 hx.2
  z := fun h hh => by simp at hh
  nd := (idxs_nodup _).sublist List.filter_sublist
  zn := List.nodup_nil
  fr := fun s h1 h2 h3 => by
    simp only [List.nil_append, List.mem_filter, Option.isNone_iff_eq_none]
    refine ⟨?_, h3⟩
    unfold idxs
    exact List.mem_map.2 ⟨s.toNat, List.mem_range.2 (by omega), by simp; omega⟩
  tk := fun p _ h => by simp at h
  nt := fun p hp h => by
    simp only [List.nil_append, List.mem_filter, Option.isNone_iff_eq_none] at h
    exact absurd rfl (look_mem_none h.2 p hp)
theorem SInv.move {T A Z : List Int} {s : Int} (h : SInv f H S ps (s :: T) A Z) : SInv f H S ps T (A ++ [s]) Z := by
  have e : A ++ [s] ++ T = A ++ s :: T := by simp
  exact ⟨by rw [e]; exact h.s, h.z, by rw [e]; exact h.nd, h.zn, by rw [e]; exact h.fr, by rw [e]; exact h.tk, by rw [e]; exact h.nt⟩
/-- A hole that fits, without a shaft. -/
theorem SInv.hole {T A Z : List Int} {s h : Int} (I : SInv f H S ps T A Z) (hs : s ∈ A) (h0 : 0 ≤ h ∧ h < H.length) (hf : fitsX f H S s h) (hz : h ∉ Z) (hn : ∀ p ∈ ps, p.2 ≠ h) : SInv f H S ps T A (Z ++ [h]) where
  s := I.s
  z := fun x hx => by
    rcases List.mem_append.1 hx with hx | hx
    · exact I.z x hx
    · simp only [List.mem_singleton] at hx; subst hx
      exact ⟨h0, s, I.s s (List.mem_append_left _ hs), hf⟩
  nd := I.nd
  zn := List.nodup_append.2 ⟨I.zn, by simp, fun a ha b hb e' => by simp only [List.mem_singleton] at hb; subst hb; subst e'; exact hz ha⟩
  fr := I.fr
  tk := fun p hp hx => by
    rcases List.mem_append.1 hx with hx | hx
    · exact I.tk p hp hx
    · simp only [List.mem_singleton] at hx; exact absurd hx (hn p hp)
  nt := fun p hp hx => List.mem_append_left _ (I.nt p hp hx)
/-- With one. -/
theorem SInv.taken (hp : PsOk ps S.length H.length) {T A Z : List Int} {s h s' : Int} (I : SInv f H S ps T A Z) (hs : s ∈ A) (h0 : 0 ≤ h ∧ h < H.length) (hf : fitsX f H S s h) (hz : h ∉ Z) (hn : (s', h) ∈ ps) : SInv f H S ps (T ++ [s']) A (Z ++ [h]) := by
  have hno : s' ∉ A ++ T := fun hm => hz (I.nt _ hn hm)
  have e : A ++ (T ++ [s']) = A ++ T ++ [s'] := by simp
  have huniq : ∀ p ∈ ps, p.2 = h → p.1 = s' := fun p hp' he => by
    obtain ⟨i, hi, rfl⟩ := List.getElem_of_mem hp'
    obtain ⟨j, hj, he'⟩ := List.getElem_of_mem hn
    have := (List.getElem_inj (i := i) (j := j) (h₀ := by simpa using hi) (h₁ := by simpa using hj) hp.ns).1 (by simp only [List.getElem_map]; rw [he, he'])
    subst this
    rw [he']
  have huniq2 : ∀ p ∈ ps, p.1 = s' → p.2 = h := fun p hp' he => by
    obtain ⟨i, hi, rfl⟩ := List.getElem_of_mem hp'
    obtain ⟨j, hj, he'⟩ := List.getElem_of_mem hn
    have := (List.getElem_inj (i := i) (j := j) (h₀ := by simpa using hi) (h₁ := by simpa using hj) hp.nf).1 (by simp only [List.getElem_map]; rw [he, he'])
    subst this
    rw [he']
  refine ⟨fun x hx => ?_, fun x hx => ?_, ?_, ?_, fun x a b c => ?_, fun p hp' hx => ?_, fun p hp' hx => ?_⟩
  · rw [e] at hx
    rcases List.mem_append.1 hx with hx | hx
    · exact I.s x hx
    · simp only [List.mem_singleton] at hx; subst hx
      exact .next (I.s s (List.mem_append_left _ hs)) h0.1 h0.2 hf hn
  · rcases List.mem_append.1 hx with hx | hx
    · exact I.z x hx
    · simp only [List.mem_singleton] at hx; subst hx
      exact ⟨h0, s, I.s s (List.mem_append_left _ hs), hf⟩
  · rw [e]
    exact List.nodup_append.2 ⟨I.nd, by simp, fun a ha b hb e' => by simp only [List.mem_singleton] at hb; subst hb; subst e'; exact hno ha⟩
  · exact List.nodup_append.2 ⟨I.zn, by simp, fun a ha b hb e' => by simp only [List.mem_singleton] at hb; subst hb; subst e'; exact hz ha⟩
  · rw [e]; exact List.mem_append_left _ (I.fr x a b c)
  · rw [e]
    rcases List.mem_append.1 hx with hx | hx
    · exact List.mem_append_left _ (I.tk p hp' hx)
    · simp only [List.mem_singleton] at hx
      exact List.mem_append_right _ (by simp [huniq p hp' hx])
  · rw [e] at hx
    rcases List.mem_append.1 hx with hx | hx
    · exact List.mem_append_left _ (I.nt p hp' hx)
    · simp only [List.mem_singleton] at hx
      exact List.mem_append_right _ (by simp [huniq2 p hp' hx])
theorem SInv.done {A Z : List Int} (I : SInv f H S ps [] A Z) (hc : ∀ a ∈ A, Closed1 f H S Z H.length a) : (∀ s, s ∈ A ↔ Short f H S ps s) ∧ ∀ h, h ∈ Z ↔ FitS f H S ps h := by
  have key : ∀ s, Short f H S ps s → s ∈ A := fun s hs => by
    induction hs with
    | free h1 h2 h3 => simpa using I.fr _ h1 h2 h3
    | next _ h1 h2 h3 h4 ih => simpa using I.tk _ h4 (hc _ ih _ h1 h2 h3)
  refine ⟨fun s => ⟨fun h => I.s s (by simpa using h), key s⟩, fun h => ⟨I.z h, fun ⟨⟨h1, h2⟩, s, h3, h4⟩ => hc s (key s h3) h h1 h2 h4⟩⟩
theorem SInv.len (hp : PsOk ps S.length H.length) {T A Z : List Int} (I : SInv f H S ps T A Z) : (A ++ T).length ≤ S.length ∧ Z.length ≤ H.length := by
  have hin : ∀ {n : Nat} {x : Int}, 0 ≤ x → x < n → x ∈ idxs n := fun {n x} h1 h2 => by
    unfold idxs
    exact List.mem_map.2 ⟨x.toNat, List.mem_range.2 (by omega), by simp; omega⟩
  have l : ∀ n, (idxs n).length = n := fun n => by simp [idxs]
  have a := nodup_len I.nd (k := idxs S.length) fun x hx => hin ((I.s x hx).in hp).1 ((I.s x hx).in hp).2
  have b := nodup_len I.zn (k := idxs H.length) fun x hx => hin (I.z x hx).1.1 (I.z x hx).1.2
  rw [l] at a b
  exact ⟨a, b⟩
end

theorem taken_some {ps : List (Int × Int)} {h : Int} {v : Value} (hl : (takenV ps).lookup h = some v) : ∃ s', v = I s' ∧ (s', h) ∈ ps := by
  obtain ⟨p, hp, he⟩ := List.mem_map.1 (look_mem hl)
  simp only [Prod.mk.injEq] at he
  obtain ⟨rfl, rfl⟩ := he
  exact ⟨p.1, rfl, hp⟩
theorem taken_none {ps : List (Int × Int)} {h : Int} (hl : (takenV ps).lookup h = none) : ∀ p ∈ ps, p.2 ≠ h := fun p hp =>
  look_mem_none hl (p.2, I p.1) (List.mem_map.2 ⟨p, hp, rfl⟩)
theorem below_of_chg {w w' : World} {S : List Nat} {B : Nat} (c : Chg S w w') (hB : B ≤ w.heap.size) (hs : ∀ x ∈ S, B ≤ x) : Below B w w' := ⟨c.os, c.tape, c.output, c.size, fun k hk => c.keep k (by omega) fun h => by have := hs k h; omega⟩
theorem setV_add (Z : List Int) (x : Int) : setV Z ++ [(x, .bool true)] = setV (Z ++ [x]) := by simp [setV]

set_option maxRecDepth 100000 in
set_option maxHeartbeats 2000000 in
theorem short_l {w : World} {bb : Nat} {f : Fit} {H S : List Int} {aH : Option Addr} {cH : Nat} {aS : Option Addr} {cS : Nat} {mg mt : Nat} {ps : List (Int × Int)} (B : BoxIs w bb f H S aH cH aS cS mg mt ps) (hp : PsOk ps S.length H.length) (zH : okSz H) (zS : okSz S) (lH : H.length ≤ 1000) (lS : S.length ≤ 1000) :
    Calls Try.prog 64 #[.pointer (some ⟨bb, 0, none⟩)] w fun e w' => Below w.heap.size w w' ∧ ∃ ma mz A Z, e = .returned (.tuple #[.map (some ma), .map (some mz)]) ∧ (w.heap.size ≤ ma ∧ w.heap.size ≤ mz) ∧ MapC w' ma I (setV A) ∧ MapC w' mz I (setV Z) ∧ (A.Nodup ∧ A.length ≤ S.length) ∧ (Z.Nodup ∧ Z.length ≤ H.length) ∧ (∀ s, s ∈ A ↔ Short f H S ps s) ∧ ∀ h, h ∈ Z ↔ FitS f H S ps h := by
  have BX : ∀ {w' : World}, Below w.heap.size w w' → BoxIs w' bb f H S aH cH aS cS mg mt ps := fun h => B.chg (Chg.of_below h)
  have bH : ∀ i : Nat, 0 ≤ H.getD i 0 ∧ H.getD i 0 ≤ 1000000 := fun i => by
    rw [List.getD_eq_getElem?_getD]
    cases h : H[i]? with
    | none => simp
    | some v => exact zH v (List.mem_of_getElem? h)
  have bS : ∀ i : Nat, 0 ≤ S.getD i 0 ∧ S.getD i 0 ≤ 1000000 := fun i => by
    rw [List.getD_eq_getElem?_getD]
    cases h : S[i]? with
    | none => simp
    | some v => exact zS v (List.mem_of_getElem? h)
  refine vc64 _ _ w _ fun w1 hb1 hk1 => mkMap (K := Int) (enc := I) fun w2 hd2 ma2 => ⟨_, rfl, .all hd2, fun w3 hb3 hk3 => mkMap (K := Int) (enc := I) fun w4 hd4 mz4 => ⟨_, rfl, .all hd4, ?_⟩⟩
  have z1 := hb1.size
  have z2 := hd2.size
  have z3 := hk3.size
  have z4 := hd4.size
  have la2 := ma2.lt
  have lz4 := mz4.lt
  have hb4 : Below w.heap.size w w4 := hb3.trans (hd4.mono hb3.size)
  have ma4 : MapC w4 w1.heap.size I [] := (ma2.chg (Chg.kept hk3) (by simp)).below hd4
  have hma := z1
  have hmz : w.heap.size ≤ w3.heap.size := by omega
  generalize w1.heap.size = ma at *
  generalize w3.heap.size = mz at *
  have hne : ma ≠ mz := by omega
  refine ⟨_, _, _, cell_at' ((BX hb4).at (i := 7) rfl) (by omega), ?_⟩
  refine ⟨fun n ls w' => match ls with | [.sl a k c, .int _ ii] => (0 ≤ ii ∧ n + ii = S.length) ∧ QRow 3 w4.heap.size [] a k c (ints ((idxs ii.toNat).filter fun s => (ps.lookup s).isNone)) w' ∧ MapC w' ma I [] ∧ MapC w' mz I [] ∧ w4.heap.size ≤ w'.heap.size | _ => False, fun w6 hb6 hk6 => ⟨S.length, ⟨by omega, by omega⟩, QRow.nil, ma4.chg (Chg.kept hk6) (by simp), mz4.chg (Chg.kept hk6) (by simp), hk6.size⟩, ?_⟩
  rintro n a2 k2 c2 x1 w7 hb7 ⟨⟨x0, hn⟩, Q7, A7, Z7, y7⟩
  have hlen : ((idxs x1.toNat).filter fun s => (ps.lookup s).isNone).length ≤ x1.toNat := Nat.le_trans (List.length_filter_le _ _) (by simp [idxs])
  have k7 := Q7.len.1
  simp only [ints, List.length_map] at k7
  refine ⟨fun hlt => ?_, fun hge => ?_⟩
  · refine ⟨mg, cell_at' ((BX hb7).at (i := 8) rfl) (by omega), fun w8 hb8 hk8 => ?_⟩
    refine lookup_ok keyI (P := Try.prog) (mt := 129) (vt := 3) (by kernel_rfl) (BX hb8).g x1 (z := I 0) (by kernel_rfl) ?_
    rw [gets_look]
    have y8 := hk8.size
    refine ⟨((ps.lookup x1).getD 0), (ps.lookup x1).isSome, by cases ps.lookup x1 <;> rfl, .all (.refl _ _), fun ht m10 g10 w10 hb10 hk10 hc10 => ?_, fun ht => ⟨⟨by omega, by omega⟩, fun w13 hb13 hk13 => ⟨n - 1, by omega, ⟨by omega, by omega⟩, ?_, (A7.chg (Chg.kept hk8) (by simp)).chg (Chg.kept hk13) (by simp), (Z7.chg (Chg.kept hk8) (by simp)).chg (Chg.kept hk13) (by simp), by have := hk13.size; omega⟩⟩⟩
    · have y10 := hk10.size
      have Q10 := ((Q7.chg (Chg.kept hk8) (by simp)).grow (ms := [m10]) (allc g10 all0)).chg (Chg.kept hk10) (fun x hx => .inl (by simpa using hx))
      refine append_q (P := Try.prog) (bytes := 8) (by kernel_rfl) Q10 (Cells.obj (vs := [I x1]) hc10) trivial rfl (by omega) (by omega) (by omega) (by simpa using hk10.own) fun a3 c3 w11 Q11 S11 cS11 hS11 => ?_
      have y11 := cS11.size
      refine ⟨_, _, _, rfl, cS11.own (fun x hx => ⟨hk10.own x hx, fun h => (hS11 x h).2 (by simpa using hx)⟩) (by simp) (fun _ => ⟨hb10.size, fun x hx => by have := (hS11 x hx).1; omega⟩), ⟨by omega, by omega⟩, fun w12 hb12 hk12 => ⟨n - 1, by omega, ⟨by omega, by omega⟩, ?_, ?_, ?_, by have := hk12.size; omega⟩⟩
      · have e1 : (idxs (x1 + 1).toNat).filter (fun s => (ps.lookup s).isNone) = (idxs x1.toNat).filter (fun s => (ps.lookup s).isNone) ++ [x1] := by
          rw [show (x1 + 1).toNat = x1.toNat + 1 by omega, idxs_succ, List.filter_append, Int.toNat_of_nonneg x0]
          congr 1
          cases h : ps.lookup x1 with
          | none => simp [h]
          | some v => rw [h] at ht; cases ht
        rw [e1, ints_append]
        exact (Q11.chg (Chg.kept hk12) (fun x hx => .inl (by simpa using hx))).less (by simp)
      · refine (((A7.chg (Chg.kept hk8) (by simp)).chg (Chg.kept hk10) (by simp; omega)).chg cS11 (fun h => by have := (hS11 _ h).1; omega)).chg (Chg.kept hk12) (by simp; omega)
      · refine (((Z7.chg (Chg.kept hk8) (by simp)).chg (Chg.kept hk10) (by simp; omega)).chg cS11 (fun h => by have := (hS11 _ h).1; omega)).chg (Chg.kept hk12) (by simp; omega)
    · have e1 : (idxs (x1 + 1).toNat).filter (fun s => (ps.lookup s).isNone) = (idxs x1.toNat).filter (fun s => (ps.lookup s).isNone) := by
        rw [show (x1 + 1).toNat = x1.toNat + 1 by omega, idxs_succ, List.filter_append, Int.toNat_of_nonneg x0]
        cases h : ps.lookup x1 with
        | none => rw [h] at ht; cases ht
        | some v => simp [h]
      rw [e1]
      exact (Q7.chg (Chg.kept hk8) (by simp)).chg (Chg.kept hk13) (by simp)
  have e7 : x1.toNat = S.length := by omega
  rw [e7] at Q7
  refine ⟨fun n ls w' => match ls with | [.sl a k c] => ∃ T A Z, n + A.length = S.length ∧ SInv f H S ps T A Z ∧ (∀ a ∈ A, Closed1 f H S Z H.length a) ∧ QRow 3 w4.heap.size [] a k c (ints T) w' ∧ MapC w' ma I (setV A) ∧ MapC w' mz I (setV Z) ∧ w4.heap.size ≤ w'.heap.size | _ => False, fun w15 hb15 hk15 => ⟨S.length, _, [], [], rfl, SInv.start hp, by simp, Q7.chg (Chg.kept hk15) (by simp), A7.chg (Chg.kept hk15) (by simp), Z7.chg (Chg.kept hk15) (by simp), by have := hk15.size; omega⟩, ?_⟩
  rintro n4 a4 k4 c4 w16 hb16 ⟨T, A, Z, hn4, I16, C16, Q16, A16, Z16, y16⟩
  have k16 := Q16.len
  simp only [ints, List.length_map] at k16
  refine ⟨fun hpos => ?_, fun h0 w40 hb40 hk40 => ?_⟩
  rotate_left
  · have : T = [] := List.length_eq_zero_iff.1 (by omega)
    subst this
    have hl := I16.len hp
    simp only [List.append_nil] at hl
    have hd := I16.done C16
    have hnd := I16.nd
    rw [List.append_nil] at hnd
    exact ⟨hb40, ma, mz, A, Z, rfl, ⟨hma, hmz⟩, A16.chg (Chg.kept hk40) (by simp), Z16.chg (Chg.kept hk40) (by simp), ⟨hnd, hl.1⟩, ⟨I16.zn, hl.2⟩, hd.1, hd.2⟩
  obtain ⟨s, T', rfl⟩ : ∃ s T', T = s :: T' := by
    cases T with
    | nil => simp at k16; omega
    | cons s T' => exact ⟨s, T', rfl⟩
  have hs := (I16.s s (by simp)).in hp
  have hsA : s ∉ A := fun hm => by
    have := List.nodup_append.1 I16.nd
    exact this.2.2 s hm s List.mem_cons_self rfl
  refine load_n Q16.cells k16.1 ⟨by omega, hpos⟩ fun m26 m27 => ?_
  rw [show (s :: T').getD (Int.toNat 0) 0 = s from rfl]
  refine ⟨⟨by omega, by omega⟩, fun w17 hb17 hk17 => ?_⟩
  have y17 := hk17.size
  refine update_new keyI (P := Try.prog) (mt := 87) (vt := 4) (by kernel_rfl) (A16.chg (Chg.kept hk17) (by simp)) s (.bool true) (by rw [setV_look, if_neg hsA]) fun w18 A18 c18 => ?_
  rw [setV_add] at A18
  have z17 := hb17.size
  have d18 := below_of_chg (B := w.heap.size) c18 z17 (by simp; omega)
  have hb18 := hb17.trans d18
  refine ⟨c18.own (by simp) (by simp) (fun _ => ⟨z17, by simp; omega⟩), _, _, _, cell_at' ((BX hb18).at (i := 6) rfl) (by omega), ?_⟩
  have hl16 := (I16.move).len hp
  simp only [List.length_append, List.length_singleton] at hl16
  refine ⟨fun n ls w' => match ls with | [.sl a k c, .int _ ii] => ∃ T Z, (0 ≤ ii ∧ n + ii = H.length) ∧ SInv f H S ps T (A ++ [s]) Z ∧ (∀ a ∈ A, Closed1 f H S Z H.length a) ∧ Closed1 f H S Z ii s ∧ QRow 3 w4.heap.size [] a k c (ints T) w' ∧ MapC w' ma I (setV (A ++ [s])) ∧ MapC w' mz I (setV Z) ∧ w4.heap.size ≤ w'.heap.size | _ => False, fun w20 hb20 hk20 => ?_, ?_⟩
  · have Q18 := ((Q16.chg (Chg.kept hk17) (by simp)).chg c18 (fun x hx => .inr (by simp only [List.mem_singleton] at hx; omega))).chg (Chg.kept hk20) (by simp)
    exact ⟨H.length, T', Z, ⟨by omega, by omega⟩, I16.move, C16, fun h h1 h2 => by omega, QRow.pop Q18, A18.chg (Chg.kept hk20) (by simp), ((Z16.chg (Chg.kept hk17) (by simp)).chg c18 (by simp; omega)).chg (Chg.kept hk20) (by simp), by have := hk20.size; have := c18.size; omega⟩
  rintro n6 a6 k6 c6 x4 w21 hb21 ⟨T6, Z6, ⟨x40, hn6⟩, I6, C6, D6, Q6, A6, Zm6, y6⟩
  have z21 := hb21.size
  refine ⟨fun hlt => ?_, fun hge w39 hb39 hk39 => ⟨n4 - 1, by omega, T6, A ++ [s], Z6, by simp; omega, I6, fun a ha => ?_, Q6.chg (Chg.kept hk39) (by simp), A6.chg (Chg.kept hk39) (by simp), Zm6.chg (Chg.kept hk39) (by simp), by have := hk39.size; omega⟩⟩
  rotate_left
  · rcases List.mem_append.1 ha with ha | ha
    · exact C6 a ha
    · simp only [List.mem_singleton] at ha
      subst ha
      exact fun h h1 h2 => D6 h h1 (by omega)
  refine load_n (BX hb21).h rfl ⟨x40, hlt⟩ fun m36 m37 => ?_
  refine ⟨fun ls w' => match ls with | [.bool t] => (t = true ↔ x4 ∈ Z6 ∨ ¬ fitsX f H S s x4) ∧ Chg [] w21 w' | _ => False, fun w23 hb23 hk23 => ?_, ?_⟩
  · have g23 := chg_of_in hk23
    refine lookup_plain keyI (P := Try.prog) (mt := 87) (vt := 4) (by kernel_rfl) (Zm6.chg g23 (by simp)) x4 (z := .bool false) (by kernel_rfl) ?_
    rw [setV_look]
    refine ⟨decide (x4 ∈ Z6), by by_cases h : x4 ∈ Z6 <;> simp [h], .all (.refl _ _), fun h w25 hb25 hk25 => ⟨?_, g23.trans (Chg.kept hk25)⟩, fun h => ?_⟩
    · simp [of_decide_eq_true h]
    · have hz := of_decide_eq_false h
      have B24 := BX hb23
      refine ⟨_, _, _, _, _, _, cell_at' (B24.at (i := 0) rfl) (by omega), cell_at' (B24.at (i := 1) rfl) (by omega), cell_at' (B24.at (i := 2) rfl) (by omega), cell_at' (B24.at (i := 3) rfl) (by omega), cell_at' (B24.at (i := 4) rfl) (by omega), cell_at' (B24.at (i := 5) rfl) (by omega), ?_⟩
      refine ⟨_, _, _, cell_at' (B24.at (i := 7) rfl) (by omega), ?_⟩
      refine load_n B24.s rfl hs fun m41 m42 => ?_
      intro w26 hb26 hk26
      have q1 := bH x4.toNat
      have q2 := bS s.toNat
      refine Pure.calls (is_any f _ _ (by omega) (by omega)) fun w27 hd27 => ⟨_, rfl, .all hd27, fun w28 hb28 hk28 => ⟨?_, g23.trans ((chg_of_in hk26).trans ((Chg.of_below hd27).trans (Chg.kept hk28)))⟩⟩
      unfold fitsX
      simp [hz]
  rintro t4 w29 hb29 ⟨ht4, g29⟩
  refine ⟨fun ht => ⟨⟨by omega, by omega⟩, fun w30 hb30 hk30 => ?_⟩, fun ht w31 hb31 hk31 => ?_⟩
  · have g30 := g29.trans (Chg.kept hk30)
    refine ⟨n6 - 1, by omega, T6, Z6, ⟨by omega, by omega⟩, I6, C6, fun h h1 h2 h3 => ?_, Q6.chg g30 (by simp), A6.chg g30 (by simp), Zm6.chg g30 (by simp), by have := g30.size; omega⟩
    by_cases he : h = x4
    · subst he
      exact (ht4.1 ht).resolve_right fun hn => hn h3
    · exact D6 h h1 (by omega) h3
  have hzf : x4 ∉ Z6 ∧ fitsX f H S s x4 := by
    rw [ht] at ht4
    simp only [Bool.false_eq_true, false_iff, not_or, Classical.not_not] at ht4
    exact ht4
  have g31 := g29.trans (Chg.kept hk31)
  have y31 := g31.size
  refine update_new keyI (P := Try.prog) (mt := 87) (vt := 4) (by kernel_rfl) (Zm6.chg g31 (by simp)) x4 (.bool true) (by rw [setV_look, if_neg hzf.1]) fun w32 Z32 c32 => ?_
  rw [setV_add] at Z32
  have z31 := hb31.size
  have hb32 := hb31.trans (below_of_chg (B := w.heap.size) c32 z31 (by simp; omega))
  refine ⟨c32.own (by simp) (by simp) (fun _ => ⟨z31, by simp; omega⟩), mt, cell_at' ((BX hb32).at (i := 9) rfl) (by omega), fun w33 hb33 hk33 => ?_⟩
  refine lookup_ok keyI (P := Try.prog) (mt := 129) (vt := 3) (by kernel_rfl) (BX hb33).t x4 (z := I 0) (by kernel_rfl) ?_
  have Q33 := ((Q6.chg g31 (by simp)).chg c32 (fun x hx => .inr (by simp only [List.mem_singleton] at hx; omega))).chg (Chg.kept hk33) (by simp)
  have A33 := ((A6.chg g31 (by simp)).chg c32 (by simp; omega)).chg (Chg.kept hk33) (by simp)
  have Z33 := Z32.chg (Chg.kept hk33) (by simp)
  have y33 : w4.heap.size ≤ w33.heap.size := by have := c32.size; have := hk33.size; omega
  have hCl : ∀ a ∈ A, Closed1 f H S (Z6 ++ [x4]) H.length a := fun a ha h h1 h2 h3 => List.mem_append_left _ (C6 a ha h h1 h2 h3)
  have hDl : Closed1 f H S (Z6 ++ [x4]) (x4 + 1) s := fun h h1 h2 h3 => by
    by_cases he : h = x4
    · subst he; simp
    · exact List.mem_append_left _ (D6 h h1 (by omega) h3)
  have hmem : s ∈ A ++ [s] := by simp
  cases hl : (takenV ps).lookup x4 with
  | none =>
    refine ⟨0, false, rfl, .all (.refl _ _), fun h => (by cases h), fun _ => ⟨⟨by omega, by omega⟩, fun w38 hb38 hk38 => ?_⟩⟩
    exact ⟨n6 - 1, by omega, T6, Z6 ++ [x4], ⟨by omega, by omega⟩, I6.hole hmem ⟨x40, hlt⟩ hzf.2 hzf.1 (taken_none hl), hCl, hDl, Q33.chg (Chg.kept hk38) (by simp), A33.chg (Chg.kept hk38) (by simp), Z33.chg (Chg.kept hk38) (by simp), by have := hk38.size; omega⟩
  | some v =>
    obtain ⟨s', rfl, hps⟩ := taken_some hl
    refine ⟨s', true, rfl, .all (.refl _ _), fun _ m48 g48 w35 hb35 hk35 hc35 => ?_, fun h => (by cases h)⟩
    have y35 := hk35.size
    have I7 := I6.taken hp hmem ⟨x40, hlt⟩ hzf.2 hzf.1 hps
    have hl7 := (I7.len hp).1
    simp only [List.length_append, List.length_singleton] at hl7
    have k6' := Q6.len.1
    simp only [ints, List.length_map] at k6'
    have Q35 := (Q33.grow (ms := [m48]) (allc g48 all0)).chg (Chg.kept hk35) (fun x hx => .inl (by simpa using hx))
    refine append_q (P := Try.prog) (bytes := 8) (by kernel_rfl) Q35 (Cells.obj (vs := [I s']) hc35) trivial rfl (by omega) (by omega) (by omega) (by simpa using hk35.own) fun a8 c8 w36 Q36 S36 cS36 hS36 => ?_
    have y36 := cS36.size
    refine ⟨_, _, _, rfl, cS36.own (fun x hx => ⟨hk35.own x hx, fun h => (hS36 x h).2 (by simpa using hx)⟩) (by simp) (fun _ => ⟨hb35.size, fun x hx => by have := (hS36 x hx).1; omega⟩), ⟨by omega, by omega⟩, fun w37 hb37 hk37 => ⟨n6 - 1, by omega, T6 ++ [s'], Z6 ++ [x4], ⟨by omega, by omega⟩, I7, hCl, hDl, ?_, ?_, ?_, by have := hk37.size; omega⟩⟩
    · rw [ints_append]
      exact (Q36.chg (Chg.kept hk37) (fun x hx => .inl (by simpa using hx))).less (by simp)
    · exact ((A33.chg (Chg.kept hk35) (by simp; omega)).chg cS36 (fun h => by have := (hS36 _ h).1; omega)).chg (Chg.kept hk37) (by simp; omega)
    · exact ((Z33.chg (Chg.kept hk35) (by simp; omega)).chg cS36 (fun h => by have := (hS36 _ h).1; omega)).chg (Chg.kept hk37) (by simp; omega)
end Go.Proofs.R12
end
section
/- Lack. -/
namespace Go.Proofs.R12
open Go.Vc Go.RowKit Go.Proofs

theorem pairSt_nd {f : Fit} {H S : List Int} : ∀ {n : Nat}, n ≤ S.length → (((pairSt f H S n).2.map (·.1)).Nodup ∧ ((pairSt f H S n).2.map (·.2)).Nodup)
  | 0, _ => by simp [pairSt]
  | n + 1, h => by
    obtain ⟨h1, h2⟩ := pairSt_nd (f := f) (H := H) (S := S) (n := n) (by omega)
    obtain ⟨i1, i2⟩ := pairSt_inv (f := f) (H := H) (S := S) (n := n) (by omega)
    have hl : n < (sortIdx S).length := by rw [sortIdx_len]; omega
    rw [pairSt_succ (by omega)]
    have hd := List.dropWhile_suffix (l := (pairSt f H S n).1) (smallQ f H S ((sortIdx S).getD n 0))
    have hns : ∀ p ∈ (pairSt f H S n).2, p.1 ≠ (sortIdx S).getD n 0 := fun p hp e => by
      have h1 := (i2 p hp).1
      rw [e] at h1
      have hnd : (sortIdx S).Nodup := (sortIdx_perm S).nodup_iff.2 (idxs_nodup _)
      obtain ⟨k, hk, he⟩ := List.getElem_of_mem h1
      simp only [List.length_take] at hk
      rw [List.getElem_take] at he
      simp only [List.getD_eq_getElem?_getD, hl, List.getElem?_eq_getElem, Option.getD_some] at he
      have := (List.getElem_inj hnd).1 he
      omega
    unfold pstep
    split
    · exact ⟨h1, h2⟩
    · rename_i a t e
      have ha : a ∈ (pairSt f H S n).1 := hd.subset (by rw [e]; exact List.mem_cons_self)
      split
      · simp only [List.map_append, List.map_cons, List.map_nil]
        refine ⟨List.nodup_append.2 ⟨h1, by simp, fun x hx y hy e' => ?_⟩, List.nodup_append.2 ⟨h2, by simp, fun x hx y hy e' => ?_⟩⟩
        · obtain ⟨p, hp, rfl⟩ := List.mem_map.1 hx
          simp only [List.mem_singleton] at hy
          exact hns p hp (e'.trans hy)
        · obtain ⟨p, hp, rfl⟩ := List.mem_map.1 hx
          simp only [List.mem_singleton] at hy
          exact (i2 p hp).2.2 (by rw [e', hy]; exact ha)
      · exact ⟨h1, h2⟩
theorem pairK_ok (f : Fit) (H S : List Int) : PsOk (pairK f H S) S.length H.length where
  nf := (pairSt_nd (Nat.le_refl _)).1
  ns := (pairSt_nd (Nat.le_refl _)).2
  r := fun p hp => by
    obtain ⟨h1, h2, _⟩ := (pairSt_inv (f := f) (H := H) (S := S) (Nat.le_refl _)).2 p hp
    exact ⟨sortIdx_mem (List.mem_of_mem_take h1), sortIdx_mem h2⟩
open Classical in
noncomputable def shortL (f : Fit) (H S : List Int) : List Int := (idxs S.length).filter fun s => decide (Short f H S (pairK f H S) s)
open Classical in
noncomputable def fitL (f : Fit) (H S : List Int) : List Int := (idxs H.length).filter fun h => decide (FitS f H S (pairK f H S) h)
theorem idxs_sorted (n : Nat) : (idxs n).Pairwise (· < ·) := by
  unfold idxs
  rw [List.pairwise_map]
  exact List.pairwise_lt_range.imp fun h => by simpa using h
theorem idxs_in {n : Nat} {x : Int} (h1 : 0 ≤ x) (h2 : x < n) : x ∈ idxs n := by
  unfold idxs
  exact List.mem_map.2 ⟨x.toNat, List.mem_range.2 (by omega), by simp; omega⟩
/-- A list that holds just these numbers, sorted. -/
theorem srt_filter {n : Nat} {p : Int → Prop} [DecidablePred p] {A : List Int} (hnd : A.Nodup) (h : ∀ x, x ∈ A ↔ p x) (hp : ∀ x, p x → 0 ≤ x ∧ x < n) : srt A = (idxs n).filter fun x => decide (p x) := by
  refine List.Perm.eq_of_pairwise (le := (· ≤ ·)) (fun a b _ _ h k => by omega) (srt_sorted A) (((idxs_sorted n).sublist List.filter_sublist).imp fun h => by omega) ((srt_perm A).trans ((List.perm_ext_iff_of_nodup hnd ((idxs_nodup n).sublist List.filter_sublist)).2 fun x => ?_))
  simp only [List.mem_filter, decide_eq_true_eq, h]
  exact ⟨fun hx => ⟨idxs_in (hp x hx).1 (hp x hx).2, hx⟩, fun hx => hx.2⟩
noncomputable def lackM (W : Wk) (n : Int) (H S : List Int) : List Int × List Int := if boxE W n H S = 0 then (shortL (fitOf W n) H S, fitL (fitOf W n) H S) else ([], [])

set_option maxRecDepth 100000 in
theorem Lack_l {w : World} {W : Wk} {pa fa : Option Addr} {pc fc : Nat} {n : Int} {H S : List Int} {aH aS : Option Addr} {cH cS : Nat} (hp : CellsS w pa W.pats) (hf : Cells w fa (fitsV W.fits)) (hS : Small W) (hh : Cells w aH (ints H)) (hs : Cells w aS (ints S)) (lH : H.length ≤ 1000) (lS : S.length ≤ 1000)
    (hl : boxE W n H S = 0 → H.length ≤ 20 ∧ S.length ≤ 20) :
    Calls Try.prog 31 #[W.v pa pc fa fc, I n, .slice aH H.length cH, .slice aS S.length cS] w fun e w' => ∃ a c a' c', e = .returned (.tuple #[.slice a (lackM W n H S).1.length c, .slice a' (lackM W n H S).2.length c', I (boxE W n H S)]) ∧ Below w.heap.size w w' ∧ Lies [] w.heap.size w'.heap.size w' a (ints (lackM W n H S).1) ∧ Lies [] w.heap.size w'.heap.size w' a' (ints (lackM W n H S).2) := by
  refine vc31 _ _ _ _ _ _ _ _ _ _ _ _ _ w _ fun m1 g1 w1 hb1 hk1 => ?_
  refine (newBox_l (hp.keep hb1) (hf.keep hb1) hS (hh.keep hb1) (hs.keep hb1) lH lS (n := n)).mono fun e1 w2 he => ?_
  obtain ⟨a, rfl, hb2, hE, hO⟩ := he
  refine ⟨_, _, rfl, .all hb2, fun h1 w3 hb3 _ => ?_, fun h1 w4 hb4 hk4 => ?_⟩
  · have : lackM W n H S = ([], []) := if_neg h1
    rw [this]
    exact ⟨none, 0, none, 0, rfl, hb3, fun i v hi => by simp [ints] at hi, fun i v hi => by simp [ints] at hi⟩
  obtain ⟨mb, mg, mt, rfl, ⟨q1, q2, q3⟩, BX⟩ := hO h1
  obtain ⟨_, hn, _, zH, zS⟩ := boxE_ok h1
  obtain ⟨l1, l2⟩ := hl h1
  have hM : lackM W n H S = (shortL (fitOf W n) H S, fitL (fitOf W n) H S) := if_pos h1
  have o1 := hk1.own m1 (by simp)
  have c4 := Chg.kept hk4
  have nm : ∀ x, w1.heap.size ≤ x → x ∉ [m1] := fun x hx => by simp only [List.mem_singleton]; omega
  have BX4 : BoxIs w4 mb (fitOf W n) H S aH cH aS cS mg mt [] := ⟨cells_ne BX.cells c4 (nm _ q1), hh.keep hb4, hs.keep hb4, BX.g.chg c4 (nm _ q2), BX.t.chg c4 (nm _ q3), BX.ne⟩
  refine (pair_l BX4 zH zS l1 l2).mono fun e2 w5 he => ?_
  obtain ⟨rfl, c5, BX5⟩ := he
  have z1 := hb1.size
  have z2 := hb2.size
  have z4 := hb4.size
  have z5 := c5.size
  have z24 := hk4.size
  refine ⟨rfl, c5.own (fun x hx => ⟨hk4.own x hx, fun h => ?_⟩) (by simp) (fun _ => ⟨hb4.size, fun x hx => ?_⟩), fun w6 hb6 hk6 => ?_⟩
  · simp only [List.mem_cons, List.not_mem_nil, or_false] at hx h; omega
  · simp only [List.mem_cons, List.not_mem_nil, or_false] at hx; omega
  have c6 := Chg.kept hk6
  have z6 := hk6.size
  have BX6 : BoxIs w6 mb (fitOf W n) H S aH cH aS cS mg mt (pairK (fitOf W n) H S) := ⟨cells_ne BX5.cells c6 (nm _ q1), hh.keep hb6, hs.keep hb6, BX5.g.chg c6 (nm _ q2), BX5.t.chg c6 (nm _ q3), BX5.ne⟩
  refine (short_l BX6 (pairK_ok _ _ _) zH zS lH lS).mono fun e3 w7 he => ?_
  obtain ⟨hb7, ma, mz, A, Z, rfl, ⟨r1, r2⟩, A7, Z7, ⟨ndA, lA⟩, ⟨ndZ, lZ⟩, hA, hZ⟩ := he
  refine ⟨ma, mz, rfl, .all hb7, fun w8 hb8 hk8 => ?_⟩
  have z7 := hb7.size
  have A8 := A7.chg (Chg.kept hk8) (nm _ (by omega))
  have Z8 := Z7.chg (Chg.kept hk8) (nm _ (by omega))
  refine (sorted_l A8 ndA (by omega)).mono fun e4 w9 he => ?_
  obtain ⟨a4, c4', rfl, hb9, L9⟩ := he
  refine ⟨_, _, _, rfl, .all hb9, fun w10 hb10 hk10 => ?_⟩
  have z8 := hk8.size
  have Z10 := (Z8.below hb9).chg (Chg.kept hk10) (nm _ (by omega))
  have L10 := L9.out (Chg.kept hk10) (fun x hx => by simp only [List.mem_singleton] at hx; omega)
  refine (sorted_l Z10 ndZ (by omega)).mono fun e5 w11 he => ?_
  obtain ⟨a5, c5', rfl, hb11, L11⟩ := he
  refine ⟨_, _, _, rfl, .all hb11, fun w12 hb12 hk12 => ?_⟩
  have z9 := hb9.size
  have z10 := hk10.size
  have z11 := hb11.size
  have z12 := hk12.size
  have L12 := (L10.out (Chg.of_below (S := []) hb11) (by simp)).out (Chg.kept hk12) (fun x hx => by simp only [List.mem_singleton] at hx; omega)
  have L12' := L11.out (Chg.kept hk12) (fun x hx => by simp only [List.mem_singleton] at hx; omega)
  have eA : srt A = shortL (fitOf W n) H S := by
    classical
    unfold shortL
    rw [srt_filter (n := S.length) ndA hA fun x hx => hx.in (pairK_ok _ _ _)]
  have eZ : srt Z = fitL (fitOf W n) H S := by
    classical
    unfold fitL
    rw [srt_filter (n := H.length) ndZ hZ fun x hx => hx.1]
  rw [eA] at L12
  rw [eZ] at L12'
  have nA : A.length = (shortL (fitOf W n) H S).length := by rw [← eA, srt_len]
  have nZ : Z.length = (fitL (fitOf W n) H S).length := by rw [← eZ, srt_len]
  rw [hM, h1, nA, nZ]
  exact ⟨_, _, _, _, rfl, hb12, L12.to (by omega) (by omega), L12'.to (by omega) (by omega)⟩
end Go.Proofs.R12
end
section
/- The conditions of the functions, printed by program; each is what the generator reckons (kernel_rfl). -/
namespace Go.Proofs
open Go.Vc
set_option maxRecDepth 100000 in
set_option maxHeartbeats 2000000 in
theorem vc68 (p0w0a : Option Addr) (p0w0n : Nat) (p0w0c : Nat) (p0w1a : Option Addr) (p0w1n : Nat) (p0w1c : Nat) (x0 : Int) (x1a : Option Addr) (x1n : Nat) (x1c : Nat) (clock :
    Nat) (w : World) (R : Ending → World → Prop) (h : ∀ (m1 : Nat), w.heap.size ≤ m1 → ∀ (m2 : Nat), w.heap.size ≤ m2 → ∀ (m3 : Nat), w.heap.size ≤ m3 → ∀ (m4 : Nat), w.heap.size ≤
    m4 → ∀ (w1 : World), RowKit.Below w.heap.size w w1 → Kept [m4, m3, m2, m1] w w1 → Calls Try.prog 86 #[Value.agg #[Value.slice p0w0a p0w0n p0w0c, Value.slice p0w1a p0w1n p0w1c],
    Value.int IntKind.i64 x0] w1 fun (e1 : Ending) (w2 : World) => ∃ (v1 : Value), e1 = Ending.returned v1 ∧ KeepX true w.heap.size [m4, m3, m2, m1] (fun _ => False) w1 w2 ∧ ∃ (y1
    : List Value), v1 = Value.func (Fn.func 95) #[] y1.toArray ∧ ∃ (m6 : Nat), ∃ (F1 : Nat → List Value → World → Prop), ∃ (F3 : (Nat → Prop) → List Lf → Nat → World → Prop), ∃ (F4
    : World → Prop), IterY Try.prog 95 [] y1 m6 F1 F4 ∧ (∀ (w6 : World), RowKit.Below w.heap.size w w6 → Kept [m4, m3, m2, m1] w2 w6 → w6.heap[m4]? = some (Obj.cells #[Value.bool
    false] 4) → F3 (fun _ => False) [Lf.bool false] 0 w6) ∧ ∀ (t1 : Bool) (m12 : Nat) (F5 F6 : Nat → Prop) (w7 w8 : World), F3 F5 [Lf.bool t1] m12 w7 → CalmFrom w.heap.size w7 w8 →
    (∀ (m15 : Nat), F5 m15 → F6 m15) → (∀ (m16 : Nat), F6 m16 → F5 m16 ∨ w7.heap.size ≤ m16) → (∀ (m17 : Nat), F6 m17 → w.heap.size ≤ m17 ∧ m17 < w8.heap.size) → RowKit.Below
    w.heap.size w w8 → F4 w8 ∧ (∀ (y5 : List Value), m12 < m6 → F1 m12 y5 w8 → ∃ (x1 : Int), ∃ (v2 : Value), y5 = [Value.int IntKind.i64 x1, v2] ∧ ∀ (m18 : Nat) (w9 w10 : World),
    RowKit.Below w.heap.size w w10 → Kept [m4, m3, m2, m1] w8 w10 → ∀ (w11 : World), CalmFrom w.heap.size w10 w11 → ∀ (w12 w13 : World), RowKit.Below w.heap.size w w13 → Kept [m4,
    m3, m2, m1] w11 w13 → RunsTo Try.prog (Instr.lookup 138 (Value.map (some clock)) (Value.int IntKind.i64 x1) true) w13 fun (v3 : Value) (w14 : World) => ∃ (x2 : Int), ∃ (a1 :
    Option Addr), ∃ (m19 : Nat), ∃ (m20 : Nat), ∃ (t2 : Bool), v3 = Value.tuple #[Value.agg #[Value.int IntKind.i64 x2, Value.slice a1 m19 m20], Value.bool t2] ∧ KeepX true
    w.heap.size [m4, m3, m2, m1] F6 w13 w14 ∧ ∀ (m21 : Nat), w14.heap.size ≤ m21 → (t2 = true → ∃ (m22 : Nat), ∃ (y6 : List Value), ∃ (y7 : List Value), v2 = Value.func (Fn.func
    m22) y6.toArray y7.toArray ∧ Callable Try.prog m22 ∧ ∀ (w15 : World), RowKit.Below w.heap.size w w15 → Kept [m21, m4, m3, m2, m1] w14 w15 → Calls Try.prog m22 (y6 ++ [Value.agg
    #[Value.int IntKind.i64 x0, Value.slice x1a x1n x1c], Value.agg #[Value.int IntKind.i64 x2, Value.slice a1 m19 m20]] ++ y7).toArray w15 fun (e2 : Ending) (w16 : World) => ∃ (t3
    : Bool), e2 = Ending.returned (Value.bool t3) ∧ KeepX true w.heap.size [m21, m4, m3, m2, m1] F6 w15 w16 ∧ ((!t3) = true → ∀ (w17 : World), RowKit.Below w.heap.size w w17 → Kept
    [m21, m4, m3, m2, m1] w16 w17 → ∀ (F7 : Nat → Prop) (w18 : World), CalmFrom w.heap.size w17 w18 → (∀ (m24 : Nat), F6 m24 → F7 m24) → ∀ (w19 : World), RowKit.Below w.heap.size w
    w19 → Kept [m21, m4, m3, m2, m1] w18 w19 → ∀ (w20 : World), CalmFrom w.heap.size w19 w20 → R (Ending.returned (Value.bool false)) w20) ∧ ((!t3) = false → ∀ (w21 : World),
    RowKit.Below w.heap.size w w21 → Kept [m21, m4, m3, m2, m1] w16 w21 → F3 F6 [Lf.bool t1] (m12 + 1) w21)) ∧ (t2 = false → ∀ (w22 : World), RowKit.Below w.heap.size w w22 → Kept
    [m21, m4, m3, m2, m1] w14 w22 → F3 F6 [Lf.bool t1] (m12 + 1) w22)) ∧ (m12 = m6 → ∀ (w23 : World), RowKit.Below w.heap.size w w23 → Kept [m4, m3, m2, m1] w8 w23 → ∀ (w24 :
    World), CalmFrom w.heap.size w23 w24 → R (Ending.returned (Value.bool true)) w24)) : Calls Try.prog 68 #[Value.agg #[Value.slice p0w0a p0w0n p0w0c, Value.slice p0w1a p0w1n
    p0w1c], Value.agg #[Value.int IntKind.i64 x0, Value.slice x1a x1n x1c], Value.map (some clock)] w R := calls_of_vcj (pure := true) (wrapAt := []) (muts := [6]) (esc := [])
    (joins := [(6000095, []), (7000028, [])]) (args := [SV.pv (PV.agg [Lf.sl p0w0a p0w0n p0w0c, Lf.sl p0w1a p0w1n p0w1c]), SV.pv (PV.agg [Lf.int IntKind.i64 x0, Lf.sl x1a x1n
    x1c]), SV.pv (PV.one (Lf.map clock))]) (vs := [Value.agg #[Value.slice p0w0a p0w0n p0w0c, Value.slice p0w1a p0w1n p0w1c], Value.agg #[Value.int IntKind.i64 x0, Value.slice x1a
    x1n x1c], Value.map (some clock)]) Try.func68 rfl rfl rfl (Eq.mp (by kernel_rfl) h) 
set_option maxRecDepth 100000 in
set_option maxHeartbeats 2000000 in
theorem vc86 (p0w0a : Option Addr) (p0w0n : Nat) (p0w0c : Nat) (p0w1a : Option Addr) (p0w1n : Nat) (p0w1c : Nat) (pattern : Int) (w : World) (R : Ending → World → Prop) (h : ∀ (m1
    : Nat), w.heap.size ≤ m1 → ∀ (m2 : Nat), w.heap.size ≤ m2 → ∀ (w1 : World), RowKit.Below w.heap.size w w1 → Kept [m2, m1] w w1 → w1.heap[m1]? = some (Obj.cells #[Value.slice
    p0w0a p0w0n p0w0c, Value.slice p0w1a p0w1n p0w1c] 108) → w1.heap[m2]? = some (Obj.cells #[Value.int IntKind.i64 pattern] 3) → R (Ending.returned (Value.func (Fn.func 95) #[]
    #[Value.pointer (some { block := m1, off := 0 }), Value.pointer (some { block := m2, off := 0 })])) w1) : Calls Try.prog 86 #[Value.agg #[Value.slice p0w0a p0w0n p0w0c,
    Value.slice p0w1a p0w1n p0w1c], Value.int IntKind.i64 pattern] w R := calls_of_vc (pure := true) (wrapAt := []) (muts := []) (esc := []) (args := [SV.pv (PV.agg [Lf.sl p0w0a
    p0w0n p0w0c, Lf.sl p0w1a p0w1n p0w1c]), SV.pv (PV.one (Lf.int IntKind.i64 pattern))]) (vs := [Value.agg #[Value.slice p0w0a p0w0n p0w0c, Value.slice p0w1a p0w1n p0w1c],
    Value.int IntKind.i64 pattern]) Try.func86 rfl rfl rfl (Eq.mp (by kernel_rfl) h) 
set_option maxRecDepth 100000 in
set_option maxHeartbeats 2000000 in
theorem vc95 (yield : Value) (cap0b : Nat) (cap1b : Nat) (w : World) (R : Ending → World → Prop) (h : ∃ (a1 : Option Addr), ∃ (m1 : Nat), ∃ (m2 : Nat), w.cell?
    { block := cap0b, off := 0 + 0 + 1 } = some (Value.slice a1 m1 m2) ∧ ∃ (F1 : List Lf → World → Prop), ∃ (F2 : List Lf → Nat), (∀ (w2 : World), Kept [] w w2 → F1 [Lf.int
    IntKind.i64 0] w2) ∧ ∀ (x1 : Int) (w3 : World), F1 [Lf.int IntKind.i64 x1] w3 → (x1 < (↑m1 : Int) → ∃ (m3 : Nat), ∃ (m4 : Nat), a1 = some { block := m3, off := m4 } ∧ (0 ≤ x1 ∧
    x1 < (↑m1 : Int)) ∧ ∃ (x2 : Int), ∃ (x3 : Int), ∃ (x4 : Int), ∃ (x5 : Int), ∃ (x6 : Int), ∃ (x7 : Int), w3.cell? { block := m3, off := m4 + x1.toNat * 6 } = some (Value.int
    IntKind.i64 x2) ∧ w3.cell? { block := m3, off := m4 + x1.toNat * 6 + 1 } = some (Value.int IntKind.i64 x3) ∧ w3.cell? { block := m3, off := m4 + x1.toNat * 6 + 1 + 1 } = some
    (Value.int IntKind.i64 x4) ∧ w3.cell? { block := m3, off := m4 + x1.toNat * 6 + 1 + 1 + 1 } = some (Value.int IntKind.i64 x5) ∧ w3.cell?
    { block := m3, off := m4 + x1.toNat * 6 + 1 + 1 + 1 + 1 } = some (Value.int IntKind.i64 x6) ∧ w3.cell? { block := m3, off := m4 + x1.toNat * 6 + 1 + 1 + 1 + 1 + 1 } = some
    (Value.int IntKind.i64 x7) ∧ ∀ (w4 : World), Kept [] w3 w4 → ∀ (m5 : Nat) (w5 : World), m5 = w4.heap.size → w5 = w4.alloc (Obj.cells #[Value.int IntKind.i64 0, Value.int
    IntKind.i64 0, Value.int IntKind.i64 0, Value.int IntKind.i64 0, Value.int IntKind.i64 0, Value.int IntKind.i64 0] 67) → ∀ (w6 : World), Kept [] w5 w6 → RunsTo Try.prog
    ((Instr.storeAt 67 (Value.pointer (some { block := m5, off := 0 })) (Value.agg #[Value.int IntKind.i64 x2, Value.int IntKind.i64 x3, Value.int IntKind.i64 x4, Value.int
    IntKind.i64 x5, Value.int IntKind.i64 x6, Value.int IntKind.i64 x7])) >>= fun _ => pure (Value.tuple #[])) w6 fun (v1 : Value) (w7 : World) => KeepX false w.heap.size [] (fun _
    => False) w6 w7 ∧ ∃ (x8 : Int), w7.cell? { block := cap1b, off := 0 } = some (Value.int IntKind.i64 x8) ∧ ∃ (x9 : Int), w7.cell? { block := m5, off := 0 + 0 } = some (Value.int
    IntKind.i64 x9) ∧ (x8 = x9 → ∃ (x10 : Int), w7.cell? { block := m5, off := 0 + 2 } = some (Value.int IntKind.i64 x10) ∧ ∀ (w8 : World), Kept [] w7 w8 → ∃ (m7 : Nat), yield =
    Value.func (Fn.yield m7) #[] #[] ∧ YieldAt { fn := fun (m8 : Nat) => True, alive := false } 0 Try.prog m7 #[Value.int IntKind.i64 x10, Value.func (Fn.func 96) #[]
    #[Value.pointer (some { block := m5, off := 0 })]] w8 fun (e1 : Ending) (w9 : World) => ∃ (t1 : Bool), e1 = Ending.returned (Value.bool t1) ∧ KeepX false w.heap.size [] (fun _
    => False) w8 w9 ∧ ((!t1) = true → ∀ (w10 : World), Kept [] w9 w10 → R (Ending.returned (Value.tuple #[])) w10) ∧ ((!t1) = false → (-9223372036854775808 ≤ x1 + 1 ∧ x1 + (1 :
    Int) ≤ 9223372036854775807) ∧ ∀ (w11 : World), Kept [] w9 w11 → F1 [Lf.int IntKind.i64 (x1 + 1)] w11 ∧ F2 [Lf.int IntKind.i64 (x1 + 1)] < F2 [Lf.int IntKind.i64 x1])) ∧ (x8 ≠
    x9 → ∃ (x11 : Int), w7.cell? { block := m5, off := 0 + 2 } = some (Value.int IntKind.i64 x11) ∧ (x8 = x11 → ∃ (x12 : Int), w7.cell? { block := m5, off := 0 + 0 } = some
    (Value.int IntKind.i64 x12) ∧ ∀ (w12 : World), Kept [] w7 w12 → ∃ (m10 : Nat), yield = Value.func (Fn.yield m10) #[] #[] ∧ YieldAt
    { fn := fun (m11 : Nat) => True, alive := false } 0 Try.prog m10 #[Value.int IntKind.i64 x12, Value.func (Fn.func 97) #[] #[Value.pointer (some { block := m5, off := 0 })]] w12
    fun (e2 : Ending) (w13 : World) => ∃ (t2 : Bool), e2 = Ending.returned (Value.bool t2) ∧ KeepX false w.heap.size [] (fun _ => False) w12 w13 ∧ ((!t2) = true → ∀ (w14 : World),
    Kept [] w13 w14 → R (Ending.returned (Value.tuple #[])) w14) ∧ ((!t2) = false → (-9223372036854775808 ≤ x1 + 1 ∧ x1 + (1 : Int) ≤ 9223372036854775807) ∧ ∀ (w15 : World), Kept
    [] w13 w15 → F1 [Lf.int IntKind.i64 (x1 + 1)] w15 ∧ F2 [Lf.int IntKind.i64 (x1 + 1)] < F2 [Lf.int IntKind.i64 x1])) ∧ (x8 ≠ x11 → (-9223372036854775808 ≤ x1 + 1 ∧ x1 + (1 :
    Int) ≤ 9223372036854775807) ∧ ∀ (w16 : World), Kept [] w7 w16 → F1 [Lf.int IntKind.i64 (x1 + 1)] w16 ∧ F2 [Lf.int IntKind.i64 (x1 + 1)] < F2 [Lf.int IntKind.i64 x1]))) ∧ ((↑m1
    : Int) ≤ x1 → ∀ (w17 : World), Kept [] w3 w17 → R (Ending.returned (Value.tuple #[])) w17)) : Calls Try.prog 95 #[yield, Value.pointer (some { block := cap0b, off := 0 }),
    Value.pointer (some { block := cap1b, off := 0 })] w R := calls_of_vc (pure := false) (wrapAt := []) (muts := []) (esc := [5]) (args := [SV.pv (PV.one (Lf.val yield)), SV.pv
    (PV.one (Lf.ptr cap0b 0)), SV.pv (PV.one (Lf.ptr cap1b 0))]) (vs := [yield, Value.pointer (some { block := cap0b, off := 0 }), Value.pointer (some
    { block := cap1b, off := 0 })]) Try.func95 rfl rfl rfl (Eq.mp (by kernel_rfl) h) 
set_option maxRecDepth 100000 in
set_option maxHeartbeats 2000000 in
theorem vc96 (x0 : Int) (x1a : Option Addr) (x1n : Nat) (x1c : Nat) (mate0 : Int) (mate1a : Option Addr) (mate1n : Nat) (mate1c : Nat) (cap0b : Nat) (w : World) (R : Ending → World
    → Prop) (h : ∀ (m1 : Nat), w.heap.size ≤ m1 → ∀ (m2 : Nat), w.heap.size ≤ m2 → ∃ (x1 : Int), ∃ (x2 : Int), ∃ (x3 : Int), ∃ (x4 : Int), ∃ (x5 : Int), ∃ (x6 : Int), w.cell?
    { block := cap0b, off := 0 } = some (Value.int IntKind.i64 x1) ∧ w.cell? { block := cap0b, off := 0 + 1 } = some (Value.int IntKind.i64 x2) ∧ w.cell?
    { block := cap0b, off := 0 + 1 + 1 } = some (Value.int IntKind.i64 x3) ∧ w.cell? { block := cap0b, off := 0 + 1 + 1 + 1 } = some (Value.int IntKind.i64 x4) ∧ w.cell?
    { block := cap0b, off := 0 + 1 + 1 + 1 + 1 } = some (Value.int IntKind.i64 x5) ∧ w.cell? { block := cap0b, off := 0 + 1 + 1 + 1 + 1 + 1 } = some (Value.int IntKind.i64 x6) ∧
    (cap0b < w.heap.size ∨ cap0b ≠ m2 ∧ cap0b ≠ m1) ∧ ∃ (x7 : Int), w.cell? { block := cap0b, off := 0 + 1 } = some (Value.int IntKind.i64 x7) ∧ (cap0b < w.heap.size ∨ cap0b ≠ m2 ∧
    cap0b ≠ m1) ∧ ∃ (m3 : Nat), ∃ (m4 : Nat), x1a = some { block := m3, off := m4 } ∧ (0 ≤ x7 ∧ x7 < (↑x1n : Int)) ∧ ∃ (x8 : Int), w.cell? { block := m3, off := m4 + x7.toNat * 1 }
    = some (Value.int IntKind.i64 x8) ∧ (m3 < w.heap.size ∨ m3 ≠ m2 ∧ m3 ≠ m1) ∧ ∃ (x9 : Int), w.cell? { block := cap0b, off := 0 + 3 } = some (Value.int IntKind.i64 x9) ∧ (cap0b <
    w.heap.size ∨ cap0b ≠ m2 ∧ cap0b ≠ m1) ∧ ∃ (m5 : Nat), ∃ (m6 : Nat), mate1a = some { block := m5, off := m6 } ∧ (0 ≤ x9 ∧ x9 < (↑mate1n : Int)) ∧ ∃ (x10 : Int), w.cell?
    { block := m5, off := m6 + x9.toNat * 1 } = some (Value.int IntKind.i64 x10) ∧ (m5 < w.heap.size ∨ m5 ≠ m2 ∧ m5 ≠ m1) ∧ ∀ (w1 : World), RowKit.Below w.heap.size w w1 → KeptIn
    [(0, w.heap.size)] [m2, m1] w w1 → Calls Try.prog 83 #[Value.agg #[Value.int IntKind.i64 x1, Value.int IntKind.i64 x2, Value.int IntKind.i64 x3, Value.int IntKind.i64 x4,
    Value.int IntKind.i64 x5, Value.int IntKind.i64 x6], Value.int IntKind.i64 x8, Value.int IntKind.i64 x10] w1 fun (e1 : Ending) (w2 : World) => ∃ (t1 : Bool), e1 =
    Ending.returned (Value.bool t1) ∧ KeepX true w.heap.size [m2, m1] (fun _ => False) w1 w2 ∧ ∀ (w3 : World), RowKit.Below w.heap.size w w3 → Kept [m2, m1] w2 w3 → R
    (Ending.returned (Value.bool t1)) w3) : Calls Try.prog 96 #[Value.agg #[Value.int IntKind.i64 x0, Value.slice x1a x1n x1c], Value.agg #[Value.int IntKind.i64 mate0, Value.slice
    mate1a mate1n mate1c], Value.pointer (some { block := cap0b, off := 0 })] w R := calls_of_vc (pure := true) (wrapAt := []) (muts := []) (esc := []) (args := [SV.pv (PV.agg
    [Lf.int IntKind.i64 x0, Lf.sl x1a x1n x1c]), SV.pv (PV.agg [Lf.int IntKind.i64 mate0, Lf.sl mate1a mate1n mate1c]), SV.pv (PV.one (Lf.ptr cap0b 0))]) (vs := [Value.agg
    #[Value.int IntKind.i64 x0, Value.slice x1a x1n x1c], Value.agg #[Value.int IntKind.i64 mate0, Value.slice mate1a mate1n mate1c], Value.pointer (some
    { block := cap0b, off := 0 })]) Try.func96 rfl rfl rfl (Eq.mp (by kernel_rfl) h) 
set_option maxRecDepth 100000 in
set_option maxHeartbeats 2000000 in
theorem vc97 (x0 : Int) (x1a : Option Addr) (x1n : Nat) (x1c : Nat) (mate0 : Int) (mate1a : Option Addr) (mate1n : Nat) (mate1c : Nat) (cap0b : Nat) (w : World) (R : Ending → World
    → Prop) (h : ∀ (m1 : Nat), w.heap.size ≤ m1 → ∀ (m2 : Nat), w.heap.size ≤ m2 → ∃ (x1 : Int), ∃ (x2 : Int), ∃ (x3 : Int), ∃ (x4 : Int), ∃ (x5 : Int), ∃ (x6 : Int), w.cell?
    { block := cap0b, off := 0 } = some (Value.int IntKind.i64 x1) ∧ w.cell? { block := cap0b, off := 0 + 1 } = some (Value.int IntKind.i64 x2) ∧ w.cell?
    { block := cap0b, off := 0 + 1 + 1 } = some (Value.int IntKind.i64 x3) ∧ w.cell? { block := cap0b, off := 0 + 1 + 1 + 1 } = some (Value.int IntKind.i64 x4) ∧ w.cell?
    { block := cap0b, off := 0 + 1 + 1 + 1 + 1 } = some (Value.int IntKind.i64 x5) ∧ w.cell? { block := cap0b, off := 0 + 1 + 1 + 1 + 1 + 1 } = some (Value.int IntKind.i64 x6) ∧
    (cap0b < w.heap.size ∨ cap0b ≠ m2 ∧ cap0b ≠ m1) ∧ ∃ (x7 : Int), w.cell? { block := cap0b, off := 0 + 1 } = some (Value.int IntKind.i64 x7) ∧ (cap0b < w.heap.size ∨ cap0b ≠ m2 ∧
    cap0b ≠ m1) ∧ ∃ (m3 : Nat), ∃ (m4 : Nat), mate1a = some { block := m3, off := m4 } ∧ (0 ≤ x7 ∧ x7 < (↑mate1n : Int)) ∧ ∃ (x8 : Int), w.cell?
    { block := m3, off := m4 + x7.toNat * 1 } = some (Value.int IntKind.i64 x8) ∧ (m3 < w.heap.size ∨ m3 ≠ m2 ∧ m3 ≠ m1) ∧ ∃ (x9 : Int), w.cell? { block := cap0b, off := 0 + 3 } =
    some (Value.int IntKind.i64 x9) ∧ (cap0b < w.heap.size ∨ cap0b ≠ m2 ∧ cap0b ≠ m1) ∧ ∃ (m5 : Nat), ∃ (m6 : Nat), x1a = some { block := m5, off := m6 } ∧ (0 ≤ x9 ∧ x9 < (↑x1n :
    Int)) ∧ ∃ (x10 : Int), w.cell? { block := m5, off := m6 + x9.toNat * 1 } = some (Value.int IntKind.i64 x10) ∧ (m5 < w.heap.size ∨ m5 ≠ m2 ∧ m5 ≠ m1) ∧ ∀ (w1 : World),
    RowKit.Below w.heap.size w w1 → KeptIn [(0, w.heap.size)] [m2, m1] w w1 → Calls Try.prog 83 #[Value.agg #[Value.int IntKind.i64 x1, Value.int IntKind.i64 x2, Value.int
    IntKind.i64 x3, Value.int IntKind.i64 x4, Value.int IntKind.i64 x5, Value.int IntKind.i64 x6], Value.int IntKind.i64 x8, Value.int IntKind.i64 x10] w1 fun (e1 : Ending) (w2 :
    World) => ∃ (t1 : Bool), e1 = Ending.returned (Value.bool t1) ∧ KeepX true w.heap.size [m2, m1] (fun _ => False) w1 w2 ∧ ∀ (w3 : World), RowKit.Below w.heap.size w w3 → Kept
    [m2, m1] w2 w3 → R (Ending.returned (Value.bool t1)) w3) : Calls Try.prog 97 #[Value.agg #[Value.int IntKind.i64 x0, Value.slice x1a x1n x1c], Value.agg #[Value.int IntKind.i64
    mate0, Value.slice mate1a mate1n mate1c], Value.pointer (some { block := cap0b, off := 0 })] w R := calls_of_vc (pure := true) (wrapAt := []) (muts := []) (esc := []) (args :=
    [SV.pv (PV.agg [Lf.int IntKind.i64 x0, Lf.sl x1a x1n x1c]), SV.pv (PV.agg [Lf.int IntKind.i64 mate0, Lf.sl mate1a mate1n mate1c]), SV.pv (PV.one (Lf.ptr cap0b 0))]) (vs :=
    [Value.agg #[Value.int IntKind.i64 x0, Value.slice x1a x1n x1c], Value.agg #[Value.int IntKind.i64 mate0, Value.slice mate1a mate1n mate1c], Value.pointer (some
    { block := cap0b, off := 0 })]) Try.func97 rfl rfl rfl (Eq.mp (by kernel_rfl) h) 
set_option maxRecDepth 100000 in
set_option maxHeartbeats 2000000 in
theorem vc36 (p0w0a : Option Addr) (p0w0n : Nat) (p0w0c : Nat) (p0w1a : Option Addr) (p0w1n : Nat) (p0w1c : Nat) (clocka : Option Addr) (clockn : Nat) (clockc : Nat) (pattern :
    Int) (storea : Option Addr) (storen : Nat) (storec : Nat) (w : World) (R : Ending → World → Prop) (h : ∀ (m1 : Nat), w.heap.size ≤ m1 → ∀ (m2 : Nat), w.heap.size ≤ m2 → ∀ (w1 :
    World), RowKit.Below w.heap.size w w1 → Kept [m2, m1] w w1 → Calls Try.prog 16 #[Value.agg #[Value.slice p0w0a p0w0n p0w0c, Value.slice p0w1a p0w1n p0w1c]] w1 fun (e1 : Ending)
    (w2 : World) => ∃ (x1 : Int), e1 = Ending.returned (Value.int IntKind.i64 x1) ∧ KeepX true w.heap.size [m2, m1] (fun _ => False) w1 w2 ∧ (x1 ≠ 0 → ∀ (w3 : World), RowKit.Below
    w.heap.size w w3 → Kept [m2, m1] w2 w3 → R (Ending.returned (Value.tuple #[Value.slice none 0 0, Value.int IntKind.i64 2])) w3) ∧ (x1 = 0 → (-9223372036854775808 ≤ (↑p0w0n :
    Int) - 1 ∧ (↑p0w0n : Int) - (1 : Int) ≤ 9223372036854775807) ∧ ∀ (m4 : Nat), w2.heap.size ≤ m4 → ∀ (w4 : World), RowKit.Below w.heap.size w w4 → Kept [m4, m2, m1] w2 w4 →
    w4.heap[m4]? = some (Obj.cells #[Value.int IntKind.i64 pattern] 3) → Calls Try.prog 50 #[Value.int IntKind.i64 0, Value.int IntKind.i64 ((↑p0w0n : Int) - 1), Value.slice (some
    { block := m4, off := 0 }) 1 1] w4 fun (e2 : Ending) (w5 : World) => ∃ (t1 : Bool), e2 = Ending.returned (Value.bool t1) ∧ KeepX true w.heap.size [m4, m2, m1] (fun _ => False)
    w4 w5 ∧ ((!t1) = true → ∀ (w6 : World), RowKit.Below w.heap.size w w6 → Kept [m4, m2, m1] w5 w6 → R (Ending.returned (Value.tuple #[Value.slice none 0 0, Value.int IntKind.i64
    7])) w6) ∧ ((!t1) = false → (20 < (↑clockn : Int) → (20 < (↑clockn : Int) → ∀ (w7 : World), RowKit.Below w.heap.size w w7 → Kept [m4, m2, m1] w5 w7 → R (Ending.returned
    (Value.tuple #[Value.slice none 0 0, Value.int IntKind.i64 5])) w7) ∧ ((↑clockn : Int) ≤ 20 → ∀ (w8 : World), RowKit.Below w.heap.size w w8 → Kept [m4, m2, m1] w5 w8 → RunsTo
    Try.prog (Instr.makeMap 138 none) w8 fun (v1 : Value) (w9 : World) => ∃ (m7 : Nat), v1 = Value.map (some m7) ∧ KeepX true w.heap.size [m4, m2, m1] (fun _ => False) w8 w9 ∧ ∃
    (F1 : List Lf → World → Prop), ∃ (F2 : List Lf → Nat), (∀ (w11 : World), RowKit.Below w.heap.size w w11 → Kept [m4, m2, m1] w9 w11 → F1 [Lf.sl none 0 0, Lf.int IntKind.i64 0,
    Lf.int IntKind.i64 0] w11) ∧ ∀ (a1 : Option Addr) (m9 m10 : Nat) (x2 x3 : Int) (w12 : World), RowKit.Below w.heap.size w w12 → F1 [Lf.sl a1 m9 m10, Lf.int IntKind.i64 x2,
    Lf.int IntKind.i64 x3] w12 → (x3 < (↑clockn : Int) → ∃ (m11 : Nat), ∃ (m12 : Nat), clocka = some { block := m11, off := m12 } ∧ (0 ≤ x3 ∧ x3 < (↑clockn : Int)) ∧ ∃ (x4 : Int),
    ∃ (a2 : Option Addr), ∃ (m13 : Nat), ∃ (m14 : Nat), w12.cell? { block := m11, off := m12 + x3.toNat * 2 } = some (Value.int IntKind.i64 x4) ∧ w12.cell?
    { block := m11, off := m12 + x3.toNat * 2 + 1 } = some (Value.slice a2 m13 m14) ∧ (m11 < w.heap.size ∨ m11 ≠ m4 ∧ m11 ≠ m2 ∧ m11 ≠ m1) ∧ ∀ (m15 : Nat), w12.heap.size ≤ m15 → ∀
    (w13 : World), RowKit.Below w.heap.size w w13 → Kept [m4, m15, m2, m1] w12 w13 → Calls Try.prog 58 #[Value.agg #[Value.slice p0w0a p0w0n p0w0c, Value.slice p0w1a p0w1n p0w1c],
    Value.agg #[Value.int IntKind.i64 x4, Value.slice a2 m13 m14]] w13 fun (e3 : Ending) (w14 : World) => ∃ (x5 : Int), e3 = Ending.returned (Value.int IntKind.i64 x5) ∧ KeepX true
    w.heap.size [m4, m15, m2, m1] (fun _ => False) w13 w14 ∧ (x5 ≠ 0 → ∀ (w15 : World), RowKit.Below w.heap.size w w15 → Kept [m4, m15, m2, m1] w14 w15 → R (Ending.returned
    (Value.tuple #[Value.slice none 0 0, Value.int IntKind.i64 x5])) w15) ∧ (x5 = 0 → ∀ (w16 : World), RowKit.Below w.heap.size w w16 → Kept [m4, m15, m2, m1] w14 w16 → RunsTo
    Try.prog (Instr.lookup 138 (Value.map (some m7)) (Value.int IntKind.i64 x4) true) w16 fun (v2 : Value) (w17 : World) => ∃ (x6 : Int), ∃ (a3 : Option Addr), ∃ (m17 : Nat), ∃
    (m18 : Nat), ∃ (t2 : Bool), v2 = Value.tuple #[Value.agg #[Value.int IntKind.i64 x6, Value.slice a3 m17 m18], Value.bool t2] ∧ KeepX true w.heap.size [m4, m15, m2, m1] (fun _
    => False) w16 w17 ∧ ∀ (m20 : Nat), w17.heap.size ≤ m20 → (t2 = true → ∀ (w18 : World), RowKit.Below w.heap.size w w18 → Kept [m4, m20, m15, m2, m1] w17 w18 → R (Ending.returned
    (Value.tuple #[Value.slice none 0 0, Value.int IntKind.i64 6])) w18) ∧ (t2 = false → ∀ (w19 : World), RowKit.Below w.heap.size w w19 → Kept [m4, m20, m15, m2, m1] w17 w19 →
    RunsTo Try.prog ((Instr.mapUpdate 138 (Value.map (some m7)) (Value.int IntKind.i64 x4) (Value.agg #[Value.int IntKind.i64 x4, Value.slice a2 m13 m14])) >>= fun _ => pure
    (Value.tuple #[])) w19 fun (v3 : Value) (w20 : World) => KeepX true w.heap.size [m4, m20, m15, m2, m1] (fun _ => False) w19 w20 ∧ (-9223372036854775808 ≤ x3 + 1 ∧ x3 + (1 :
    Int) ≤ 9223372036854775807) ∧ ∀ (w21 : World), RowKit.Below w.heap.size w w21 → Kept [m4, m20, m15, m2, m1] w20 w21 → F1 [Lf.sl a1 m9 m10, Lf.int IntKind.i64 x2, Lf.int
    IntKind.i64 (x3 + 1)] w21 ∧ F2 [Lf.sl a1 m9 m10, Lf.int IntKind.i64 x2, Lf.int IntKind.i64 (x3 + 1)] < F2 [Lf.sl a1 m9 m10, Lf.int IntKind.i64 x2, Lf.int IntKind.i64 x3]))) ∧
    ((↑clockn : Int) ≤ x3 → ∃ (F3 : List Lf → World → Prop), ∃ (F4 : List Lf → Nat), (∀ (w23 : World), RowKit.Below w.heap.size w w23 → Kept [m4, m2, m1] w12 w23 → F3 [Lf.sl a1 m9
    m10, Lf.int IntKind.i64 x2, Lf.int IntKind.i64 0] w23) ∧ ∀ (a4 : Option Addr) (m22 m23 : Nat) (x7 x8 : Int) (w24 : World), RowKit.Below w.heap.size w w24 → F3 [Lf.sl a4 m22
    m23, Lf.int IntKind.i64 x7, Lf.int IntKind.i64 x8] w24 → (x8 < (↑storen : Int) → ∃ (m24 : Nat), ∃ (m25 : Nat), storea = some { block := m24, off := m25 } ∧ (0 ≤ x8 ∧ x8 <
    (↑storen : Int)) ∧ ∃ (x9 : Int), ∃ (a5 : Option Addr), ∃ (m26 : Nat), ∃ (m27 : Nat), w24.cell? { block := m24, off := m25 + x8.toNat * 2 } = some (Value.int IntKind.i64 x9) ∧
    w24.cell? { block := m24, off := m25 + x8.toNat * 2 + 1 } = some (Value.slice a5 m26 m27) ∧ (m24 < w.heap.size ∨ m24 ≠ m4 ∧ m24 ≠ m2 ∧ m24 ≠ m1) ∧ ∀ (m28 : Nat), w24.heap.size
    ≤ m28 → ∀ (w25 : World), RowKit.Below w.heap.size w w25 → Kept [m4, m28, m2, m1] w24 w25 → Calls Try.prog 58 #[Value.agg #[Value.slice p0w0a p0w0n p0w0c, Value.slice p0w1a
    p0w1n p0w1c], Value.agg #[Value.int IntKind.i64 x9, Value.slice a5 m26 m27]] w25 fun (e4 : Ending) (w26 : World) => ∃ (x10 : Int), e4 = Ending.returned (Value.int IntKind.i64
    x10) ∧ KeepX true w.heap.size [m4, m28, m2, m1] (fun _ => False) w25 w26 ∧ (x10 ≠ 0 → ∀ (w27 : World), RowKit.Below w.heap.size w w27 → Kept [m4, m28, m2, m1] w26 w27 → R
    (Ending.returned (Value.tuple #[Value.slice none 0 0, Value.int IntKind.i64 x10])) w27) ∧ (x10 = 0 → (x9 = pattern → ∀ (w28 : World), RowKit.Below w.heap.size w w28 → Kept [m4,
    m28, m2, m1] w26 w28 → Calls Try.prog 59 #[Value.agg #[Value.slice p0w0a p0w0n p0w0c, Value.slice p0w1a p0w1n p0w1c], Value.agg #[Value.int IntKind.i64 x9, Value.slice a5 m26
    m27]] w28 fun (e5 : Ending) (w29 : World) => ∃ (t3 : Bool), e5 = Ending.returned (Value.bool t3) ∧ KeepX true w.heap.size [m4, m28, m2, m1] (fun _ => False) w28 w29 ∧ (t3 =
    true → ∀ (w30 : World), RowKit.Below w.heap.size w w30 → Kept [m4, m28, m2, m1] w29 w30 → Calls Try.prog 68 #[Value.agg #[Value.slice p0w0a p0w0n p0w0c, Value.slice p0w1a p0w1n
    p0w1c], Value.agg #[Value.int IntKind.i64 x9, Value.slice a5 m26 m27], Value.map (some m7)] w30 fun (e6 : Ending) (w31 : World) => ∃ (t4 : Bool), e6 = Ending.returned
    (Value.bool t4) ∧ KeepX true w.heap.size [m4, m28, m2, m1] (fun _ => False) w30 w31 ∧ (t4 = true → ∀ (m32 : Nat), w31.heap.size ≤ m32 → ∀ (w32 : World), RowKit.Below
    w.heap.size w w32 → Kept [m32, m4, m28, m2, m1] w31 w32 → w32.heap[m32]? = some (Obj.cells #[Value.int IntKind.i64 x8] 3) → RunsTo Try.prog (Builtin.append_ #[38, 38] 38
    #[Value.slice a4 m22 m23, Value.slice (some { block := m32, off := 0 }) 1 1]) w32 fun (v4 : Value) (w33 : World) => ∃ (a6 : Option Addr), ∃ (m34 : Nat), ∃ (m35 : Nat), v4 =
    Value.slice a6 m34 m35 ∧ KeepX true w.heap.size [m32, m4, m28, m2, m1] (fun _ => False) w32 w33 ∧ (-9223372036854775808 ≤ x8 + 1 ∧ x8 + (1 : Int) ≤ 9223372036854775807) ∧ ∀
    (w34 : World), RowKit.Below w.heap.size w w34 → Kept [m32, m4, m28, m2, m1] w33 w34 → F3 [Lf.sl a6 m34 m35, Lf.int IntKind.i64 x7, Lf.int IntKind.i64 (x8 + 1)] w34 ∧ F4 [Lf.sl
    a6 m34 m35, Lf.int IntKind.i64 x7, Lf.int IntKind.i64 (x8 + 1)] < F4 [Lf.sl a4 m22 m23, Lf.int IntKind.i64 x7, Lf.int IntKind.i64 x8]) ∧ (t4 = false → (-9223372036854775808 ≤
    x8 + 1 ∧ x8 + (1 : Int) ≤ 9223372036854775807) ∧ ∀ (w35 : World), RowKit.Below w.heap.size w w35 → Kept [m4, m28, m2, m1] w31 w35 → F3 [Lf.sl a4 m22 m23, Lf.int IntKind.i64 x7,
    Lf.int IntKind.i64 (x8 + 1)] w35 ∧ F4 [Lf.sl a4 m22 m23, Lf.int IntKind.i64 x7, Lf.int IntKind.i64 (x8 + 1)] < F4 [Lf.sl a4 m22 m23, Lf.int IntKind.i64 x7, Lf.int IntKind.i64
    x8])) ∧ (t3 = false → (-9223372036854775808 ≤ x8 + 1 ∧ x8 + (1 : Int) ≤ 9223372036854775807) ∧ ∀ (w36 : World), RowKit.Below w.heap.size w w36 → Kept [m4, m28, m2, m1] w29 w36
    → F3 [Lf.sl a4 m22 m23, Lf.int IntKind.i64 x7, Lf.int IntKind.i64 (x8 + 1)] w36 ∧ F4 [Lf.sl a4 m22 m23, Lf.int IntKind.i64 x7, Lf.int IntKind.i64 (x8 + 1)] < F4 [Lf.sl a4 m22
    m23, Lf.int IntKind.i64 x7, Lf.int IntKind.i64 x8])) ∧ (x9 ≠ pattern → (-9223372036854775808 ≤ x8 + 1 ∧ x8 + (1 : Int) ≤ 9223372036854775807) ∧ ∀ (w37 : World), RowKit.Below
    w.heap.size w w37 → Kept [m4, m28, m2, m1] w26 w37 → F3 [Lf.sl a4 m22 m23, Lf.int IntKind.i64 x7, Lf.int IntKind.i64 (x8 + 1)] w37 ∧ F4 [Lf.sl a4 m22 m23, Lf.int IntKind.i64
    x7, Lf.int IntKind.i64 (x8 + 1)] < F4 [Lf.sl a4 m22 m23, Lf.int IntKind.i64 x7, Lf.int IntKind.i64 x8]))) ∧ ((↑storen : Int) ≤ x8 → ∀ (w38 : World), RowKit.Below w.heap.size w
    w38 → Kept [m4, m2, m1] w24 w38 → R (Ending.returned (Value.tuple #[Value.slice a4 m22 m23, Value.int IntKind.i64 0])) w38)))) ∧ ((↑clockn : Int) ≤ 20 → (200 < (↑storen : Int)
    → ∀ (w39 : World), RowKit.Below w.heap.size w w39 → Kept [m4, m2, m1] w5 w39 → R (Ending.returned (Value.tuple #[Value.slice none 0 0, Value.int IntKind.i64 5])) w39) ∧
    ((↑storen : Int) ≤ 200 → ∀ (w40 : World), RowKit.Below w.heap.size w w40 → Kept [m4, m2, m1] w5 w40 → RunsTo Try.prog (Instr.makeMap 138 none) w40 fun (v5 : Value) (w41 :
    World) => ∃ (m37 : Nat), v5 = Value.map (some m37) ∧ KeepX true w.heap.size [m4, m2, m1] (fun _ => False) w40 w41 ∧ ∃ (F5 : List Lf → World → Prop), ∃ (F6 : List Lf → Nat), (∀
    (w43 : World), RowKit.Below w.heap.size w w43 → Kept [m4, m2, m1] w41 w43 → F5 [Lf.sl none 0 0, Lf.int IntKind.i64 0, Lf.int IntKind.i64 0] w43) ∧ ∀ (a7 : Option Addr) (m39 m40
    : Nat) (x11 x12 : Int) (w44 : World), RowKit.Below w.heap.size w w44 → F5 [Lf.sl a7 m39 m40, Lf.int IntKind.i64 x11, Lf.int IntKind.i64 x12] w44 → (x12 < (↑clockn : Int) → ∃
    (m41 : Nat), ∃ (m42 : Nat), clocka = some { block := m41, off := m42 } ∧ (0 ≤ x12 ∧ x12 < (↑clockn : Int)) ∧ ∃ (x13 : Int), ∃ (a8 : Option Addr), ∃ (m43 : Nat), ∃ (m44 : Nat),
    w44.cell? { block := m41, off := m42 + x12.toNat * 2 } = some (Value.int IntKind.i64 x13) ∧ w44.cell? { block := m41, off := m42 + x12.toNat * 2 + 1 } = some (Value.slice a8
    m43 m44) ∧ (m41 < w.heap.size ∨ m41 ≠ m4 ∧ m41 ≠ m2 ∧ m41 ≠ m1) ∧ ∀ (m45 : Nat), w44.heap.size ≤ m45 → ∀ (w45 : World), RowKit.Below w.heap.size w w45 → Kept [m4, m45, m2, m1]
    w44 w45 → Calls Try.prog 58 #[Value.agg #[Value.slice p0w0a p0w0n p0w0c, Value.slice p0w1a p0w1n p0w1c], Value.agg #[Value.int IntKind.i64 x13, Value.slice a8 m43 m44]] w45 fun
    (e7 : Ending) (w46 : World) => ∃ (x14 : Int), e7 = Ending.returned (Value.int IntKind.i64 x14) ∧ KeepX true w.heap.size [m4, m45, m2, m1] (fun _ => False) w45 w46 ∧ (x14 ≠ 0 →
    ∀ (w47 : World), RowKit.Below w.heap.size w w47 → Kept [m4, m45, m2, m1] w46 w47 → R (Ending.returned (Value.tuple #[Value.slice none 0 0, Value.int IntKind.i64 x14])) w47) ∧
    (x14 = 0 → ∀ (w48 : World), RowKit.Below w.heap.size w w48 → Kept [m4, m45, m2, m1] w46 w48 → RunsTo Try.prog (Instr.lookup 138 (Value.map (some m37)) (Value.int IntKind.i64
    x13) true) w48 fun (v6 : Value) (w49 : World) => ∃ (x15 : Int), ∃ (a9 : Option Addr), ∃ (m47 : Nat), ∃ (m48 : Nat), ∃ (t5 : Bool), v6 = Value.tuple #[Value.agg #[Value.int
    IntKind.i64 x15, Value.slice a9 m47 m48], Value.bool t5] ∧ KeepX true w.heap.size [m4, m45, m2, m1] (fun _ => False) w48 w49 ∧ ∀ (m50 : Nat), w49.heap.size ≤ m50 → (t5 = true →
    ∀ (w50 : World), RowKit.Below w.heap.size w w50 → Kept [m4, m50, m45, m2, m1] w49 w50 → R (Ending.returned (Value.tuple #[Value.slice none 0 0, Value.int IntKind.i64 6])) w50)
    ∧ (t5 = false → ∀ (w51 : World), RowKit.Below w.heap.size w w51 → Kept [m4, m50, m45, m2, m1] w49 w51 → RunsTo Try.prog ((Instr.mapUpdate 138 (Value.map (some m37)) (Value.int
    IntKind.i64 x13) (Value.agg #[Value.int IntKind.i64 x13, Value.slice a8 m43 m44])) >>= fun _ => pure (Value.tuple #[])) w51 fun (v7 : Value) (w52 : World) => KeepX true
    w.heap.size [m4, m50, m45, m2, m1] (fun _ => False) w51 w52 ∧ (-9223372036854775808 ≤ x12 + 1 ∧ x12 + (1 : Int) ≤ 9223372036854775807) ∧ ∀ (w53 : World), RowKit.Below
    w.heap.size w w53 → Kept [m4, m50, m45, m2, m1] w52 w53 → F5 [Lf.sl a7 m39 m40, Lf.int IntKind.i64 x11, Lf.int IntKind.i64 (x12 + 1)] w53 ∧ F6 [Lf.sl a7 m39 m40, Lf.int
    IntKind.i64 x11, Lf.int IntKind.i64 (x12 + 1)] < F6 [Lf.sl a7 m39 m40, Lf.int IntKind.i64 x11, Lf.int IntKind.i64 x12]))) ∧ ((↑clockn : Int) ≤ x12 → ∃ (F7 : List Lf → World →
    Prop), ∃ (F8 : List Lf → Nat), (∀ (w55 : World), RowKit.Below w.heap.size w w55 → Kept [m4, m2, m1] w44 w55 → F7 [Lf.sl a7 m39 m40, Lf.int IntKind.i64 x11, Lf.int IntKind.i64
    0] w55) ∧ ∀ (a10 : Option Addr) (m52 m53 : Nat) (x16 x17 : Int) (w56 : World), RowKit.Below w.heap.size w w56 → F7 [Lf.sl a10 m52 m53, Lf.int IntKind.i64 x16, Lf.int
    IntKind.i64 x17] w56 → (x17 < (↑storen : Int) → ∃ (m54 : Nat), ∃ (m55 : Nat), storea = some { block := m54, off := m55 } ∧ (0 ≤ x17 ∧ x17 < (↑storen : Int)) ∧ ∃ (x18 : Int), ∃
    (a11 : Option Addr), ∃ (m56 : Nat), ∃ (m57 : Nat), w56.cell? { block := m54, off := m55 + x17.toNat * 2 } = some (Value.int IntKind.i64 x18) ∧ w56.cell?
    { block := m54, off := m55 + x17.toNat * 2 + 1 } = some (Value.slice a11 m56 m57) ∧ (m54 < w.heap.size ∨ m54 ≠ m4 ∧ m54 ≠ m2 ∧ m54 ≠ m1) ∧ ∀ (m58 : Nat), w56.heap.size ≤ m58 →
    ∀ (w57 : World), RowKit.Below w.heap.size w w57 → Kept [m4, m58, m2, m1] w56 w57 → Calls Try.prog 58 #[Value.agg #[Value.slice p0w0a p0w0n p0w0c, Value.slice p0w1a p0w1n
    p0w1c], Value.agg #[Value.int IntKind.i64 x18, Value.slice a11 m56 m57]] w57 fun (e8 : Ending) (w58 : World) => ∃ (x19 : Int), e8 = Ending.returned (Value.int IntKind.i64 x19)
    ∧ KeepX true w.heap.size [m4, m58, m2, m1] (fun _ => False) w57 w58 ∧ (x19 ≠ 0 → ∀ (w59 : World), RowKit.Below w.heap.size w w59 → Kept [m4, m58, m2, m1] w58 w59 → R
    (Ending.returned (Value.tuple #[Value.slice none 0 0, Value.int IntKind.i64 x19])) w59) ∧ (x19 = 0 → (x18 = pattern → ∀ (w60 : World), RowKit.Below w.heap.size w w60 → Kept
    [m4, m58, m2, m1] w58 w60 → Calls Try.prog 59 #[Value.agg #[Value.slice p0w0a p0w0n p0w0c, Value.slice p0w1a p0w1n p0w1c], Value.agg #[Value.int IntKind.i64 x18, Value.slice
    a11 m56 m57]] w60 fun (e9 : Ending) (w61 : World) => ∃ (t6 : Bool), e9 = Ending.returned (Value.bool t6) ∧ KeepX true w.heap.size [m4, m58, m2, m1] (fun _ => False) w60 w61 ∧
    (t6 = true → ∀ (w62 : World), RowKit.Below w.heap.size w w62 → Kept [m4, m58, m2, m1] w61 w62 → Calls Try.prog 68 #[Value.agg #[Value.slice p0w0a p0w0n p0w0c, Value.slice p0w1a
    p0w1n p0w1c], Value.agg #[Value.int IntKind.i64 x18, Value.slice a11 m56 m57], Value.map (some m37)] w62 fun (e10 : Ending) (w63 : World) => ∃ (t7 : Bool), e10 =
    Ending.returned (Value.bool t7) ∧ KeepX true w.heap.size [m4, m58, m2, m1] (fun _ => False) w62 w63 ∧ (t7 = true → ∀ (m62 : Nat), w63.heap.size ≤ m62 → ∀ (w64 : World),
    RowKit.Below w.heap.size w w64 → Kept [m62, m4, m58, m2, m1] w63 w64 → w64.heap[m62]? = some (Obj.cells #[Value.int IntKind.i64 x17] 3) → RunsTo Try.prog (Builtin.append_ #[38,
    38] 38 #[Value.slice a10 m52 m53, Value.slice (some { block := m62, off := 0 }) 1 1]) w64 fun (v8 : Value) (w65 : World) => ∃ (a12 : Option Addr), ∃ (m64 : Nat), ∃ (m65 : Nat),
    v8 = Value.slice a12 m64 m65 ∧ KeepX true w.heap.size [m62, m4, m58, m2, m1] (fun _ => False) w64 w65 ∧ (-9223372036854775808 ≤ x17 + 1 ∧ x17 + (1 : Int) ≤ 9223372036854775807)
    ∧ ∀ (w66 : World), RowKit.Below w.heap.size w w66 → Kept [m62, m4, m58, m2, m1] w65 w66 → F7 [Lf.sl a12 m64 m65, Lf.int IntKind.i64 x16, Lf.int IntKind.i64 (x17 + 1)] w66 ∧ F8
    [Lf.sl a12 m64 m65, Lf.int IntKind.i64 x16, Lf.int IntKind.i64 (x17 + 1)] < F8 [Lf.sl a10 m52 m53, Lf.int IntKind.i64 x16, Lf.int IntKind.i64 x17]) ∧ (t7 = false →
    (-9223372036854775808 ≤ x17 + 1 ∧ x17 + (1 : Int) ≤ 9223372036854775807) ∧ ∀ (w67 : World), RowKit.Below w.heap.size w w67 → Kept [m4, m58, m2, m1] w63 w67 → F7 [Lf.sl a10 m52
    m53, Lf.int IntKind.i64 x16, Lf.int IntKind.i64 (x17 + 1)] w67 ∧ F8 [Lf.sl a10 m52 m53, Lf.int IntKind.i64 x16, Lf.int IntKind.i64 (x17 + 1)] < F8 [Lf.sl a10 m52 m53, Lf.int
    IntKind.i64 x16, Lf.int IntKind.i64 x17])) ∧ (t6 = false → (-9223372036854775808 ≤ x17 + 1 ∧ x17 + (1 : Int) ≤ 9223372036854775807) ∧ ∀ (w68 : World), RowKit.Below w.heap.size
    w w68 → Kept [m4, m58, m2, m1] w61 w68 → F7 [Lf.sl a10 m52 m53, Lf.int IntKind.i64 x16, Lf.int IntKind.i64 (x17 + 1)] w68 ∧ F8 [Lf.sl a10 m52 m53, Lf.int IntKind.i64 x16,
    Lf.int IntKind.i64 (x17 + 1)] < F8 [Lf.sl a10 m52 m53, Lf.int IntKind.i64 x16, Lf.int IntKind.i64 x17])) ∧ (x18 ≠ pattern → (-9223372036854775808 ≤ x17 + 1 ∧ x17 + (1 : Int) ≤
    9223372036854775807) ∧ ∀ (w69 : World), RowKit.Below w.heap.size w w69 → Kept [m4, m58, m2, m1] w58 w69 → F7 [Lf.sl a10 m52 m53, Lf.int IntKind.i64 x16, Lf.int IntKind.i64 (x17
    + 1)] w69 ∧ F8 [Lf.sl a10 m52 m53, Lf.int IntKind.i64 x16, Lf.int IntKind.i64 (x17 + 1)] < F8 [Lf.sl a10 m52 m53, Lf.int IntKind.i64 x16, Lf.int IntKind.i64 x17]))) ∧ ((↑storen
    : Int) ≤ x17 → ∀ (w70 : World), RowKit.Below w.heap.size w w70 → Kept [m4, m2, m1] w56 w70 → R (Ending.returned (Value.tuple #[Value.slice a10 m52 m53, Value.int IntKind.i64
    0])) w70))))))) : Calls Try.prog 36 #[Value.agg #[Value.slice p0w0a p0w0n p0w0c, Value.slice p0w1a p0w1n p0w1c], Value.slice clocka clockn clockc, Value.int IntKind.i64
    pattern, Value.slice storea storen storec] w R := calls_of_vc (pure := true) (wrapAt := []) (muts := []) (esc := []) (args := [SV.pv (PV.agg [Lf.sl p0w0a p0w0n p0w0c, Lf.sl
    p0w1a p0w1n p0w1c]), SV.pv (PV.one (Lf.sl clocka clockn clockc)), SV.pv (PV.one (Lf.int IntKind.i64 pattern)), SV.pv (PV.one (Lf.sl storea storen storec))]) (vs := [Value.agg
    #[Value.slice p0w0a p0w0n p0w0c, Value.slice p0w1a p0w1n p0w1c], Value.slice clocka clockn clockc, Value.int IntKind.i64 pattern, Value.slice storea storen storec]) Try.func36
    rfl rfl rfl (Eq.mp (by kernel_rfl) h) 
end Go.Proofs
end
section
/- The mates of a pattern: the iterator, and its functions. -/
namespace Go.Proofs.R12
open Go.Vc Go.RowKit Go.Proofs

theorem below_kept0 {w w' : World} (h : Kept [] w w') : Below w.heap.size w w' := ⟨h.os, h.tape, h.output, h.size, fun k hk => h.block k hk (by simp)⟩
theorem calm_of_below {B : Nat} {w w' : World} (h : Below w.heap.size w w') : CalmFrom B w w' := ⟨h.os, h.tape, h.output, h.size, fun k o hk _ => (h.block k (lt_of_some hk)).trans hk⟩
theorem yield_mono {P : Program} {l : Nat} {args : Array Value} {w : World} {R S : Ending → World → Prop} (h : YieldAt Fence.wide 0 P l args w R) (hs : ∀ e w', R e w' → S e w') : YieldAt Fence.wide 0 P l args w S := by
  obtain ⟨fn, tmps, assign, body, hy, hR⟩ := h
  exact ⟨fn, tmps, assign, body, hy, hR.mono hs⟩

/-- The other pattern, the fit, and whether x is the hole. -/
def mate1 (p : Int) (f : Fit) : Option (Int × Fit × Bool) := if p = f.hole then some (f.shaft, f, true) else if p = f.shaft then some (f.hole, f, false) else none
def mateL (l : List Fit) (p : Int) : List (Int × Fit × Bool) := l.filterMap (mate1 p)
theorem mateL_step {l : List Fit} {p : Int} {x : Nat} (h : x < l.length) : mateL (l.take (x + 1)) p = mateL (l.take x) p ++ (mate1 p (l.getD x fit0)).toList := by
  unfold mateL
  rw [List.take_succ_eq_append_getElem h, List.filterMap_append]
  have : l.getD x fit0 = l[x] := by simp [List.getD_eq_getElem?_getD, h]
  rw [this]
  cases hm : mate1 p l[x] <;> simp [hm]
theorem mateL_get {l : List Fit} {p : Int} {x : Nat} (h : x < l.length) {m : Int × Fit × Bool} (hm : mate1 p (l.getD x fit0) = some m) : (mateL l p)[(mateL (l.take x) p).length]? = some m := by
  have e : mateL l p = mateL (l.take (x + 1)) p ++ mateL (l.drop (x + 1)) p := by
    unfold mateL
    rw [← List.filterMap_append, List.take_append_drop]
  rw [e, mateL_step h, hm]
  simp
def mateV (m : Int × Fit × Bool) (b : Nat) : List Value := [I m.1, .func (.func (if m.2.2 then 96 else 97)) #[] #[.pointer (some ⟨b, 0, none⟩)]]
def MateY (cb : Nat) (l : List Fit) (p : Int) (k : Nat) (x : List Value) (w : World) : Prop := ∃ m b, (mateL l p)[k]? = some m ∧ x = mateV m b ∧ cb < b ∧ w.heap[b]? = some (.cells m.2.1.cells.toArray 67 (0, 0))
structure MateInv (cb pb : Nat) (l : List Fit) (fa : Option Addr) (fc : Nat) (p : Int) (w : World) : Prop where
  c : w.cell? ⟨cb, 1, none⟩ = some (.slice fa l.length fc)
  f : Cells w fa (fitsV l)
  p : w.cell? ⟨pb, 0, none⟩ = some (I p)

set_option maxRecDepth 100000 in
theorem mates_iter {cb pb : Nat} {l : List Fit} {fa : Option Addr} {fc : Nat} {p : Int} (hl : l.length ≤ 1000) : IterY Try.prog 95 [] [.pointer (some ⟨cb, 0, none⟩), .pointer (some ⟨pb, 0, none⟩)] (mateL l p).length (MateY cb l p) (MateInv cb pb l fa fc p) := by
  intro y J Jx W hJ hJx hInv hY h0
  have mvJ : ∀ {G k w w'}, J G k w → Kept [] w w' → J G k w' := fun h hk => hJ _ _ _ _ _ h (calm_of_below (below_kept0 hk)) (fun _ h => h) fun _ h => .inl h
  have mvX : ∀ {G k w w'}, Jx G k w → Kept [] w w' → Jx G k w' := fun h hk => hJx _ _ _ _ _ h (calm_of_below (below_kept0 hk)) (fun _ h => h) fun _ h => .inl h
  have kx : ∀ {G : Nat → Prop} {w w' : World}, RoundKeeps G w w' → KeepX false W.heap.size [] (fun _ => False) w w' := fun h => .own h.os h.tape h.output h.size (by simp) (by simp) (by simp)
  refine vc95 _ _ _ W _ ⟨_, _, _, cell_at' (hInv _ _ _ h0).c (by omega),
    fun ls w' => match ls with | [.int _ x] => (0 ≤ x ∧ x ≤ l.length) ∧ W.heap.size ≤ w'.heap.size ∧ ∃ G : Nat → Prop, (∀ b, G b → W.heap.size ≤ b ∧ b < w'.heap.size) ∧ J G (mateL (l.take x.toNat) p).length w' | _ => False, fun ls => match ls with | [.int _ x] => (l.length - x).toNat | _ => 0,
    fun w2 hk => ⟨⟨by omega, by omega⟩, hk.size, fun _ => False, fun b h => h.elim, mvJ h0 hk⟩, ?_⟩
  rintro x1 w3 ⟨⟨x0, xl⟩, z3, G, hG, hj⟩
  refine ⟨fun hlt => ?_, fun hge w17 hk17 => ⟨⟨_, rfl⟩, G, .inl ?_⟩⟩
  rotate_left
  · have := mvJ hj hk17
    rwa [show x1.toNat = l.length by omega, List.take_length] at this
  have hx : x1.toNat < l.length := by omega
  refine load_fit (hInv _ _ _ hj).f (.refl _ _) ⟨x0, hlt⟩ fun m3 m4 _ => ?_
  generalize hf : l.getD x1.toNat ⟨0, 0, 0, 0, (0, 0)⟩ = f
  have hst : (mateL (l.take (x1 + 1).toNat) p) = mateL (l.take x1.toNat) p ++ (mate1 p f).toList := by
    rw [show (x1 + 1).toNat = x1.toNat + 1 by omega, mateL_step hx, ← hf]
  intro w4 hk4 m5 w5 h5 hw5 w6 hk6
  have z4 := hk4.size
  have z5 : w5.heap.size = w4.heap.size + 1 := by rw [hw5]; show (w4.heap.push _).size = _; exact Array.size_push _
  have z6 := hk6.size
  have d5 : Below w4.heap.size w4 w5 := by rw [hw5]; exact (Below.refl _ _).alloc (Nat.le_refl _) _
  have c6 : w6.heap[m5]? = some (.cells [I 0, I 0, I 0, I 0, I 0, I 0].toArray 67 (0, 0)) := by
    rw [hk6.block m5 (by omega) (by simp), hw5, h5]
    show (w4.heap.push _)[w4.heap.size]? = _
    simp
  refine obj_store (P := Try.prog) (t := 67) (vs := [I f.hole, I f.hs, I f.shaft, I f.ss, I f.gap.1, I f.gap.2]) c6 (by kernel_rfl) (by kernel_rfl) (by simp) rfl (fun u hu => by simp at hu; rcases hu with rfl | rfl | rfl | rfl | rfl | rfl <;> trivial) fun w7 c7 g7 => ?_
  have z7 := g7.size
  have d7 : Below w3.heap.size w3 w7 := ((below_kept0 hk4).trans (d5.mono z4)).trans (((below_kept0 hk6).mono (by omega)).trans (below_of_chg g7 (by omega) (by simp; omega)))
  have hj7 : J (fun b => G b ∨ b = m5) (mateL (l.take x1.toNat) p).length w7 := hJ _ _ _ _ _ hj (calm_of_below d7) (fun _ h => .inl h) fun b hb => by
    rcases hb with hb | rfl
    · exact .inl hb
    · exact .inr ⟨by omega, by omega⟩
  have hG7 : ∀ b, (G b ∨ b = m5) → W.heap.size ≤ b ∧ b < w7.heap.size := fun b hb => by
    rcases hb with hb | rfl
    · have := hG b hb; omega
    · omega
  have I7 := hInv _ _ _ hj7
  have c7' : ∀ {w8 : World}, Kept [] w7 w8 → w8.heap[m5]? = some (.cells f.cells.toArray 67 (0, 0)) := fun hk => by
    rw [hk.block m5 (by omega) (by simp)]; exact c7
  have c7a : ∀ {i : Nat} {v : Value}, f.cells[i]? = some v → w7.cell? ⟨m5, i, none⟩ = some v := fun h => cell_obj (vs := f.cells) c7 h
  have yld : ∀ {m : Int × Fit × Bool} {w8 : World}, mate1 p f = some m → m.2.1 = f → Kept [] w7 w8 → YieldAt Fence.wide 0 Try.prog y (mateV m m5).toArray w8 fun e w9 => ∃ t : Bool, e = .returned (.bool t) ∧ KeepX false W.heap.size [] (fun _ => False) w8 w9 ∧ w8.heap.size ≤ w9.heap.size ∧ (t = true → J (fun b => G b ∨ b = m5) ((mateL (l.take x1.toNat) p).length + 1) w9) ∧ (t = false → Jx (fun b => G b ∨ b = m5) ((mateL (l.take x1.toNat) p).length + 1) w9) := fun {m w8} hm hmf hk8 => by
    have hget := mateL_get hx (p := p) (m := m) (by rw [show l.getD x1.toNat fit0 = f from hf]; exact hm)
    refine yield_mono (hY _ _ (mateV m m5) _ (mvJ hj7 hk8) (fun b hb => by have := hG7 b hb; have := hk8.size; omega) (List.getElem?_eq_some_iff.1 hget).1 ⟨m, m5, hget, rfl, by have := cell_lt (hInv _ _ _ h0).c; omega, by rw [hmf]; exact c7' hk8⟩) fun e w9 he => ?_
    obtain ⟨t, rfl, hrk, hT, hF⟩ := he
    exact ⟨t, rfl, kx hrk, hrk.size, hT, hF⟩
  refine ⟨g7.own (by simp) (by simp) (fun h => by cases h), p, I7.p, f.hole, c7a (i := 0) rfl, fun he => ?_, fun hne => ?_⟩
  · have hm : mate1 p f = some (f.shaft, f, true) := by unfold mate1; rw [if_pos he]
    refine ⟨f.shaft, c7a (i := 2) rfl, fun w8 hk8 => ⟨y, rfl, yield_mono (yld hm rfl hk8) fun e w9 h9 => ?_⟩⟩
    obtain ⟨t, rfl, k9, s9, hT, hF⟩ := h9
    refine ⟨t, rfl, k9, fun h w10 hk10 => ⟨⟨_, rfl⟩, _, .inr ⟨_, mvX (hF (by simpa using h)) hk10⟩⟩, fun h => ⟨⟨by omega, by omega⟩, fun w11 hk11 => ⟨⟨⟨by omega, by omega⟩, by have := hk8.size; have := hk11.size; omega, _, fun b hb => by have := hG7 b hb; have := hk8.size; have := hk11.size; omega, ?_⟩, by simp only; omega⟩⟩⟩
    rw [hst, hm]
    simpa using mvJ (hT (by simpa using h)) hk11
  · refine ⟨f.shaft, c7a (i := 2) rfl, fun he => ?_, fun hne2 => ⟨⟨by omega, by omega⟩, fun w16 hk16 => ⟨⟨⟨by omega, by omega⟩, by have := hk16.size; omega, _, fun b hb => by have := hG7 b hb; have := hk16.size; omega, ?_⟩, by simp only; omega⟩⟩⟩
    · have hm : mate1 p f = some (f.hole, f, false) := by unfold mate1; rw [if_neg hne, if_pos he]
      refine ⟨f.hole, c7a (i := 0) rfl, fun w12 hk12 => ⟨y, rfl, yield_mono (yld hm rfl hk12) fun e w13 h13 => ?_⟩⟩
      obtain ⟨t, rfl, k13, s13, hT, hF⟩ := h13
      refine ⟨t, rfl, k13, fun h w14 hk14 => ⟨⟨_, rfl⟩, _, .inr ⟨_, mvX (hF (by simpa using h)) hk14⟩⟩, fun h => ⟨⟨by omega, by omega⟩, fun w15 hk15 => ⟨⟨⟨by omega, by omega⟩, by have := hk12.size; have := hk15.size; omega, _, fun b hb => by have := hG7 b hb; have := hk12.size; have := hk15.size; omega, ?_⟩, by simp only; omega⟩⟩⟩
      rw [hst, hm]
      simpa using mvJ (hT (by simpa using h)) hk15
    · have hm : mate1 p f = none := by unfold mate1; rw [if_neg hne, if_neg hne2]
      rw [hst, hm]
      simpa using mvJ hj7 hk16
end Go.Proofs.R12
end
section
/- Whether a piece goes into a clock. -/
namespace Go.Proofs.R12
open Go.Vc Go.RowKit Go.Proofs

def fitsQ (b : Bool) (f : Fit) (x q : List Int) : Prop := if b then isF f (x.getD f.hs.toNat 0) (q.getD f.ss.toNat 0) else isF f (q.getD f.hs.toNat 0) (x.getD f.ss.toNat 0)
instance (b : Bool) (f : Fit) (x q : List Int) : Decidable (fitsQ b f x q) := by unfold fitsQ; exact inferInstance
theorem sz_get {l : List Int} (h : ∀ x ∈ l, 0 ≤ x ∧ x ≤ 1000000) (i : Nat) : 0 ≤ l.getD i 0 ∧ l.getD i 0 ≤ 1000000 := by
  rw [List.getD_eq_getElem?_getD]
  cases e : l[i]? with
  | none => simp
  | some v => exact h v (List.mem_of_getElem? e)
/-- What a piece must have for a fit. -/
def inFit (b : Bool) (f : Fit) (x q : List Int) : Prop := if b then (0 ≤ f.hs ∧ f.hs < x.length) ∧ 0 ≤ f.ss ∧ f.ss < q.length else (0 ≤ f.hs ∧ f.hs < q.length) ∧ 0 ≤ f.ss ∧ f.ss < x.length

theorem load_o {w : World} {a : Option Addr} {l : List Int} {i : Int} {n : Nat} {X : Nat → Nat → Int → Prop} (h : Cells w a (ints l)) (hn : l.length = n) (hi0 : 0 ≤ i ∧ i < (n : Int)) (k : ∀ m o, m < w.heap.size → X m o (l.getD i.toNat 0)) :
    ∃ m o, a = some ⟨m, o, none⟩ ∧ (0 ≤ i ∧ i < (n : Int)) ∧ ∃ x0 : Int, w.cell? ⟨m, o + i.toNat * 1, none⟩ = some (I x0) ∧ X m o x0 := by
  subst hn
  exact load_int h (.refl _ _) hi0 k
set_option maxRecDepth 100000 in
theorem fits_any {w : World} {b : Bool} {f : Fit} {x q : List Int} {x0 q0 : Int} {xa qa : Option Addr} {xc qc cb : Nat} (hc : w.heap[cb]? = some (.cells f.cells.toArray 67 (0, 0))) (hx : Cells w xa (ints x)) (hq : Cells w qa (ints q)) (sx : ∀ s ∈ x, 0 ≤ s ∧ s ≤ 1000000) (sq : ∀ s ∈ q, 0 ≤ s ∧ s ≤ 1000000) (hi : inFit b f x q) :
    Calls Try.prog (if b then 96 else 97) #[.agg #[I x0, .slice xa x.length xc], .agg #[I q0, .slice qa q.length qc], .pointer (some ⟨cb, 0, none⟩)] w (Pure w (.bool (decide (fitsQ b f x q)))) := by
  have ca : ∀ {i : Nat} {v : Value}, f.cells[i]? = some v → w.cell? ⟨cb, i, none⟩ = some v := fun h => cell_obj (vs := f.cells) hc h
  have hlt := lt_of_some hc
  have bx := sz_get sx
  have bq := sz_get sq
  cases b with
  | true =>
    simp only [inFit, if_true] at hi
    refine vc96 _ _ _ _ _ _ _ _ _ w _ fun m1 g1 m2 g2 => ⟨_, _, _, _, _, _, cell_at' (ca (i := 0) rfl) (by omega), cell_at' (ca (i := 1) rfl) (by omega), cell_at' (ca (i := 2) rfl) (by omega), cell_at' (ca (i := 3) rfl) (by omega), cell_at' (ca (i := 4) rfl) (by omega), cell_at' (ca (i := 5) rfl) (by omega), .inl hlt, _, cell_at' (ca (i := 1) rfl) (by omega), .inl hlt, ?_⟩
    refine load_o hx rfl hi.1 fun m3 o3 h3 => ⟨.inl h3, _, cell_at' (ca (i := 3) rfl) (by omega), .inl hlt, ?_⟩
    refine load_o hq rfl hi.2 fun m5 o5 h5 => ⟨.inl h5, fun w1 hb1 hk1 => ?_⟩
    have := bx f.hs.toNat
    have := bq f.ss.toNat
    exact Pure.calls (is_any f _ _ (by omega) (by omega)) fun w2 hd => ⟨_, rfl, .all hd, fun w3 hb3 hk3 => ⟨by simp [fitsQ], hb3⟩⟩
  | false =>
    simp only [inFit, Bool.false_eq_true, if_false] at hi
    refine vc97 _ _ _ _ _ _ _ _ _ w _ fun m1 g1 m2 g2 => ⟨_, _, _, _, _, _, cell_at' (ca (i := 0) rfl) (by omega), cell_at' (ca (i := 1) rfl) (by omega), cell_at' (ca (i := 2) rfl) (by omega), cell_at' (ca (i := 3) rfl) (by omega), cell_at' (ca (i := 4) rfl) (by omega), cell_at' (ca (i := 5) rfl) (by omega), .inl hlt, _, cell_at' (ca (i := 1) rfl) (by omega), .inl hlt, ?_⟩
    refine load_o hq rfl hi.1 fun m3 o3 h3 => ⟨.inl h3, _, cell_at' (ca (i := 3) rfl) (by omega), .inl hlt, ?_⟩
    refine load_o hx rfl hi.2 fun m5 o5 h5 => ⟨.inl h5, fun w1 hb1 hk1 => ?_⟩
    have := bq f.hs.toNat
    have := bx f.ss.toNat
    exact Pure.calls (is_any f _ _ (by omega) (by omega)) fun w2 hd => ⟨_, rfl, .all hd, fun w3 hb3 hk3 => ⟨by simp [fitsQ], hb3⟩⟩

theorem mates_l {w : World} {W : Wk} {pa fa : Option Addr} {pc fc : Nat} {p : Int} : Calls Try.prog 86 #[W.v pa pc fa fc, I p] w fun e w' => Below w.heap.size w w' ∧ ∃ cb pb, e = .returned (.func (.func 95) #[] #[.pointer (some ⟨cb, 0, none⟩), .pointer (some ⟨pb, 0, none⟩)]) ∧ (w.heap.size ≤ cb ∧ w.heap.size ≤ pb) ∧ w'.heap[cb]? = some (.cells #[.slice pa W.pats.length pc, .slice fa W.fits.length fc] 108 (0, 0)) ∧ w'.heap[pb]? = some (.cells #[I p] 3 (0, 0)) :=
  vc86 _ _ _ _ _ _ _ w _ fun m1 g1 m2 g2 w1 hb1 hk1 h1 h2 => ⟨hb1, m1, m2, rfl, ⟨g1, g2⟩, h1, h2⟩

/-- A piece of a clock, as it lies there. -/
structure CP where
  p : Piece
  a : Option Addr
  c : Nat
def CP.v (q : CP) : Value := .agg #[I q.p.pat, .slice q.a q.p.sizes.length q.c]
def clockV (C : List CP) : List (Int × Value) := C.map fun q => (q.p.pat, q.v)
def lookC (C : List CP) (o : Int) : Option CP := C.find? fun q => o == q.p.pat
theorem clock_look (C : List CP) (o : Int) : (clockV C).lookup o = (lookC C o).map CP.v := by
  induction C with
  | nil => rfl
  | cons q r ih =>
    simp only [clockV, lookC, List.map_cons, List.lookup, List.find?] at ih ⊢
    cases o == q.p.pat
    · exact ih
    · rfl
def goesC (W : Wk) (x : Piece) (C : List CP) : Bool := (mateL W.fits x.pat).all fun m => match lookC C m.1 with | none => true | some q => decide (fitsQ m.2.2 m.2.1 x.sizes q.p.sizes)
theorem mate_mem {l : List Fit} {p : Int} {k : Nat} {m : Int × Fit × Bool} (h : (mateL l p)[k]? = some m) : m.2.1 ∈ l ∧ ((m.2.2 = true ∧ p = m.2.1.hole ∧ m.1 = m.2.1.shaft) ∨ (m.2.2 = false ∧ p = m.2.1.shaft ∧ m.1 = m.2.1.hole)) := by
  obtain ⟨f, hf, he⟩ := List.mem_filterMap.1 (List.mem_of_getElem? h)
  unfold mate1 at he
  split at he
  · obtain rfl := Option.some.inj he; exact ⟨hf, .inl ⟨rfl, by assumption, rfl⟩⟩
  · split at he
    · obtain rfl := Option.some.inj he; exact ⟨hf, .inr ⟨rfl, by assumption, rfl⟩⟩
    · cases he

set_option maxRecDepth 100000 in
theorem goes_any {w : World} {W : Wk} {x : Piece} {C : List CP} {pa fa xa : Option Addr} {pc fc xc tm : Nat} (hf : Cells w fa (fitsV W.fits)) (hW : OkW W) (hx : Cells w xa (ints x.sizes)) (ex : pieceErr W x = 0) (hm : MapC w tm I (clockV C)) (hC : ∀ q ∈ C, pieceErr W q.p = 0 ∧ Cells w q.a (ints q.p.sizes)) :
    Calls Try.prog 68 #[W.v pa pc fa fc, .agg #[I x.pat, .slice xa x.sizes.length xc], .map (some tm)] w (Pure w (.bool (goesC W x C))) := by
  obtain ⟨bxp, lx, sx⟩ := pieceErr_ok ex
  refine vc68 _ _ _ _ _ _ _ _ _ _ _ w _ fun m1 g1 m2 g2 m3 g3 m4 g4 w1 hb1 hk1 => mates_l.mono fun e1 w2 he => ?_
  obtain ⟨hb2, cb, pb, rfl, ⟨hcb, hpb⟩, hc2, hp2⟩ := he
  have hns : ∀ b, w1.heap.size ≤ b → b ∉ [m4, m3, m2, m1] := fun b hb hm => by
    have := hk1.own b hm
    omega
  have inv : ∀ {w' : World}, Below w.heap.size w w' → w'.heap[cb]? = some (.cells #[.slice pa W.pats.length pc, .slice fa W.fits.length fc] 108 (0, 0)) → w'.heap[pb]? = some (.cells #[I x.pat] 3 (0, 0)) → MateInv cb pb W.fits fa fc x.pat w' := fun hb h1 h2 =>
    ⟨cell_obj (vs := [.slice pa W.pats.length pc, .slice fa W.fits.length fc]) h1 rfl, hf.keep hb, cell_obj (vs := [I x.pat]) h2 rfl⟩
  let okM : Int × Fit × Bool → Bool := fun m => match lookC C m.1 with | none => true | some q => decide (fitsQ m.2.2 m.2.1 x.sizes q.p.sizes)
  refine ⟨_, rfl, .all hb2, _, rfl, (mateL W.fits x.pat).length, MateY cb W.fits x.pat, fun _ _ k w' => (∀ j m, j < k → (mateL W.fits x.pat)[j]? = some m → okM m = true) ∧ w'.heap[cb]? = some (.cells #[.slice pa W.pats.length pc, .slice fa W.fits.length fc] 108 (0, 0)) ∧ w'.heap[pb]? = some (.cells #[I x.pat] 3 (0, 0)), MateInv cb pb W.fits fa fc x.pat, mates_iter (Nat.le_trans hW.2.2.1 (by omega)), fun w6 hb6 hk6 hc6 => ?_, ?_⟩
  · exact ⟨fun j m h => by omega, (hk6.block cb (lt_of_some hc2) (hns cb hcb)).trans hc2, (hk6.block pb (lt_of_some hp2) (hns pb hpb)).trans hp2⟩
  rintro t1 k F5 F6 w7 w8 ⟨hok, hc7, hp7⟩ hcalm _ _ _ hb8
  have hc8 := hcalm.keep _ _ hc7 (.inl rfl)
  have hp8 := hcalm.keep _ _ hp7 (.inl rfl)
  refine ⟨inv hb8 hc8 hp8, fun y5 hk hY => ?_, fun hk w23 hb23 hk23 w24 hcalm24 => ?_⟩
  rotate_left
  · have hall : goesC W x C = true := by
      unfold goesC
      rw [List.all_eq_true]
      intro m hm
      obtain ⟨j, hj, he⟩ := List.getElem_of_mem hm
      exact hok j m (by omega) (by rw [List.getElem?_eq_getElem hj, he])
    rw [hall]
    exact ⟨rfl, hb23.trans (hcalm24.below hb23.size)⟩
  obtain ⟨m, b, hget, rfl, hlt, hcell⟩ := hY
  refine ⟨m.1, _, rfl, fun _ w9 w10 hb10 hk10 w11 hcalm11 w12 w13 hb13 hk13 => ?_⟩
  have mv : ∀ {b : Nat} {cs : Array Value} {T : TypeId}, w1.heap.size ≤ b → w8.heap[b]? = some (.cells cs T (0, 0)) → w13.heap[b]? = some (.cells cs T (0, 0)) := fun {b cs T} hb h => by
    have h10 := (hk10.block b (lt_of_some h) (hns b hb)).trans h
    have h11 := hcalm11.keep _ _ h10 (.inl rfl)
    exact (hk13.block b (lt_of_some h11) (hns b hb)).trans h11
  have hc13 := mv hcb hc8
  have hp13 := mv hpb hp8
  have hb13' := mv (by omega) hcell
  obtain ⟨hmf, hmm⟩ := mate_mem hget
  have okf := hW.2.2.2 _ hmf
  refine lookup_ok keyI (P := Try.prog) (mt := 138) (vt := 40) (by kernel_rfl) (hm.below hb13) m.1 (z := .agg #[I 0, .slice none 0 0]) (by kernel_rfl) ?_
  rw [clock_look]
  have stop : ∀ {w' : World}, okM m = false → Below w.heap.size w w' → Pure w (.bool (goesC W x C)) (.returned (.bool false)) w' := fun h hb => by
    have : goesC W x C = false := by
      unfold goesC
      rw [List.all_eq_false]
      exact ⟨m, List.mem_of_getElem? hget, by simpa using h⟩
    rw [this]; exact ⟨rfl, hb⟩
  have next : ∀ {w' : World}, okM m = true → (∀ (b : Nat) (o : Obj), w1.heap.size ≤ b → w13.heap[b]? = some o → w'.heap[b]? = some o) → (∀ j m, j < k + 1 → (mateL W.fits x.pat)[j]? = some m → okM m = true) ∧ w'.heap[cb]? = some (.cells #[.slice pa W.pats.length pc, .slice fa W.fits.length fc] 108 (0, 0)) ∧ w'.heap[pb]? = some (.cells #[I x.pat] 3 (0, 0)) := fun {w'} h mv2 => by
    refine ⟨fun j m' hj hm' => ?_, mv2 _ _ hcb hc13, mv2 _ _ hpb hp13⟩
    by_cases he : j = k
    · subst he; rw [hget] at hm'; obtain rfl := Option.some.inj hm'; exact h
    · exact hok j m' (by omega) hm'
  have out : ∀ {m21 : Nat}, w13.heap.size ≤ m21 → ∀ {b : Nat} {u : World} {o : Obj}, w13.heap[b]? = some o → u.heap.size = u.heap.size → w1.heap.size ≤ b → b ∉ [m21, m4, m3, m2, m1] := fun {m21} h {b u o} ho _ hb hm => by
    rcases List.mem_cons.1 hm with h' | h'
    · have := lt_of_some ho; omega
    · exact hns b hb h'
  cases hl : lookC C m.1 with
  | none =>
    refine ⟨0, none, 0, 0, false, rfl, .all (.refl _ _), fun m21 g21 => ⟨fun h => (by cases h), fun _ w22 hb22 hk22 => ?_⟩⟩
    exact next (by simp only [okM, hl]) fun b o hb ho => (hk22.block b (lt_of_some ho) (out g21 (u := w13) ho rfl hb)).trans ho
  | some q =>
    have hq := hC q (List.mem_of_find?_eq_some hl)
    obtain ⟨bqp, lq, sq⟩ := pieceErr_ok hq.1
    have hqp : m.1 = q.p.pat := by have := List.find?_some hl; simpa using this
    refine ⟨q.p.pat, q.a, q.p.sizes.length, q.c, true, rfl, .all (.refl _ _), fun m21 g21 => ⟨fun _ => ⟨if m.2.2 then 96 else 97, [], [.pointer (some ⟨b, 0, none⟩)], rfl, by cases m.2.2 <;> exact callOk_run (by rfl), fun w15 hb15 hk15 => ?_⟩, fun h => (by cases h)⟩⟩
    have hnb : b ∉ [m21, m4, m3, m2, m1] := fun hm => by
      rcases List.mem_cons.1 hm with h | h
      · have := lt_of_some hb13'; omega
      · exact hns b (by omega) h
    have hcell15 := (hk15.block b (lt_of_some hb13') hnb).trans hb13'
    have hin : inFit m.2.2 m.2.1 x.sizes q.p.sizes := by
      obtain ⟨_, ⟨_, o1, o2⟩, ⟨_, o3, o4⟩, _⟩ := okf
      unfold inFit
      rcases hmm with ⟨h1, h2, h3⟩ | ⟨h1, h2, h3⟩
      · rw [h1, if_pos rfl, lx, lq, h2, ← hqp, h3]; exact ⟨⟨o1, o2⟩, o3, o4⟩
      · rw [h1, if_neg (by simp), lx, lq, h2, ← hqp, h3]; exact ⟨⟨o1, o2⟩, o3, o4⟩
    refine Pure.calls (fits_any (b := m.2.2) (f := m.2.1) (x0 := x.pat) (q0 := q.p.pat) (xc := xc) (qc := q.c) hcell15 (hx.keep hb15) (hq.2.keep hb15) sx sq hin) fun w16 hd16 => ⟨_, rfl, .all hd16, fun ht w17 hb17 hk17 F7 w18 hcalm18 _ w19 hb19 hk19 w20 hcalm20 => ?_, fun ht w21 hb21 hk21 => ?_⟩
    · exact stop (by simp only [okM, hl]; simpa using ht) (hb19.trans (hcalm20.below hb19.size))
    · refine next (by simp only [okM, hl]; simpa using ht) fun b o hb ho => ?_
      have h15 := (hk15.block b (lt_of_some ho) (out g21 (u := w13) ho rfl hb)).trans ho
      have h16 := (hd16.block b (lt_of_some h15)).trans h15
      exact (hk21.block b (lt_of_some h16) (out g21 (u := w13) ho rfl hb)).trans h16
end Go.Proofs.R12
end
section
/- Choose. -/
namespace Go.Proofs.R12
open Go.Vc Go.RowKit Go.Proofs

abbrev piece0 : Piece := ⟨0, []⟩
def lookP (C : List Piece) (o : Int) : Option Piece := C.find? fun q => o == q.pat
def goesP (W : Wk) (x : Piece) (C : List Piece) : Bool := (mateL W.fits x.pat).all fun m => match lookP C m.1 with | none => true | some q => decide (fitsQ m.2.2 m.2.1 x.sizes q.sizes)
theorem look_cp (L : List CP) (o : Int) : lookP (L.map CP.p) o = (lookC L o).map CP.p := by
  unfold lookP lookC
  rw [List.find?_map]; rfl
theorem goesC_eq (W : Wk) (x : Piece) (L : List CP) : goesC W x L = goesP W x (L.map CP.p) := by
  unfold goesC goesP
  congr 1
  funext m
  rw [look_cp]
  cases lookC L m.1 <;> rfl
def clockErr (W : Wk) : List Piece → List Int → Int
  | [], _ => 0
  | q :: r, seen => if pieceErr W q ≠ 0 then pieceErr W q else if q.pat ∈ seen then 6 else clockErr W r (seen ++ [q.pat])
def storeErr (W : Wk) : List Piece → Int
  | [] => 0
  | q :: r => if pieceErr W q ≠ 0 then pieceErr W q else storeErr W r
def fitsIn (W : Wk) (p : Int) (C : List Piece) (x : Piece) : Bool := decide (x.pat = p) && (decide (goodM W x) && goesP W x C)
def chosen (W : Wk) (p : Int) (C St : List Piece) (j : Nat) : List Int := (idxs j).filter fun i => fitsIn W p C (St.getD i.toNat piece0)
def chooseM (W : Wk) (p : Int) (C St : List Piece) : List Int × Int :=
  if ¬ OkW W then ([], 2) else if ¬ (0 ≤ p ∧ p < W.pats.length) then ([], 7) else if 20 < C.length ∨ 200 < St.length then ([], 5) else if clockErr W C [] ≠ 0 then ([], clockErr W C []) else if storeErr W St ≠ 0 then ([], storeErr W St) else (chosen W p C St St.length, 0)
theorem chosen_succ (W : Wk) (p : Int) (C St : List Piece) (j : Nat) : chosen W p C St (j + 1) = chosen W p C St j ++ (if fitsIn W p C (St.getD j piece0) then [(j : Int)] else []) := by
  unfold chosen
  rw [idxs_succ, List.filter_append]
  congr 1
  simp [List.filter]
  cases fitsIn W p C (St[j]?.getD piece0) <;> simp
theorem chosen_len (W : Wk) (p : Int) (C St : List Piece) (j : Nat) : (chosen W p C St j).length ≤ j := Nat.le_trans (List.length_filter_le _ _) (by simp [idxs])
theorem drop_get {l : List Piece} {i : Nat} (h : i < l.length) : l.drop i = l.getD i piece0 :: l.drop (i + 1) := by
  rw [List.drop_eq_getElem_cons h]; simp [List.getD_eq_getElem?_getD, h]
theorem take_get {l : List Piece} {i : Nat} (h : i < l.length) : l.take (i + 1) = l.take i ++ [l.getD i piece0] := by
  rw [List.take_succ_eq_append_getElem h]; simp [List.getD_eq_getElem?_getD, h]
theorem clockV_keys (L : List CP) (k : Int) : (clockV L).lookup k = none ↔ k ∉ (L.map CP.p).map (·.pat) := by
  induction L with
  | nil => simp [clockV]
  | cons q r ih =>
    simp only [clockV, List.map_cons, List.lookup, List.mem_cons, not_or] at ih ⊢
    by_cases h : k = q.p.pat
    · subst h; simp
    · have : (k == q.p.pat) = false := by simpa using h
      rw [this]; simp only [h, not_false_iff, true_and]; exact ih
theorem clockV_add (L : List CP) (q : CP) : clockV L ++ [(q.p.pat, q.v)] = clockV (L ++ [q]) := by simp [clockV]

def PureL (w : World) (res : List Int × Int) (e : Ending) (w' : World) : Prop := ∃ a c, e = .returned (.tuple #[.slice a res.1.length c, I res.2]) ∧ Below w.heap.size w w' ∧ Lies [] w.heap.size w'.heap.size w' a (ints res.1)
theorem pureL_err {w w' : World} {res : List Int × Int} {x : Int} (h : res = ([], x)) (hb : Below w.heap.size w w') : PureL w res (.returned (.tuple #[.slice none 0 0, I x])) w' := by
  subst h
  exact ⟨none, 0, rfl, hb, fun i v hi => by simp [ints] at hi⟩

set_option maxRecDepth 100000 in
set_option maxHeartbeats 1000000 in
theorem Choose_l {w : World} {W : Wk} {pa fa ca sa : Option Addr} {pc fc cc sc : Nat} {p : Int} {C St : List Piece} (hp : CellsS w pa W.pats) (hf : Cells w fa (fitsV W.fits)) (hS : Small W) (hC : CellsP w ca C) (hT : CellsP w sa St) (lC : C.length ≤ 1000) (lT : St.length ≤ 1000) (xC : ∀ x ∈ C, x.sizes.length ≤ 17592186044000) (xT : ∀ x ∈ St, x.sizes.length ≤ 17592186044000) :
    Calls Try.prog 36 #[W.v pa pc fa fc, .slice ca C.length cc, I p, .slice sa St.length sc] w (PureL w (chooseM W p C St)) := by
  have hn := hS.n
  refine vc36 _ _ _ _ _ _ _ _ _ _ _ _ _ w _ fun m1 g1 m2 g2 w1 hb1 hk1 => ?_
  refine Pure.calls (check_any (hp.keep hb1) (hf.keep hb1) hS) fun w2 hd2 => ⟨_, rfl, .all hd2, fun h1 w3 hb3 _ => ?_, fun h1 => ?_⟩
  · exact pureL_err (by unfold chooseM; rw [if_pos (checkE_ne.1 h1)]) hb3
  have hok : OkW W := checkE_ok.1 h1
  have hb2 := hb1.trans (hd2.mono hb1.size)
  refine ⟨by omega, fun m4 g4 w4 hb4 hk4 hc4 => ?_⟩
  refine Pure.calls (in1_any hc4) fun w5 hd5 => ⟨_, rfl, .all hd5, fun h2 w6 hb6 _ => ?_, fun h2 => ?_⟩
  · refine pureL_err ?_ hb6
    simp only [Bool.not_eq_true', decide_eq_false_iff_not] at h2
    unfold chooseM; rw [if_neg (by simpa using hok), if_pos (by omega)]
  have hpn : 0 ≤ p ∧ p < W.pats.length := by
    simp only [Bool.not_eq_false', decide_eq_true_eq] at h2
    omega
  have e5 : (20 < C.length ∨ 200 < St.length) → chooseM W p C St = ([], 5) := fun h => by unfold chooseM; rw [if_neg (by simpa using hok), if_neg (by simpa using hpn), if_pos h]
  refine ⟨fun h20 => ⟨fun _ w7 hb7 _ => pureL_err (e5 (.inl (by omega))) hb7, fun h => by exfalso; omega⟩, fun h20 => ⟨fun h200 w9 hb9 _ => pureL_err (e5 (.inr (by omega))) hb9, fun h200 => ?_⟩⟩
  have hM : chooseM W p C St = if clockErr W C [] ≠ 0 then ([], clockErr W C []) else if storeErr W St ≠ 0 then ([], storeErr W St) else (chosen W p C St St.length, 0) := by
    unfold chooseM; rw [if_neg (by simpa using hok), if_neg (by simpa using hpn), if_neg (by omega)]
  intro w10 hb10 hk10
  have o1 := hk10.own m1 (by simp)
  have o2 := hk10.own m2 (by simp)
  have o4 := hk10.own m4 (by simp)
  have z10 := hb10.size
  refine mkMap (K := Int) (enc := I) fun w11 hd11 M11 => ⟨_, rfl, .all hd11, ?_⟩
  have l11 := M11.lt
  generalize w10.heap.size = tm at *
  have nt : tm ∉ [m4, m2, m1] := by simp only [List.mem_cons, List.not_mem_nil, or_false]; omega
  have gd : ∀ {l : List Piece} {i : Nat}, (∀ x ∈ l, x.sizes.length ≤ 17592186044000) → i < l.length → (l.getD i piece0).sizes.length ≤ 17592186044000 := fun {l i} h hi => h _ (by simp [List.getD_eq_getElem?_getD, hi])
  refine ⟨fun ls w' => match ls with | [.sl a n c, .int _ _, .int _ ii] => (0 ≤ ii ∧ ii ≤ C.length) ∧ (∃ L : List CP, L.map CP.p = C.take ii.toNat ∧ (∀ q ∈ L, pieceErr W q.p = 0 ∧ Cells w q.a (ints q.p.sizes)) ∧ MapC w' tm I (clockV L)) ∧ clockErr W C [] = clockErr W (C.drop ii.toNat) ((C.take ii.toNat).map (·.pat)) ∧ (a = none ∧ n = 0 ∧ c = 0) | _ => False,
    fun ls => match ls with | [_, _, .int _ ii] => (C.length - ii).toNat | _ => 0, fun w43 hb43 hk43 => ⟨⟨by omega, by omega⟩, ⟨[], rfl, by simp, M11.chg (Chg.kept hk43) nt⟩, rfl, rfl, rfl, rfl⟩, ?_⟩
  rintro a7 n7 c7 x11 x12 w44 hb44 ⟨⟨x0, xl⟩, ⟨L, hL, hLq, M44⟩, hE, rfl, rfl, rfl⟩
  have l44 := M44.lt
  refine ⟨fun hlt => ?_, fun hge => ?_⟩
  · have hi : x12.toNat < C.length := by omega
    refine load_piece hC hb44 ⟨x0, hlt⟩ fun m41 m42 hm a8 c8 hcell => ⟨.inl hm, fun m45 g45 w45 hb45 hk45 => ?_⟩
    have hq1 := gd xC hi
    have htk := take_get hi
    rw [drop_get hi] at hE
    generalize C.getD x12.toNat ⟨0, []⟩ = q at *
    have e1 : (x12 + 1).toNat = x12.toNat + 1 := by omega
    refine Pure.calls (pcheck_any q (hcell.keep hb45) hq1 (hp.keep hb45) hS) fun w46 hd46 => ⟨_, rfl, .all hd46, fun hx w47 hb47 _ => ?_, fun hx w48 hb48 hk48 => ?_⟩
    · have : clockErr W C [] = pieceErr W q := by rw [hE]; unfold clockErr; rw [if_pos hx]
      exact pureL_err (by rw [hM, this, if_pos hx]) hb47
    have nt5 : tm ∉ [m4, m45, m2, m1] := by simp only [List.mem_cons, List.not_mem_nil, or_false]; omega
    have M48 := ((M44.chg (Chg.kept hk45) nt5).below hd46).chg (Chg.kept hk48) nt5
    refine lookup_ok keyI (P := Try.prog) (mt := 138) (vt := 40) (by kernel_rfl) M48 q.pat (z := .agg #[I 0, .slice none 0 0]) (by kernel_rfl) ?_
    have hkeys := clockV_keys L q.pat
    rw [hL] at hkeys
    have hcl := clock_look L q.pat
    cases hl : lookC L q.pat with
    | some q' =>
      rw [hcl, hl]
      refine ⟨q'.p.pat, q'.a, q'.p.sizes.length, q'.c, true, rfl, .all (.refl _ _), fun m50 g50 => ⟨fun _ w50 hb50 _ => ?_, fun h => (by cases h)⟩⟩
      have hin : q.pat ∈ (C.take x12.toNat).map (·.pat) := Classical.byContradiction fun h => by
        have := hkeys.2 h
        rw [hcl, hl] at this
        cases this
      have : clockErr W C [] = 6 := by rw [hE]; unfold clockErr; rw [if_neg (by simpa using hx), if_pos hin]
      exact pureL_err (by rw [hM, this, if_pos (by omega)]) hb50
    | none =>
      rw [hcl, hl]
      have hln : (clockV L).lookup q.pat = none := by rw [hcl, hl]; rfl
      refine ⟨0, none, 0, 0, false, rfl, .all (.refl _ _), fun m50 g50 => ⟨fun h => (by cases h), fun _ w51 hb51 hk51 => ?_⟩⟩
      have nt6 : tm ∉ [m4, m50, m45, m2, m1] := by have := M48.lt; simp only [List.mem_cons, List.not_mem_nil, or_false]; omega
      have M51 := M48.chg (Chg.kept hk51) nt6
      refine update_new keyI (P := Try.prog) (mt := 138) (vt := 40) (by kernel_rfl) M51 q.pat (.agg #[I q.pat, .slice a8 q.sizes.length c8]) hln fun w52 M52 c52 => ?_
      refine ⟨c52.own (fun x hx => ⟨hk51.own x hx, fun h => nt6 (by simp only [List.mem_singleton] at h; subst h; exact hx)⟩) (by simp) (fun _ => ⟨hb51.size, fun x hx => by simp only [List.mem_singleton] at hx; omega⟩), ⟨by omega, by omega⟩, fun w53 hb53 hk53 => ⟨⟨⟨by omega, by omega⟩, ⟨L ++ [⟨q, a8, c8⟩], ?_, fun q' hq' => ?_, ?_⟩, ?_, rfl, rfl, rfl⟩, by simp only; omega⟩⟩
      · rw [e1, htk, List.map_append, hL]; rfl
      · rcases List.mem_append.1 hq' with hq' | hq'
        · exact hLq q' hq'
        · simp only [List.mem_singleton] at hq'
          subst hq'
          exact ⟨hx, hcell⟩
      · rw [← clockV_add]
        exact M52.chg (Chg.kept hk53) nt6
      · have hni := hkeys.1 hln
        rw [hE, e1, htk, List.map_append]
        show clockErr W (q :: C.drop (x12.toNat + 1)) ((C.take x12.toNat).map (·.pat)) = _
        rw [clockErr, if_neg (by simpa using hx), if_neg hni]
        rfl
  · have e12 : x12.toNat = C.length := by omega
    rw [e12, List.drop_length] at hE
    rw [e12, List.take_length] at hL
    have hE0 : clockErr W C [] = 0 := hE
    have hM2 : chooseM W p C St = if storeErr W St ≠ 0 then ([], storeErr W St) else (chosen W p C St St.length, 0) := by rw [hM, if_neg (by simpa using hE0)]
    refine ⟨fun ls w' => match ls with | [.sl a n c, .int _ _, .int _ jj] => (0 ≤ jj ∧ jj ≤ St.length) ∧ n = (chosen W p C St jj.toNat).length ∧ RowE 3 1 w44.heap.size [m4, m2, m1] a n c (ints (chosen W p C St jj.toNat)) w' ∧ MapC w' tm I (clockV L) ∧ storeErr W St = storeErr W (St.drop jj.toNat) ∧ w44.heap.size ≤ w'.heap.size | _ => False,
      fun ls => match ls with | [_, _, .int _ jj] => (St.length - jj).toNat | _ => 0, fun w55 hb55 hk55 => ⟨⟨by omega, by omega⟩, rfl, .inr Row.nil, M44.chg (Chg.kept hk55) nt, rfl, hk55.size⟩, ?_⟩
    rintro a10 n10 c10 x16 x17 w56 hb56 ⟨⟨y0, yl⟩, rfl, RR, M56, hSE, z56⟩
    have hcl := chosen_len W p C St x17.toNat
    have z44 := hb44.size
    refine ⟨fun hlt => ?_, fun hge w70 hb70 hk70 => ?_⟩
    rotate_left
    · have ej : x17.toNat = St.length := by omega
      rw [ej, List.drop_length] at hSE
      rw [ej] at RR ⊢
      have hSE0 : storeErr W St = 0 := hSE
      have hfin : chooseM W p C St = (chosen W p C St St.length, 0) := by rw [hM2, if_neg (by simpa using hSE0)]
      have R70 := RR.chg (Chg.kept hk70) (fun _ h => h)
      unfold PureL
      rw [hfin]
      exact ⟨_, _, rfl, hb70, rowE_lies R70 z44⟩
    have hj : x17.toNat < St.length := by omega
    refine load_piece hT hb56 ⟨y0, hlt⟩ fun m54 m55 hm a11 c11 hcell => ⟨.inl hm, fun m58 g58 w57 hb57 hk57 => ?_⟩
    have hq1 := gd xT hj
    have hch := chosen_succ W p C St x17.toNat
    rw [drop_get hj] at hSE
    generalize St.getD x17.toNat ⟨0, []⟩ = q at *
    have e1 : (x17 + 1).toNat = x17.toNat + 1 := by omega
    refine Pure.calls (pcheck_any q (hcell.keep hb57) hq1 (hp.keep hb57) hS) fun w58 hd58 => ⟨_, rfl, .all hd58, fun hx w59 hb59 _ => ?_, fun hx => ?_⟩
    · have : storeErr W St = pieceErr W q := by rw [hSE]; unfold storeErr; rw [if_pos hx]
      exact pureL_err (by rw [hM2, this, if_pos hx]) hb59
    have hSE' : storeErr W St = storeErr W (St.drop (x17 + 1).toNat) := by
      rw [hSE, e1]
      show storeErr W (q :: St.drop (x17.toNat + 1)) = _
      rw [storeErr, if_neg (by simpa using hx)]
    obtain ⟨bq, lq, _⟩ := pieceErr_ok hx
    have l56 := M56.lt
    have nt5 : tm ∉ [m4, m58, m2, m1] := by simp only [List.mem_cons, List.not_mem_nil, or_false]; omega
    have sub : ∀ x ∈ [m4, m58, m2, m1], x ∈ [m58] ++ [m4, m2, m1] := fun x hx => by simp only [List.mem_cons, List.mem_append, List.not_mem_nil, or_false] at hx ⊢; omega
    have R57 := (RR.grow (ms := [m58]) (allc g58 all0)).chg (Chg.kept hk57) sub
    have M57 := M56.chg (Chg.kept hk57) nt5
    have R58 := R57.chg (Chg.of_below (S := []) hd58) (by simp)
    have M58 := M57.below hd58
    have z57 := hk57.size
    have z58 := hd58.size
    have next : ∀ {w' : World}, fitsIn W p C q = false → RowE 3 1 w44.heap.size ([m58] ++ [m4, m2, m1]) a10 (chosen W p C St x17.toNat).length c10 (ints (chosen W p C St x17.toNat)) w' → MapC w' tm I (clockV L) → w44.heap.size ≤ w'.heap.size →
        ((0 ≤ x17 + 1 ∧ x17 + 1 ≤ St.length) ∧ (chosen W p C St x17.toNat).length = (chosen W p C St (x17 + 1).toNat).length ∧ RowE 3 1 w44.heap.size [m4, m2, m1] a10 (chosen W p C St x17.toNat).length c10 (ints (chosen W p C St (x17 + 1).toNat)) w' ∧ MapC w' tm I (clockV L) ∧ storeErr W St = storeErr W (St.drop (x17 + 1).toNat) ∧ w44.heap.size ≤ w'.heap.size) := fun {w'} hF hR hMm hz => by
      have : chosen W p C St (x17 + 1).toNat = chosen W p C St x17.toNat := by rw [e1, hch, hF]; simp
      rw [this]
      exact ⟨⟨by omega, by omega⟩, rfl, hR.less (by simp), hMm, hSE', hz⟩
    refine ⟨fun hpat w60 hb60 hk60 => ?_, fun hpat => ⟨⟨by omega, by omega⟩, fun w69 hb69 hk69 => ⟨next (by unfold fitsIn; rw [decide_eq_false hpat]; rfl) (R58.chg (Chg.kept hk69) sub) (M58.chg (Chg.kept hk69) nt5) (by have := hk69.size; omega), by simp only; omega⟩⟩⟩
    have R60 := R58.chg (Chg.kept hk60) sub
    have M60 := M58.chg (Chg.kept hk60) nt5
    have z60 := hk60.size
    refine Pure.calls (isGood_any q (hcell.keep hb60) hq1 (hp.keep hb60) hS bq lq) fun w61 hd61 => ⟨_, rfl, .all hd61, fun hg w62 hb62 hk62 => ?_, fun hg => ⟨⟨by omega, by omega⟩, fun w68 hb68 hk68 => ⟨next (by unfold fitsIn; rw [hg]; simp) ((R60.chg (Chg.of_below (S := []) hd61) (by simp)).chg (Chg.kept hk68) sub) ((M60.below hd61).chg (Chg.kept hk68) nt5) (by have := hk68.size; have := hd61.size; omega), by simp only; omega⟩⟩⟩
    have R62 := (R60.chg (Chg.of_below (S := []) hd61) (by simp)).chg (Chg.kept hk62) sub
    have M62 := (M60.below hd61).chg (Chg.kept hk62) nt5
    have z61 := hd61.size
    have z62 := hk62.size
    have hgo := goesC_eq W q L
    rw [hL] at hgo
    refine Pure.calls (goes_any (hf.keep hb62) hok (hcell.keep hb62) hx M62 (fun q' hq' => ⟨(hLq q' hq').1, (hLq q' hq').2.keep hb62⟩)) fun w63 hd63 => ⟨_, rfl, .all hd63, fun ht m62 g62 w64 hb64 hk64 hc64 => ?_, fun ht => ⟨⟨by omega, by omega⟩, fun w67 hb67 hk67 => ⟨next (by unfold fitsIn; rw [← hgo, ht]; simp) ((R62.chg (Chg.of_below (S := []) hd63) (by simp)).chg (Chg.kept hk67) sub) ((M62.below hd63).chg (Chg.kept hk67) nt5) (by have := hk67.size; have := hd63.size; omega), by simp only; omega⟩⟩⟩
    have z63 := hd63.size
    have z64 := hk64.size
    have sub2 : ∀ x ∈ [m62, m4, m58, m2, m1], x ∈ [m62] ++ ([m58] ++ [m4, m2, m1]) := fun x hx => by simp only [List.mem_cons, List.mem_append, List.not_mem_nil, or_false] at hx ⊢; omega
    have sub3 : ∀ x ∈ [m62] ++ ([m58] ++ [m4, m2, m1]), x ∈ [m62, m4, m58, m2, m1] := fun x hx => by simp only [List.mem_cons, List.mem_append, List.not_mem_nil, or_false] at hx ⊢; omega
    have R64 := ((R62.chg (Chg.of_below (S := []) hd63) (by simp)).grow (ms := [m62]) (allc g62 all0)).chg (Chg.kept hk64) sub2
    have M63 := M62.below hd63
    have l63 := M63.lt
    have nt6 : tm ∉ [m62, m4, m58, m2, m1] := by simp only [List.mem_cons, List.not_mem_nil, or_false]; omega
    have M64 := M63.chg (Chg.kept hk64) nt6
    have hF : fitsIn W p C q = true := by
      unfold fitsIn
      rw [← hgo, ht, decide_eq_true hpat, hg]; rfl
    have e2 : chosen W p C St (x17 + 1).toNat = chosen W p C St x17.toNat ++ [x17] := by
      rw [e1, hch, hF, if_pos rfl, Int.toNat_of_nonneg y0]
    refine append_rowE (P := Try.prog) (bytes := 8) (by kernel_rfl) (by omega) R64 (m := 1) (news := [I x17]) (Cells.obj (vs := [I x17]) hc64) rfl (List.forall_mem_cons.2 ⟨rfl, by simp⟩) (by omega) (by omega) (by omega) (fun x hx => hk64.own x (sub3 x hx)) (by omega) fun a12 c12 w65 R65 S65 cS65 hS65 => ?_
    have z65 := cS65.size
    refine ⟨_, _, _, rfl, cS65.own (fun x hx => ⟨hk64.own x hx, fun h => (hS65 x h).2 (sub2 x hx)⟩) (by simp) (fun _ => ⟨hb64.size, fun x hx => by have := (hS65 x hx).1; omega⟩), ⟨by omega, by omega⟩, fun w66 hb66 hk66 => ⟨⟨⟨by omega, by omega⟩, by rw [e2]; simp, ?_, ?_, hSE', by have := hk66.size; omega⟩, by simp only; omega⟩⟩
    · rw [e2, ints_append]
      exact .inr ((R65.chg (Chg.kept hk66) sub2).less (by simp))
    · exact (M64.chg cS65 (fun h => by have := (hS65 _ h).1; omega)).chg (Chg.kept hk66) nt6
end Go.Proofs.R12
end
