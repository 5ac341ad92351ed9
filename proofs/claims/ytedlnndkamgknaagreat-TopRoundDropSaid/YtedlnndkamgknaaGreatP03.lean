/- Part 3: own lemmas, and the conditions of the functions. -/
import Derived.ProofKit
import Derived.HandedShaped
import Derived.Laws.OwnMore
import Derived.Test.YtedlnndkamgknaaGreatP02
section
namespace Go.Vc
open Go.RowKit

theorem shLf_toV {L : Nat → Option LocE} (x : Sh) : ∃ v, (shLf x).toV L = some v := by
  cases x <;> exact ⟨_, rfl⟩
theorem exemSV_toV {P : Program} {L : Nat → Option LocE} {t : TypeId} (h : exemSV P t ≠ .none) : ∃ v, (exemSV P t).toV L = some v := by
  unfold exemSV at h ⊢
  split
  · rename_i sh hs
    rw [hs] at h
    simp only at h
    cases ha : isAggB P t
    · rw [ha] at h
      simp only [cond_false] at h ⊢
      split
      · exact shLf_toV _
      · rename_i hne
        split at h
        · exact absurd rfl (hne _)
        · exact absurd rfl h
    · simp only [cond_true]
      have : ∀ l : List Sh, ∃ vs, toVs L (l.map shLf) = some vs := fun l => by
        induction l with
        | nil => exact ⟨[], rfl⟩
        | cons x r ih =>
          obtain ⟨v, hv⟩ := shLf_toV (L := L) x
          obtain ⟨vs, hvs⟩ := ih
          exact ⟨v :: vs, by simp only [List.map_cons, toVs, hv, hvs]⟩
      obtain ⟨vs, hvs⟩ := this sh
      exact ⟨.agg vs.toArray, by simp only [SV.toV, PV.toV, hvs]⟩
  · rename_i hs
    rw [hs] at h
    exact absurd rfl h
theorem exem_toV {P : Program} {L : Nat → Option LocE} {carry : List (Nat × TypeId)} {d : Nat} (h : exem P carry d ≠ .none) : ∃ v, (exem P carry d).toV L = some v := by
  unfold exem at h ⊢
  split
  · rename_i t ht
    rw [ht] at h
    exact exemSV_toV h
  · rename_i ht
    rw [ht] at h
    exact absurd rfl h

theorem bif_false {b : Bool} {p q : Prop} (h : bif b then p else q) (hp : ¬ p) : q := by
  cases b
  · exact h
  · exact absurd h hp
theorem join_sound {C : Cfg} {p : Nat → Prop} {md : List Nat} (hmd : ∀ d, p d → d ∈ md) (hdm : ∀ d, d ∈ md → p d) {carry : List (Nat × TypeId)} {run : (Ex → SS → World → Prop) → SS → World → Prop} {K : Ex → SS → World → Prop} {s : SS} {a : Act} {wp w : World} {Q : Exit → Act → World → Prop} {Goal : Prop}
    (h : joinVC C md carry run K s wp) (hS : Sim C s a wp w)
    (hrun : ∀ (K' : Ex → SS → World → Prop) (s0 : SS), s0.rnd = s.rnd → run K' s0 wp → Sim C s0 a wp w → (∀ e s' a' w' wp', K' e s' wp' → Sim C s' a' wp' w' → FrO C.muts p s0 s' → Q e.to a' w') → Goal)
    (hk : ∀ e s' a' w' wp', K e s' wp' → Sim C s' a' wp' w' → FrO C.muts p s s' → Q e.to a' w') : Goal := by
  unfold joinVC at h
  have hrf : s.rf = false := by
    cases hb : s.rf
    · rfl
    · simp only [hb, cond_true] at h; exact h.elim
  obtain ⟨J, hr, hh⟩ := bif_false h (fun x => x)
  have hmu := hS.w.mu
  have hmu0 : ∀ k, k ∈ C.muts → (s.ro k || (hasL s.L k && !(memB k C.muts))) = false := fun k hk => by
    simp only [memB_spec.2 hk, Bool.not_true, Bool.and_false, Bool.or_false]
    exact hmu k hk
  have hro0 : ∀ k e, s.L k = some e → k ∉ C.muts → (s.ro k || (hasL s.L k && !(memB k C.muts))) = true := fun k e he hk => by
    have hm : memB k C.muts = false := by cases h : memB k C.muts; rfl; exact absurd (memB_spec.1 h) hk
    have : hasL s.L k = true := by unfold hasL; rw [he]
    simp [hm, this]
  have hlock : ∀ k, s.ro k = true ∨ k ∈ C.muts → (s.ro k || (hasL s.L k && !(memB k C.muts))) = true ∨ k ∈ C.muts := fun k hk => by
    rcases hk with hk | hk
    · left; simp [hk]
    · exact .inr hk
  have hS0 := sim_ro hS (r := fun k => s.ro k || (hasL s.L k && !(memB k C.muts))) hmu0
  have hback : ∀ {s' : SS}, FrO C.muts p { s with ro := fun k => s.ro k || (hasL s.L k && !(memB k C.muts)) } s' → FrO C.muts p s { s' with ro := s.ro } := fun {s'} hF =>
    ⟨fun d hd hp => hF.sl d hd fun k hk => hlock k (hp k hk), fun k e he hp => by
      obtain ⟨e', f1, f2, f3, f4⟩ := hF.L k e he (hlock k hp)
      exact ⟨e', f1, f2, f3, fun hr => f4 (by simp [hr])⟩, rfl, ⟨hF.g.1, hF.g.2, hF.g.3, hF.g.4⟩⟩
  refine hrun _ { s with ro := fun k => s.ro k || (hasL s.L k && !(memB k C.muts)) } rfl hr hS0 fun e s' a' w' wp' h' hS' hF => ?_
  cases e with
  | exit i => exact hk (.exit i) _ _ _ _ h' (sim_ro hS' hmu) (hback hF)
  | ret => exact hk .ret _ _ _ _ h' (sim_ro hS' hmu) (hback hF)
  | normal =>
    have hrf' : s'.rf = false := by
      cases hb : s'.rf
      · rfl
      · simp only [hb, cond_true] at h'; exact h'.elim
    have h' := bif_false h' (fun x => x)
    split at h'
    · rename_i ls hls
      have hJ := withLoc_elim hS'.w.mem (expo_elim h' hS'.w)
      have hv0 : ∀ d, (bif memB d md then exem C.P carry d else s.sl d) ≠ .none → ∃ v, (bif memB d md then exem C.P carry d else s.sl d).toV s.L = some v := fun d hd => by
        cases hmb : memB d md
        · rw [hmb] at hd
          simp only [cond_false] at hd ⊢
          obtain ⟨v, h1, _⟩ := hS0.sl d hd
          exact ⟨v, h1⟩
        · rw [hmb] at hd
          exact exem_toV hd
      have hF0 : FrO C.muts (fun d => d ∈ md) { s with ro := fun k => s.ro k || (hasL s.L k && !(memB k C.muts)), sl := fun d => bif memB d md then exem C.P carry d else s.sl d, ws := none, xs := [] } s' := by
        refine ⟨fun d hd hp => ?_, hF.L, hF.ro, ⟨hF.g.1, hF.g.2, hF.g.3, hF.g.4⟩⟩
        have hmb : memB d md = false := by cases hb : memB d md; rfl; exact absurd (memB_spec.1 hb) hd
        simp only [hmb, cond_false] at hp ⊢
        exact hF.sl d (fun hpd => hd (hmd d hpd)) hp
      obtain ⟨s2, hgo, hge, hwx2, hsl2, hw2, hb2, hF2⟩ := head_sound (s0 := { s with ro := fun k => s.ro k || (hasL s.L k && !(memB k C.muts)), sl := fun d => bif memB d md then exem C.P carry d else s.sl d, ws := none, xs := [] }) (ks := C.muts) hv0 (fun k e he => by obtain ⟨vs, h1, _⟩ := hS0.w.mem k e he; exact ⟨vs, h1⟩) hF0 (fun k e he hkk => hro0 k e he hkk) (fun k hkk => hmu0 k hkk) hS' hls rfl rfl hh
      have hg' := hF.g
      have hgh : s'.gh = s.gh := hg'.same hrf'
      have hd2 : GhOk C.base s2.L s'.gh s'.rf s'.rnd s'.pg s'.pw a'.defers w' := hS'.d.step (fun k e he => by obtain ⟨e', h1, h2⟩ := hb2 k e he; rw [← h2]; exact hS'.d.dj k e' h1) (.refl _) fun _ _ => rfl
      have hSim : Sim C s2 a' w' w' := by
        refine ⟨hsl2, hS'.n, ?_, hw2⟩
        rw [hge.gh, hge.rf, hge.rnd, hge.pg, hge.pw]
        rw [hrf', hgh, hg'.rnd.1, hg'.rnd.2.1, hg'.rnd.2.2] at hd2
        simp only [hrf]
        exact hd2
      have hK : K .normal { s2 with ro := s.ro } w' := by
        cases hp : C.pure
        · simp only [hp] at hgo; exact hgo w' hJ
        · simp only [hp] at hgo; exact hgo w' (hS'.w.below hp) hJ
      refine hk .normal _ _ _ _ hK (sim_ro hSim hmu) ⟨fun d hd hp => ?_, fun k e he hp => ?_, rfl, ?_⟩
      · have hnd : d ∉ md := fun hm => hd (hdm d hm)
        have hmb : memB d md = false := by cases hb : memB d md; rfl; exact absurd (memB_spec.1 hb) hnd
        have := hF2.sl d hnd fun k hkk => by
          simp only [hmb, cond_false] at hkk
          exact hlock k (hp k hkk)
        simp only [hmb, cond_false] at this
        exact this
      · obtain ⟨e', f1, f2, f3, f4⟩ := hF2.L k e he (hlock k hp)
        exact ⟨e', f1, f2, f3, fun hr => f4 (by simp [hr])⟩
      · have := hge.r
        exact ⟨this.1, this.2, this.3, this.4⟩
    · exact h'.elim

theorem vc_sound {C : Cfg} : ∀ {c : Code} {K : Ex → SS → World → Prop} {s : SS} {a : Act} {wp w : World} {Q : Exit → Act → World → Prop} (r : Option Nat), s.rnd = r → vc C c K s wp → Sim C s a wp w →
    (∀ e s' a' w' wp', K e s' wp' → Sim C s' a' wp' w' → FrO C.muts (wr c) s s' → Q e.to a' w') → c.wpIn (WF r) 0 C.P Q a w
  | .skip, K, s, a, wp, w, Q, r, hr, h, hS, hk => wpIn_skip (hk .normal _ _ _ _ h hS (.refl _ _ _))
  | .region id ops false, K, s, a, wp, w, Q, r, hr, h, hS, hk => by
    have plain : ∀ {K : Ex → SS → World → Prop} {s : SS}, s.rnd = r → (bif noDefers ops then opsVC C ops (guardSlots ops) (List.range ops.size) (K .normal) s wp else Unsup "a deferred call") → Sim C s a wp w →
        (∀ e s' a' w' wp', K e s' wp' → Sim C s' a' wp' w' → FrO C.muts (wr (.region id ops false)) s s' → Q e.to a' w') → (Code.region id ops false).wpIn (WF r) 0 C.P Q a w := by
      intro K s hr h hS hk
      cases hnd : noDefers ops <;> simp only [hnd, cond_true, cond_false] at h
      · exact h.elim
      · exact wpIn_region (ops_sound hnd (Q := Q) h hS fun s' a' w' wp' h' hS' hF => hk .normal _ _ _ _ h' hS' hF)
    simp only [vc] at h
    split at h
    · exact plain hr h hS hk
    · exact join_sound (p := wr (.region id ops false)) (md := dsts (.region id ops false) []) (fun d hd => dsts_spec (.inr hd)) (fun d hd => (dsts_back hd).resolve_left (by simp)) h hS (fun K' s0 e1 h1 S1 k1 => plain (e1.trans hr) h1 S1 k1) hk
  | .region id ops true, K, s, a, wp, w, Q, r, hr, h, hS, hk => by
    have plain : ∀ {K : Ex → SS → World → Prop} {s : SS}, s.rnd = r → drawR C (C.opsF ops) (K .normal) s wp → Sim C s a wp w →
        (∀ e s' a' w' wp', K e s' wp' → Sim C s' a' wp' w' → FrO C.muts (wr (.region id ops true)) s s' → Q e.to a' w') → (Code.region id ops true).wpIn (WF r) 0 C.P Q a w :=
      fun {K s} hr h hS hk => draw_sound h hS fun s' a' w' wp' h' hS' hF => hk .normal _ _ _ _ h' hS' hF
    simp only [vc] at h
    split at h
    · exact plain hr h hS hk
    · exact join_sound (p := wr (.region id ops true)) (md := dsts (.region id ops true) []) (fun d hd => dsts_spec (.inr hd)) (fun d hd => (dsts_back hd).resolve_left (by simp)) h hS (fun K' s0 e1 h1 S1 k1 => plain (e1.trans hr) h1 S1 k1) hk
  | .seq x y, K, s, a, wp, w, Q, r, hr, h, hS, hk => wpIn_seq (vc_sound (c := x) r hr h hS fun e s' a' w' wp' h' hS' hF => by
      cases e with
      | normal => exact vc_sound (c := y) r (hF.g.rnd.1.trans hr) h' hS' fun e2 s2 a2 w2 wp2 h2 hS2 hF2 => hk e2 _ _ _ _ h2 hS2 ((hF.mono fun d hd => .inl hd).trans (hF2.mono fun d hd => .inr hd))
      | exit i => exact hk (.exit i) _ _ _ _ h' hS' (hF.mono fun d hd => .inl hd)
      | ret => exact hk .ret _ _ _ _ h' hS' (hF.mono fun d hd => .inl hd))
  | .cond c x y, K, s, a, wp, w, Q, r, hr, h, hS, hk => by
    have plain : ∀ {K : Ex → SS → World → Prop} {s : SS}, s.rnd = r → (match s.ev c with
        | .pv (.one (.tf true)) => vc C x K s wp
        | .pv (.one (.tf false)) => vc C y K s wp
        | .pv (.one (.bool b)) => (b = true → vc C x K s wp) ∧ (b = false → vc C y K s wp)
        | .pv (.one (.cmp c m n)) => (c.p m n → vc C x K s wp) ∧ (c.no.p m n → vc C y K s wp)
        | _ => Unsup "a test") → Sim C s a wp w →
        (∀ e s' a' w' wp', K e s' wp' → Sim C s' a' wp' w' → FrO C.muts (wr (.cond c x y)) s s' → Q e.to a' w') → (Code.cond c x y).wpIn (WF r) 0 C.P Q a w := by
      intro K s hr h hS hk
      have hE := evOk_of_sim hS.sl
      have hx : vc C x K s wp → x.wpIn (WF r) 0 C.P Q a w := fun h => vc_sound (c := x) r hr h hS fun e s' a' w' wp' h' hS' hF => hk e _ _ _ _ h' hS' (hF.mono fun d hd => .inl hd)
      have hy : vc C y K s wp → y.wpIn (WF r) 0 C.P Q a w := fun h => vc_sound (c := y) r hr h hS fun e s' a' w' wp' h' hS' hF => hk e _ _ _ _ h' hS' (hF.mono fun d hd => .inr hd)
      split at h
      · rename_i hc; exact wpIn_cond_true (hE.get (by rw [hc]; rfl)) (hx h)
      · rename_i hc; exact wpIn_cond_false (hE.get (by rw [hc]; rfl)) (hy h)
      · rename_i b hc
        exact wpIn_cond_split (t := b) (hE.get (by rw [hc]; rfl)) (fun e => hx (h.1 e)) (fun e => hy (h.2 e))
      · rename_i c' m n hc
        exact wpIn_cond_split (t := c'.b m n) (hE.get (by rw [hc]; rfl)) (fun e => hx (h.1 (Cmp.b_true e))) (fun e => hy (h.2 (Cmp.b_false e)))
      · exact h.elim
    simp only [vc] at h
    split at h
    · exact plain hr h hS hk
    · exact join_sound (p := wr (.cond c x y)) (md := dsts (.cond c x y) []) (fun d hd => dsts_spec (.inr hd)) (fun d hd => (dsts_back hd).resolve_left (by simp)) h hS (fun K' s0 e1 h1 S1 k1 => plain (e1.trans hr) h1 S1 k1) hk
  | .block id c, K, s, a, wp, w, Q, r, hr, h, hS, hk => by
    have plain : ∀ {K : Ex → SS → World → Prop} {s : SS}, s.rnd = r → vc C c (fun e s wp => match e with
        | .exit i => bif Nat.beq i id then K .normal s wp else K (.exit i) s wp
        | e => K e s wp) s wp → Sim C s a wp w →
        (∀ e s' a' w' wp', K e s' wp' → Sim C s' a' wp' w' → FrO C.muts (wr (.block id c)) s s' → Q e.to a' w') → (Code.block id c).wpIn (WF r) 0 C.P Q a w := fun {K s} hr h hS hk =>
      wpIn_block (vc_sound (c := c) r hr h hS fun e s' a' w' wp' h' hS' hF => by
      cases e with
      | normal => exact hk .normal _ _ _ _ h' hS' hF
      | ret => exact hk .ret _ _ _ _ h' hS' hF
      | exit i =>
        simp only at h'
        cases hb : Nat.beq i id <;> simp only [hb, cond_true, cond_false] at h'
        · have hne : i ≠ id := fun e => by subst e; simp at hb
          simp only [Ex.to, Exit.inBlock, if_neg hne]
          exact hk (.exit i) _ _ _ _ h' hS' hF
        · have := Nat.eq_of_beq_eq_true hb
          subst this
          simp only [Ex.to, Exit.inBlock, if_true]
          exact hk .normal _ _ _ _ h' hS' hF)
    simp only [vc] at h
    split at h
    · exact plain hr h hS hk
    · exact join_sound (p := wr (.block id c)) (md := dsts (.block id c) []) (fun d hd => dsts_spec (.inr hd)) (fun d hd => (dsts_back hd).resolve_left (by simp)) h hS (fun K' s0 e1 h1 S1 k1 => plain (e1.trans hr) h1 S1 k1) hk
  | .exit id, K, s, a, wp, w, Q, r, hr, h, hS, hk => wpIn_exit (hk (.exit id) _ _ _ _ h hS (.refl _ _ _))
  | .ret, K, s, a, wp, w, Q, r, hr, h, hS, hk => wpIn_ret (hk .ret _ _ _ _ h hS (.refl _ _ _))
  | .loop body, K, s, a, wp, w, Q, r, hr, h, hS, hk => by
    simp only [vc, loopVC] at h
    generalize hmd : dsts body [] = md at h
    generalize hs0 : (s.esc (escKeys s md)).lock C.muts = s0 at h
    cases hal : escOk C s (escKeys s md) <;> simp only [hal, Bool.not_true, Bool.not_false, cond_true, cond_false] at h
    · exact h.elim
    split at h
    · rename_i ls0 hls0
      obtain ⟨J, In, Bn, hJI, hB, ⟨n0, hent⟩, hrounds⟩ : ∃ (J In : Nat → List Lf → World → Prop) (Bn : Nat → List Lf → List Lf → World → Prop), (∀ n ls w, J n ls w → In n ls w) ∧
          (∀ n ls w1 ls' w', J n ls w1 → Bn n ls ls' w' → ∃ n', n' < n ∧ J n' ls' w') ∧ (∃ n, J n ls0 w) ∧ ∀ n, roundVC C (hasRF body) md (fun K => vc C body K) K s s0 (In n) (Bn n) := by
        cases hnx : (hasNx body || C.idx) <;> simp only [hnx] at h
        · obtain ⟨I, μ, hI0, hrounds⟩ := h
          have hent := withLoc_elim hS.w.mem (expo_elim hI0 hS.w)
          exact ⟨fun n ls w => I ls w ∧ μ ls = n, fun _ => I, fun _ ls ls' w' => I ls' w' ∧ μ ls' < μ ls, fun _ _ _ h => h.1, fun n ls w1 ls' w' h1 h2 => ⟨μ ls', by rw [← h1.2]; exact h2.2, h2.1, rfl⟩, ⟨_, hent, rfl⟩, fun _ => hrounds⟩
        · obtain ⟨J, hI0, hrounds⟩ := h
          have hent := withLoc_elim hS.w.mem (expo_elim hI0 hS.w)
          exact ⟨J, J, fun n _ ls' w' => ∃ n', n' < n ∧ J n' ls' w', fun _ _ _ h => h, fun _ _ _ _ _ _ h => h, hent, hrounds⟩
      obtain ⟨hSe, hroe, hLe⟩ := esc_sim hS (escKeys s md)
      have hFe : FrO C.muts (wr (.loop body)) s (s.esc (escKeys s md)) := esc_fr hal hS
      have hmu0 : ∀ k, k ∈ C.muts → s0.ro k = false := fun k hk => by
        rw [← hs0]
        simp only [SS.lock, memB_spec.2 hk, Bool.not_true, Bool.and_false, Bool.or_false, hroe]
        exact hS.w.mu k hk
      have hro0 : ∀ k e, s0.L k = some e → k ∉ C.muts → s0.ro k = true := fun k e he hk => by
        rw [← hs0] at he ⊢
        have hm : memB k C.muts = false := by cases h : memB k C.muts; rfl; exact absurd (memB_spec.1 h) hk
        have : hasL (s.esc (escKeys s md)).L k = true := by unfold hasL; rw [show (s.esc (escKeys s md)).L k = some e from he]
        simp [SS.lock, hm, this]
      have hS0 : Sim C s0 a w w := by
        rw [← hs0]
        exact sim_ro (s := { s.esc (escKeys s md) with ws := none, xs := [] }) hSe (r := fun k => (s.esc (escKeys s md)).ro k || (hasL (s.esc (escKeys s md)).L k && !(memB k C.muts))) fun k hk => by rw [← hs0] at hmu0; exact hmu0 k hk
      have hv0 : ∀ d, s0.sl d ≠ .none → ∃ v, (s0.sl d).toV s0.L = some v := fun d hd => by obtain ⟨v, h1, _⟩ := hS0.sl d hd; exact ⟨v, h1⟩
      have hm0 : ∀ k e, s0.L k = some e → ∃ vs, toVs s0.L e.cells = some vs := fun k e he => by obtain ⟨vs, h1, _⟩ := hS0.w.mem k e he; exact ⟨vs, h1⟩
      have hwr : ∀ d, wr body d → d ∈ md := fun d hd => by rw [← hmd]; exact dsts_spec (.inr hd)
      have hback : ∀ {s' : SS}, FrO C.muts (fun d => d ∈ md) s0 s' → FrO C.muts (fun d => d ∈ md) s { s' with ro := s.ro } := fun {s'} hF => by
        refine ⟨fun d hd hp => ?_, fun k e he hp => ?_, rfl, ?_⟩
        rotate_left 2
        · have h1 := (esc_gh (s := s) (ks := escKeys s md)).r
          have h2 : GhR s s0 := by rw [← hs0]; exact ⟨h1.1, h1.2, h1.3, h1.4⟩
          have h3 := h2.trans hF.g
          exact ⟨h3.1, h3.2, h3.3, h3.4⟩
        · have e1 : (s.esc (escKeys s md)).sl d = s.sl d := (esc_fr (p := fun d => d ∈ md) hal hS).sl d hd hp
          have e2 : s0.sl d = s.sl d := by rw [← hs0]; exact e1
          rw [← e2]
          refine hF.sl d hd fun k hk => ?_
          rw [e2] at hk
          rcases hp k hk with hp | hp
          · left; rw [← hs0]; simp [SS.lock, hroe, hp]
          · exact .inr hp
        · obtain ⟨e1, g1, g2, g3, g4⟩ := (esc_fr (p := fun d => d ∈ md) hal hS).L k e he hp
          have g1' : s0.L k = some e1 := by rw [← hs0]; exact g1
          have hp' : s0.ro k = true ∨ k ∈ C.muts := by
            rcases hp with hp | hp
            · left; rw [← hs0]; simp [SS.lock, hroe, hp]
            · exact .inr hp
          obtain ⟨e2, f1, f2, f3, f4⟩ := hF.L k e1 g1' hp'
          refine ⟨e2, f1, f2.trans g2, f3.trans g3, fun hr => (f4 ?_).trans (g4 hr)⟩
          rw [← hs0]; simp [SS.lock, hroe, hr]
      have hmdwr : ∀ d, d ∈ md → wr (.loop body) d := fun d hd => by
        rw [← hmd] at hd
        exact (dsts_back hd).resolve_left (by simp)
      -- a round
      have hge0 : GhE s s0 := by
        have h1 := esc_gh (s := s) (ks := escKeys s md)
        rw [← hs0]
        exact ⟨h1.1, h1.2, h1.3, h1.4, h1.5⟩
      refine wp_loop_ix (fun n a' w' => ∃ s' wp' ls, leavesAt s0 s' md C.muts = some ls ∧ J n ls w' ∧ Sim C s' a' wp' w' ∧ FrO C.muts (fun d => d ∈ md) s0 s' ∧ ((hasRF body || s0.rf) = false → s'.rf = false)) ⟨n0, s0, w, ls0, hls0, hent, hS0, .refl _ _ _, fun h => (Bool.or_eq_false_iff.1 h).2⟩ ?_
      rintro n a1 w1 ⟨s1, wp1, ls1, hl1, hJ1, hS1, hF1, hrf1⟩
      have hI1 := hJI _ _ _ hJ1
      have hrounds := hrounds n
      unfold roundVC at hrounds
      obtain ⟨s2, hgo, hge, hwx2, hsl2, hw2, hb2, hF2⟩ := head_sound hv0 hm0 hF1 hro0 hmu0 hS1 hl1 (by rw [← hs0]; rfl) (by rw [← hs0]; rfl) hrounds
      have hd2 : GhOk C.base s2.L s1.gh s1.rf s1.rnd s1.pg s1.pw a1.defers w1 := hS1.d.step (fun k e he => by obtain ⟨e', h1, h2⟩ := hb2 k e he; rw [← h2]; exact hS1.d.dj k e' h1) (.refl _) fun _ _ => rfl
      have hg1 := hF1.g
      have hr0 : s0.rnd = r := by rw [hge0.rnd]; exact hr
      obtain ⟨s2', hbody, hS2, hF2', hr2, hrf2⟩ : ∃ s2', vc C body (fun e s' wp' => match e with
          | .normal => bif !(hasRF body || s0.rf) && s'.rf then Unsup "a range over a function in a loop" else match leavesAt s0 s' md C.muts with
            | some ls' => expo C s' wp' fun w' => withLoc s'.L w' (C.giveK md s') (Bn n ls1 ls' w')
            | none => Unsup "the loops round ends in another shape"
          | e => K e { s' with ro := s.ro } wp') s2' w1 ∧ Sim C s2' a1 w1 w1 ∧ FrO C.muts (fun d => d ∈ md) s0 s2' ∧ s2'.rnd = r ∧ ((hasRF body || s0.rf) = false → s2'.rf = false) := by
        cases hfl : (hasRF body || s0.rf)
        · simp only [hfl] at hgo
          have hrf := hrf1 hfl
          have hgh := hg1.same hrf
          have h0 := (Bool.or_eq_false_iff.1 hfl).2
          refine ⟨s2, ?_, ⟨hsl2, hS1.n, ?_, hw2⟩, hF2, by rw [hge.rnd]; exact hr0, fun _ => by rw [hge.rf]; exact h0⟩
          · cases hp : C.pure
            · simp only [hp] at hgo; exact hgo w1 hI1
            · simp only [hp] at hgo; exact hgo w1 (hS1.w.below hp) hI1
          · rw [hge.gh, hge.rf, hge.rnd, hge.pg, hge.pw, h0]
            rw [hrf, hgh, hg1.rnd.1, hg1.rnd.2.1, hg1.rnd.2.2] at hd2
            exact hd2
        · simp only [hfl] at hgo
          have hgo := hgo s1.gh hg1.mono
          refine ⟨{ s2 with rf := true, gh := s1.gh }, ?_, ⟨hsl2, hS1.n, ?_, hw2.congr rfl rfl rfl rfl⟩, hF2.gr rfl rfl rfl ⟨⟨hge.rnd, hge.pg, hge.pw⟩, fun _ => rfl, fun h => (by cases h), hg1.mono⟩, by show s2.rnd = r; rw [hge.rnd]; exact hr0, fun h => (by cases h)⟩
          · cases hp : C.pure
            · simp only [hp] at hgo; exact hgo w1 hI1
            · simp only [hp] at hgo; exact hgo w1 (hS1.w.below hp) hI1
          · show GhOk C.base s2.L s1.gh true s2.rnd s2.pg s2.pw a1.defers w1
            rw [hge.rnd, hge.pg, hge.pw, ← hg1.rnd.1, ← hg1.rnd.2.1, ← hg1.rnd.2.2]
            obtain ⟨po, pn, dj, gl, rd, Ds, e1, e2, e3, e4⟩ := hd2
            exact ⟨po, pn, dj, gl, rd, Ds, e1, e2, fun h => (by cases h), e4⟩
      refine vc_sound (c := body) r hr2 hbody hS2 fun e s3 a3 w3 wp3 h3 hS3 hF3 => ?_
      have hF03 : FrO C.muts (fun d => d ∈ md) s0 s3 := hF2'.trans (hF3.mono hwr)
      cases e with
      | normal =>
        simp only at h3
        cases hfl : (!(hasRF body || s0.rf) && s3.rf) <;> simp only [hfl, cond_true, cond_false] at h3
        case true => exact h3.elim
        split at h3
        · rename_i ls3 hls3
          obtain ⟨n', g2, g1⟩ := hB _ _ _ _ _ hJ1 (withLoc_elim hS3.w.mem (expo_elim h3 hS3.w))
          exact ⟨n', g2, s3, wp3, ls3, hls3, g1, hS3, hF03, fun h => (by rw [h] at hfl; simpa using hfl)⟩
        · exact h3.elim
      | exit i => exact hk (.exit i) _ _ _ _ h3 (sim_ro hS3 hS.w.mu) ((hback hF03).mono hmdwr)
      | ret => exact hk .ret _ _ _ _ h3 (sim_ro hS3 hS.w.mu) ((hback hF03).mono hmdwr)
    · exact h.elim
  | .rangeFunc g ps x y, K, s, a, wp, w, Q, r, hr, h, hS, hk => by
    rw [← hr]
    refine range_sound (pw := wr (.rangeFunc g ps x y)) (fun r hr h hS hk => vc_sound (c := x) r hr h hS fun e s' a' w' wp' h' hS' hF => hk e _ _ _ _ h' hS' (hF.mono fun _ _ => trivial)) (fun r hr h hS hk => vc_sound (c := y) r hr h hS fun e s' a' w' wp' h' hS' hF => hk e _ _ _ _ h' hS' (hF.mono fun _ _ => trivial)) ?_ hS hk
    simpa only [vc] using h
  | .scope _, K, s, a, wp, w, Q, r, hr, h, hS, hk => h.elim
  | .label _, K, s, a, wp, w, Q, r, hr, h, hS, hk => h.elim
  | .goto _, K, s, a, wp, w, Q, r, hr, h, hS, hk => h.elim
  | .refuse _, K, s, a, wp, w, Q, r, hr, h, hS, hk => h.elim


theorem retPVs_run {P : Program} {s : SS} {a : Act} {w : World} (hS : SimS s a) (hm : MemS s w) : ∀ {rs : List ResultVar} {l : List PV} {vs : List Value}, retPVs P s rs = some l → pvs s.L l = some vs →
    Sem.run P (rs.mapM fun (r : ResultVar) => match r with
      | .tmp t => (pure (a.tmps.getD t undef) : Sem Value)
      | .cell b t => do loadVar t (← asAddr (a.tmps.getD b undef))) w = .ok vs w
  | [], l, vs, h, hv => by simp [retPVs] at h; subst h; simp [pvs] at hv; subst hv; rfl
  | .tmp t :: r, l, vs, h, hv => by
    simp only [retPVs] at h
    split at h <;> simp at h
    rename_i p l' hp hl'
    subst h
    simp only [pvs] at hv
    split at hv <;> simp at hv
    rename_i u us hu hus
    subst hv
    obtain ⟨v, h1, h2⟩ := hS t (by rw [hp]; simp)
    rw [hp] at h1
    have : u = v := by rw [show p.toV s.L = some v from h1] at hu; exact (Option.some.inj hu).symm
    subst this
    have hg : a.tmps.getD t undef = u := by simp [Array.getD_eq_getD_getElem?, h2]
    simp only [List.mapM_cons, Sem.run_bind, Sem.run_pure, Result.andThen_ok, retPVs_run hS hm hl' hus, hg]
  | .cell t ty :: r, l, vs, h, hv => by
    simp only [retPVs] at h
    split at h
    · rename_i k o l' hp hl'
      split at h
      · rename_i e he
        split at h <;> simp at h
        rename_i p hpart
        subst h
        simp only [pvs] at hv
        split at hv <;> simp at hv
        rename_i u us hu hus
        subst hv
        obtain ⟨v, h1, h2⟩ := hS t (by rw [hp]; simp)
        rw [hp] at h1
        simp [SV.toV, PV.toV, Lf.toV, he] at h1
        subst h1
        obtain ⟨cs, h3, h4⟩ := hm k e he
        obtain ⟨dd, hd⟩ := partOf_hasT hpart
        obtain ⟨v, h5, h6⟩ := run_loadVar (P := P) hpart h3 h4 hd
        rw [h5] at hu; cases hu
        have hg : a.tmps.getD t undef = .pointer (some ⟨e.b, o, none⟩) := by simp [Array.getD_eq_getD_getElem?, h2]
        have ih := retPVs_run (P := P) hS hm hl' hus
        simp only [List.mapM_cons, Sem.run_bind, Sem.run_pure, Result.andThen_ok, hg, asAddr, h6]
        erw [ih]
        simp only [Result.andThen_ok]
      · simp at h
    · simp at h

def RetR (rf : Bool) (B : Nat) (R : Ending → World → Prop) (v : Value) (w : World) : Prop :=
  match rf with
  | true => ∀ w', CalmFrom B w w' → R (.returned v) w'
  | false => R (.returned v) w

/-- Where a function ends: the marks that its ranges over functions have left are taken over. -/
theorem leaves_of {P : Program} {fn : Func} {tmps : Array Value} {R : Ending → World → Prop} {v : Value} {B : Nat} {L : Nat → Option LocE} {gh : Nat → Prop} {rf : Bool} {rnd : Option Nat} {pg : Nat → Prop} {pw : World} {ds : List Deferred} {w : World}
    (hd : GhOk B L gh rf rnd pg pw ds w) (hres : ∀ w', CalmFrom B w w' → (results fn tmps).run P w' = .ok v w') (hR : RetR rf B R v w) : LeavesInM (WF none) 0 P fn tmps R ds .returning w := by
  obtain ⟨po, pn, dj, gl, rd, Ds, h1, rfl, h3, h4⟩ := hd
  cases rf with
  | false =>
    rw [h3 rfl]
    exact ⟨v, hres w (.refl _ _), hR⟩
  | true =>
    have hR : ∀ w', CalmFrom B w w' → R (.returned v) w' := hR
    have key : ∀ (Ds : List Nat), Ds.Nodup → (∀ D ∈ Ds, B ≤ D) → ∀ w', CalmFrom B w w' → (∀ D ∈ Ds, w'.heap[D]? = some (.deferred (some []))) → LeavesInM (WF none) 0 P fn tmps R (Ds.map (fun D => { target := .collected D, args := #[] })) .returning w' := by
      intro Ds
      induction Ds with
      | nil => intro _ _ w' hc _; exact ⟨v, hres w' hc, hR w' hc⟩
      | cons D r ih =>
        intro hn hB w' hc hall
        have hD := hall D List.mem_cons_self
        refine ⟨by simp, .inl ⟨D, _, rfl, run_takeDeferred hD, ih (List.nodup_cons.1 hn).2 (fun x hx => hB x (List.mem_cons_of_mem _ hx)) _ (hc.trans (.putObj hD rfl (hB D List.mem_cons_self))) fun x hx => ?_⟩⟩
        have hne : x ≠ D := fun e => (List.nodup_cons.1 hn).1 (by rw [← e]; exact hx)
        rw [World.putObj_heap_other hne]; exact hall x (List.mem_cons_of_mem _ hx)
    exact key Ds h1 (fun D hD => (gl D (h4 D hD).1).1) w (.refl _ _) fun D hD => (h4 D hD).2

theorem ret_sound {C : Cfg} {fn : Func} {R : Ending → World → Prop} {e : Ex} {s : SS} {a : Act} {wp w : World} (h : retVC C fn R e s wp) (hS : Sim C s a wp w) : bodyPostM (WF none) 0 C.P fn R e.to a w := by
  have key : ∀ (h : match retPVs C.P s fn.results.toList with
    | some l => match (retSV l).toV s.L with
      | some v => expo C s wp fun w => withLoc s.L w (lfKeysF (retSV l).lfs) (match s.rf with
        | true => ∀ w', CalmFrom C.base w w' → R (.returned v) w'
        | false => R (.returned v) w)
      | none => Unsup "a result"
    | none => retMem C fn.results.toList R s wp), LeavesInM (WF none) 0 C.P fn a.tmps R a.defers .returning w := by
    intro h
    split at h
    · rename_i l hl
      split at h
      · rename_i v hv
        have hR := withLoc_elim hS.w.mem (expo_elim h hS.w)
        refine leaves_of (P := C.P) (fn := fn) (tmps := a.tmps) (v := v) (B := C.base) hS.d ?_ hR
        intro wX hmX
        obtain ⟨vs, hvs, hval⟩ : ∃ vs, pvs s.L l = some vs ∧ (if h : vs.toArray.size = 1 then vs.toArray[0] else .tuple vs.toArray) = v := by
          match l, hv with
          | [], hv => simp [retSV, SV.toV, pvs] at hv; subst hv; exact ⟨[], rfl, rfl⟩
          | [p], hv => exact ⟨[v], by simp only [pvs, show p.toV s.L = some v from hv], by simp⟩
          | p :: q :: r, hv =>
            simp only [retSV, SV.toV] at hv
            split at hv <;> simp at hv
            rename_i us hus
            subst hv
            refine ⟨us, hus, ?_⟩
            have : us.length ≠ 1 := by
              simp only [pvs] at hus
              split at hus <;> simp at hus
              rename_i u1 us1 h1 h2
              split at h2 <;> simp at h2
              subst h2; subst hus; simp
            rw [dif_neg (by simpa using this)]
        have := retPVs_run (P := C.P) hS.sl (fun k e he => by obtain ⟨us, g1, g2⟩ := hS.w.mem k e he; exact ⟨us, g1, hmX.keep _ _ g2 (.inl rfl)⟩) hl hvs
        unfold results
        rw [Array.mapM_eq_mapM_toList]
        simp only [Sem.run_bind, Sem.run_map]
        erw [this]
        simp only [Result.andThen_ok, Sem.run_pure]
        rw [← hval]
      · exact h.elim
    · unfold retMem at h
      split at h
      · rename_i t ty hrs
        split at h
        · rename_i b o hsl
          obtain ⟨v, ⟨⟨x, hx, hxc⟩, hl⟩, hR⟩ := expo_elim h hS.w
          refine leaves_of (P := C.P) (fn := fn) (tmps := a.tmps) (v := v) (B := C.base) hS.d ?_ hR
          intro wX hmX
          have hX := hmX.keep b x hx (.inl hxc)
          have hrun := hl wX (hX.trans hx.symm)
          obtain ⟨u, h1, h2⟩ := hS.sl t (by rw [hsl]; simp)
          rw [hsl] at h1
          simp [SV.toV, PV.toV, Lf.toV] at h1
          subst h1
          have hg : a.tmps.getD t undef = .pointer (some ⟨b, o, none⟩) := by simp [Array.getD_eq_getD_getElem?, h2]
          have hm : Sem.run C.P (([ResultVar.cell t ty]).mapM fun (r : ResultVar) => match r with
              | .tmp t => (pure (a.tmps.getD t undef) : Sem Value)
              | .cell b t => do loadVar t (← asAddr (a.tmps.getD b undef))) wX = .ok [v] wX := by
            simp only [List.mapM_cons, List.mapM_nil, Sem.run_bind, Sem.run_pure, Result.andThen_ok, hg, asAddr, hrun]
          unfold results
          rw [Array.mapM_eq_mapM_toList, hrs]
          simp only [Sem.run_bind, Sem.run_map]
          erw [hm]
          simp only [Result.andThen_ok, Sem.run_pure]
          rfl
        · exact h.elim
      · exact h.elim
  cases e with
  | normal => exact key h
  | ret => exact key h
  | exit i => exact h.elim

theorem argSlots_spec {L : Nat → Option LocE} : ∀ {args : List SV} {vs : List Value} {i d : Nat}, (∀ (k : Nat) (v : SV), args[k]? = some v → ∃ u, v.toV L = some u ∧ vs[k]? = some u) → i ≤ d → d < i + args.length → ∃ v, argSlots args i d = v ∧ args[d - i]? = some v
  | [], vs, i, d, h, h1, h2 => by simp at h2; omega
  | v :: r, vs, i, d, h, h1, h2 => by
    by_cases hd : d = i
    · subst hd; exact ⟨v, by simp [argSlots, upd_same], by simp⟩
    · obtain ⟨u, h3, h4⟩ := argSlots_spec (L := L) (args := r) (vs := vs.drop 1) (i := i + 1) (d := d) (fun k v hk => by
        obtain ⟨u, g1, g2⟩ := h (k + 1) v (by simpa using hk)
        exact ⟨u, g1, by simpa using g2⟩) (by omega) (by simp at h2; omega)
      exact ⟨u, by simp only [argSlots, upd_other _ _ hd, h3], by rw [show d - i = (d - (i + 1)) + 1 by omega]; simpa using h4⟩

def argVals (L : Nat → Option LocE) : List SV → Option (List Value)
  | [] => some []
  | v :: r => match v.toV L, argVals L r with
    | some u, some us => some (u :: us)
    | _, _ => none
theorem argVals_get {L : Nat → Option LocE} : ∀ {args : List SV} {vs : List Value}, argVals L args = some vs → vs.length = args.length ∧ ∀ (k : Nat) (v : SV), args[k]? = some v → ∃ u, v.toV L = some u ∧ vs[k]? = some u
  | [], vs, h => by simp [argVals] at h; subst h; simp
  | a :: r, vs, h => by
    simp only [argVals] at h
    split at h <;> simp at h
    rename_i u us hu hus
    subst h
    obtain ⟨h1, h2⟩ := argVals_get hus
    refine ⟨by simp [h1], fun k v hk => ?_⟩
    cases k with
    | zero => simp at hk; subst hk; exact ⟨u, hu, rfl⟩
    | succ k => simp at hk ⊢; exact h2 k v hk

/-- A CALL OF A FUNCTION: its conditions suffice. -/
theorem calls_of_vcj {P : Program} {f : FuncId} {fn : Func} {c : Code} {pure : Bool} {wrapAt muts esc : List Nat} {joins : List (Nat × List (Nat × TypeId))} {args : List SV} {vs : List Value} {R : Ending → World → Prop} {w : World}
    (hf : P.funcs[f]? = some fn) (hb : fn.body = some c) (ha : argVals (fun _ => none) args = some vs) (hn : Nat.ble args.length fn.ntmps = true) (h : funVCJ P f fn c pure wrapAt muts esc joins args R w) : Calls P f vs.toArray w R := by
  obtain ⟨hl, hget⟩ := argVals_get ha
  have hn := Nat.le_of_ble_eq_true hn
  refine (callsIn_wide (n := 0)).1 (callsIn_of_wp_marks (F := WF none) hf hb trivial (vc_sound (C := { P := P, n := fn.ntmps, base := w.heap.size, w0 := w, pure := pure, wrapAt := wrapAt, muts := muts, esc := esc, joins := joins }) none rfl h (wp := w) ⟨fun d hd => ?_, ?_, ⟨.refl _, fun b hb => hb.elim, fun k e he => (by cases he), fun b hb => hb.elim, fun l hl => (by cases hl), [], .nil, rfl, fun _ => rfl, by simp⟩, WSim.now (fun k e he => (by cases he)) (fun k k' e e' he => (by cases he)) (fun k e he => (by cases he)) (fun _ => Below.refl _ _) (Nat.le_refl _) (fun _ _ => rfl) rfl rfl⟩ fun e s' a' w' wp' hK hS' _ => ret_sound hK hS'))
  · simp only at hd ⊢
    cases hlt : Nat.blt d args.length <;> simp only [hlt, cond_true, cond_false] at hd ⊢
    · cases hlt2 : Nat.blt d fn.ntmps <;> simp only [hlt2, cond_true, cond_false] at hd ⊢
      · exact absurd rfl hd
      · refine ⟨Go.undef, rfl, ?_⟩
        have h1 : ¬ d < args.length := fun h => by rw [show Nat.blt d args.length = true by simpa [Nat.blt_eq] using h] at hlt; cases hlt
        have h2 : d < fn.ntmps := by simpa [Nat.blt_eq] using hlt2
        rw [Array.getElem?_append_right (by simpa [hl] using Nat.le_of_not_lt h1)]
        simp only [List.size_toArray, hl]
        rw [Array.getElem?_replicate, if_pos (by omega)]
    · have h1 : d < args.length := by simpa [Nat.blt_eq] using hlt
      obtain ⟨v, h2, h3⟩ := argSlots_spec (L := fun _ => none) hget (Nat.zero_le d) (by simpa using h1)
      rw [h2]
      obtain ⟨u, h4, h5⟩ := hget d v (by simpa using h3)
      exact ⟨u, h4, by rw [Array.getElem?_append_left (by simpa [hl] using h1)]; simpa using h5⟩
  · simp [hl]; omega

/-- The same, without joins. -/
theorem calls_of_vc {P : Program} {f : FuncId} {fn : Func} {c : Code} {pure : Bool} {wrapAt muts esc : List Nat} {args : List SV} {vs : List Value} {R : Ending → World → Prop} {w : World}
    (hf : P.funcs[f]? = some fn) (hb : fn.body = some c) (ha : argVals (fun _ => none) args = some vs) (hn : Nat.ble args.length fn.ntmps = true) (h : funVC P f fn c pure wrapAt muts esc args R w) : Calls P f vs.toArray w R :=
  calls_of_vcj (joins := []) hf hb ha hn h

end Go.Vc
end
section
/- Small lemmas on worlds, cells and contracts. -/
namespace Go.Vc
open Go.RowKit

/-- What a function that only computes, or makes memory, leaves. -/
def Pure (w : World) (v : Value) (e : Ending) (w' : World) : Prop := e = .returned v ∧ Below w.heap.size w w'

theorem Pure.calls {P : Program} {f : FuncId} {args : Array Value} {w : World} {v : Value} {R : Ending → World → Prop} (h : Calls P f args w (Pure w v)) (k : ∀ w', Below w.heap.size w w' → R (.returned v) w') : Calls P f args w R :=
  h.mono fun e w' he => by obtain ⟨rfl, hb⟩ := he; exact k w' hb

theorem cell_below {B : Nat} {w w' : World} {b o : Nat} {v : Value} (h : Below B w w') (hb : b < B) (hc : w.cell? ⟨b, o, none⟩ = some v) : w'.cell? ⟨b, o, none⟩ = some v := by
  have := h.block b hb
  unfold World.cell? at hc ⊢
  simp only [this]; exact hc

theorem cell_lt {w : World} {b o : Nat} {v : Value} (hc : w.cell? ⟨b, o, none⟩ = some v) : b < w.heap.size := by
  unfold World.cell? at hc
  simp only at hc
  split at hc
  · rename_i h; exact lt_of_some h
  · simp at hc

theorem cell_keep {w w' : World} {b o : Nat} {v : Value} (h : Below w.heap.size w w') (hc : w.cell? ⟨b, o, none⟩ = some v) : w'.cell? ⟨b, o, none⟩ = some v := cell_below h (cell_lt hc) hc

theorem cell_obj {w : World} {b : Nat} {vs : List Value} {T : TypeId} {i : Nat} {v : Value} (h : w.heap[b]? = some (.cells vs.toArray T (0, 0))) (hv : vs[i]? = some v) : w.cell? ⟨b, i, none⟩ = some v := by
  unfold World.cell?
  simp only [h]
  simpa using hv

/-- Some cells, one after another, behind an address. -/
def Cells (w : World) (a : Option Addr) (vs : List Value) : Prop := ∀ i v, vs[i]? = some v → ∃ b o, a = some ⟨b, o, none⟩ ∧ w.cell? ⟨b, o + i, none⟩ = some v

theorem Cells.nil {w : World} {a : Option Addr} : Cells w a [] := fun i v h => by simp at h
theorem Cells.keep {w w' : World} {a : Option Addr} {vs : List Value} (h : Cells w a vs) (hb : Below w.heap.size w w') : Cells w' a vs := fun i v hi => by
  obtain ⟨b, o, e, hc⟩ := h i v hi
  exact ⟨b, o, e, cell_keep hb hc⟩
theorem Cells.at {w : World} {b o : Nat} {vs : List Value} (h : Cells w (some ⟨b, o, none⟩) vs) {i : Nat} {v : Value} (hi : vs[i]? = some v) : w.cell? ⟨b, o + i, none⟩ = some v := by
  obtain ⟨b', o', e, hc⟩ := h i v hi
  simp only [Option.some.injEq, Addr.mk.injEq, and_true] at e
  obtain ⟨rfl, rfl⟩ := e
  exact hc
theorem Cells.obj {w : World} {b : Nat} {vs : List Value} {T : TypeId} (h : w.heap[b]? = some (.cells vs.toArray T (0, 0))) : Cells w (some ⟨b, 0, none⟩) vs := fun i v hi => ⟨b, 0, rfl, by rw [Nat.zero_add]; exact cell_obj h hi⟩

/-- A row of integers. -/
def ints (l : List Int) : List Value := l.map (Value.int .i64)
theorem ints_get {l : List Int} {i : Nat} {x : Int} (h : l[i]? = some x) : (ints l)[i]? = some (.int .i64 x) := by simp [ints, h]

/-- Rows of elements of several cells. -/
theorem flat_get {α : Type} {k : Nat} {f : α → List Value} (hf : ∀ x, (f x).length = k) : ∀ {l : List α} {i j : Nat} {x : α}, l[i]? = some x → j < k → (l.flatMap f)[i * k + j]? = (f x)[j]?
  | [], i, j, x, h, _ => by simp at h
  | y :: r, 0, j, x, h, hj => by
    simp at h; subst h
    simp only [List.flatMap_cons, Nat.zero_mul, Nat.zero_add]
    rw [List.getElem?_append_left (by rw [hf]; exact hj)]
  | y :: r, i + 1, j, x, h, hj => by
    simp at h
    simp only [List.flatMap_cons]
    rw [List.getElem?_append_right (by rw [hf, Nat.add_mul]; omega), hf, show (i + 1) * k + j - k = i * k + j by rw [Nat.add_mul]; omega]
    exact flat_get hf h hj

end Go.Vc

namespace Go.Vc
open Go.RowKit

end Go.Vc

namespace Go.Vc
open Go.RowKit
end Go.Vc
end
section
/- Arguments that read as plain data, opened; and a law's row, shut: nothing that was there has turned. -/
namespace Go.Vc
open Go.RowKit Go.ChangeShapes

inductive Leaf where
  | int (k : IntKind)
  | bool
  | str
  | sl (e : List Leaf)

mutual
/-- What one cell reads as. -/
inductive LeafIs (w : World) : Leaf → Value → Prop
  | int {k : IntKind} {n : Int} (h : rng k n) : LeafIs w (.int k) (.int k n)
  | bool {b : Bool} : LeafIs w .bool (.bool b)
  | str {s : ByteArray} (h : s.size ≤ maxLen) : LeafIs w .str (.string s)
  | sl {es : List Leaf} {a : Option Addr} {n c : Nat} (chunks : List (List Value)) (hn : chunks.length = n) (hc : n ≤ c) (hm : c ≤ maxLen) (cells : Cells w a chunks.flatten) (h : ∀ x, x ∈ chunks → LeavesAre w es x) : LeafIs w (.sl es) (.slice a n c)
inductive LeavesAre (w : World) : List Leaf → List Value → Prop
  | nil : LeavesAre w [] []
  | cons {l : Leaf} {ls : List Leaf} {v : Value} {vs : List Value} (h : LeafIs w l v) (hs : LeavesAre w ls vs) : LeavesAre w (l :: ls) (v :: vs)
end

section
variable {w : World}
theorem LeafIs.int' {k : IntKind} {v : Value} (h : LeafIs w (.int k) v) : ∃ n, v = .int k n ∧ rng k n := by
  cases h with | int h => exact ⟨_, rfl, h⟩
theorem LeavesAre.nil' {vs : List Value} (h : LeavesAre w [] vs) : vs = [] := by
  cases h with | nil => rfl
theorem LeavesAre.cons' {l : Leaf} {ls : List Leaf} {vs : List Value} (h : LeavesAre w (l :: ls) vs) : ∃ v r, vs = v :: r ∧ LeafIs w l v ∧ LeavesAre w ls r := by
  cases h with | cons h hs => exact ⟨_, _, rfl, h, hs⟩
theorem chunks_map {α : Type} {enc : α → List Value} {Q : α → Prop} : ∀ {chunks : List (List Value)}, (∀ x ∈ chunks, ∃ y, x = enc y ∧ Q y) → ∃ l : List α, chunks = l.map enc ∧ ∀ y ∈ l, Q y
  | [], _ => ⟨[], rfl, by simp⟩
  | x :: r, h => by
    obtain ⟨y, rfl, hy⟩ := h x (by simp)
    obtain ⟨l, rfl, hl⟩ := chunks_map (chunks := r) fun z hz => h z (by simp [hz])
    exact ⟨y :: l, rfl, by simpa using ⟨hy, hl⟩⟩
/-- A slice of elements that read. -/
theorem LeafIs.sl' {α : Type} (enc : α → List Value) (Q : α → Prop) {es : List Leaf} (he : ∀ x, LeavesAre w es x → ∃ y, x = enc y ∧ Q y) {v : Value} (h : LeafIs w (.sl es) v) :
    ∃ (a : Option Addr) (c : Nat) (l : List α), v = .slice a l.length c ∧ l.length ≤ c ∧ c ≤ maxLen ∧ Cells w a (l.flatMap enc) ∧ ∀ y ∈ l, Q y := by
  cases h with
  | sl chunks hn hc hm cells h =>
    obtain ⟨l, rfl, hl⟩ := chunks_map (enc := enc) (Q := Q) fun x hx => he x (h x hx)
    subst hn
    refine ⟨_, _, l, by rw [List.length_map], by simpa using hc, hm, ?_, hl⟩
    rw [List.flatMap_def]; exact cells
theorem LeavesAre.append {ls ms : List Leaf} {vs us : List Value} (h : LeavesAre w ls vs) (k : LeavesAre w ms us) : LeavesAre w (ls ++ ms) (vs ++ us) := by
  induction ls generalizing vs with
  | nil => rw [h.nil']; exact k
  | cons l ls ih =>
    obtain ⟨v, r, rfl, h1, h2⟩ := h.cons'
    exact .cons h1 (ih h2)
end

/-- What cells a type has. -/
def repLeaf (z : List Leaf) : Nat → List Leaf
  | 0 => []
  | n + 1 => z ++ repLeaf z n
def leafFields (P : Program) (r : TypeId → Option (List Leaf)) : Nat → List Field → Option (List Leaf)
  | _, [] => some []
  | off, f :: fs => match r f.type, leafFields P r (off + P.cellsOf f.type) fs with
    | some a, some b => bif Nat.beq f.offset off then some (a ++ b) else none
    | _, _ => none
def leaves (P : Program) : Nat → TypeId → Option (List Leaf)
  | 0, _ => none
  | n + 1, t => match P.underlying t with
    | some .bool => some [.bool]
    | some (.int k) => some [.int k]
    | some .string => some [.str]
    | some (.slice e) => match leaves P n e with
      | some es => some [.sl es]
      | none => none
    | some (.struct fs) => bif Nat.beq (P.cellsOf t) (fs.toList.map fun f => P.cellsOf f.type).sum then leafFields P (leaves P n) 0 fs.toList else none
    | some (.array k e) => match leaves P n e with
      | some es => bif Nat.beq (P.cellsOf t) (k * P.cellsOf e) then some (repLeaf es k) else none
      | none => none
    | _ => none

theorem rng_of_wf {k : IntKind} {n : Int} (h : (Lit.int k n).wf = true) : rng k n := by
  simp only [Lit.wf, Bool.and_eq_true, decide_eq_true_eq] at h
  cases k <;> exact h

theorem mapM_all {α β : Type} {f : α → Option β} : ∀ {l : List α} {r : List β}, l.mapM f = some r → ∀ x ∈ l, ∃ y, f x = some y
  | [], _, _, x, hx => by simp at hx
  | a :: l, r, h, x, hx => by
    rw [List.mapM_cons] at h
    simp only [Option.bind_eq_bind, Option.pure_def, Option.bind_eq_some_iff] at h
    obtain ⟨y, hy, ys, hys, _⟩ := h
    rcases List.mem_cons.1 hx with rfl | hx
    · exact ⟨y, hy⟩
    · exact mapM_all hys x hx
section
variable {H : Type} {enc : TypeId × Value → H} {P : Program} {w : World} {base : Nat} {held : Bool} {spare : Nat → Bool}

theorem fields_leaves {rd : TypeId → List Value → Option (DataW H × List MemPlace)} {r : TypeId → Option (List Leaf)} (ih : ∀ t ls cs x, r t = some ls → rd t cs = some x → LeavesAre w ls cs) :
    ∀ {fs : List Field} {off : Nat} {cs : List Value} {ls : List Leaf} {xs : List (DataW H × List MemPlace)}, leafFields P r off fs = some ls → fs.mapM (fun f => rd f.type ((cs.drop f.offset).take (P.cellsOf f.type))) = some xs →
      cs.length = off + (fs.map fun f => P.cellsOf f.type).sum → LeavesAre w ls (cs.drop off)
  | [], off, cs, ls, xs, hl, _, hlen => by
    simp only [leafFields, Option.some.injEq] at hl
    subst hl
    rw [List.drop_eq_nil_of_le (by simp at hlen; omega)]
    exact .nil
  | f :: fs, off, cs, ls, xs, hl, hx, hlen => by
    rw [List.mapM_cons] at hx
    simp only [Option.bind_eq_bind, Option.pure_def, Option.bind_eq_some_iff] at hx
    obtain ⟨y, hy, ys, hys, _⟩ := hx
    simp only [leafFields] at hl
    split at hl
    · rename_i a b ha hb
      by_cases ho : f.offset = off
      · rw [ho, Nat.beq_refl] at hl
        simp only [cond_true, Option.some.injEq] at hl
        subst hl
        rw [ho] at hy
        have h1 := ih _ _ _ _ ha hy
        have h2 := fields_leaves ih (off := off + P.cellsOf f.type) (cs := cs) hb hys (by simp at hlen; omega)
        have := h1.append h2
        rw [← List.drop_drop, List.take_append_drop] at this
        exact this
      · rw [show Nat.beq f.offset off = false from by rw [Bool.eq_false_iff]; exact fun h => ho (Nat.eq_of_beq_eq_true h)] at hl
        cases hl
    · cases hl

theorem array_leaves {rd : List Value → Option (DataW H × List MemPlace)} {es : List Leaf} {sz : Nat} (ih : ∀ cs x, rd cs = some x → LeavesAre w es cs) :
    ∀ {n i : Nat} {cs : List Value}, (∀ j, i ≤ j → j < i + n → ∃ y, rd ((cs.drop (j * sz)).take sz) = some y) → cs.length = (i + n) * sz → LeavesAre w (repLeaf es n) (cs.drop (i * sz))
  | 0, i, cs, _, hlen => by
    rw [List.drop_eq_nil_of_le (by simp at hlen; omega)]
    exact .nil
  | n + 1, i, cs, hx, hlen => by
    obtain ⟨y, hy⟩ := hx i (Nat.le_refl _) (by omega)
    have h1 := ih _ _ hy
    have h2 := array_leaves ih (n := n) (i := i + 1) (cs := cs) (fun j a b => hx j (by omega) (by omega)) (by rw [hlen]; congr 1; omega)
    have := h1.append h2
    rw [Nat.add_mul, Nat.one_mul, ← List.drop_drop, List.take_append_drop] at this
    exact this

theorem cells?_at {a : Addr} {n : Nat} {cs : List Value} (h : w.cells? base a n = some cs) : cs.length = n ∧ ∀ i v, cs[i]? = some v → w.cell? (a.add i) = some v := by
  obtain ⟨_, hl, hc⟩ := World.cells?_some h
  refine ⟨hl, fun i v hv => ?_⟩
  have : i < n := by
    rw [← hl]
    exact (List.getElem?_eq_some_iff.1 hv).1
  rw [← hv]; exact hc i this

theorem rows_at {a : Addr} {k : Nat} : ∀ {chunks : List (List Value)} {i : Nat}, (∀ j x, chunks[j]? = some x → w.cells? base (a.add ((i + j) * k)) k = some x) → ∀ m v, chunks.flatten[m]? = some v → w.cell? (a.add (i * k + m)) = some v
  | [], i, _, m, v, hv => by simp at hv
  | x :: r, i, h, m, v, hv => by
    obtain ⟨hl, hc⟩ := cells?_at (h 0 x rfl)
    have hadd : ∀ p q, (a.add p).add q = a.add (p + q) := fun p q => by
      unfold Addr.add
      by_cases hp : p = 0 <;> by_cases hq : q = 0 <;> simp [hp, hq] <;> omega
    rw [List.flatten_cons] at hv
    by_cases hm : m < k
    · rw [List.getElem?_append_left (by omega)] at hv
      have := hc m v hv
      rw [hadd] at this
      simpa using this
    · rw [List.getElem?_append_right (by omega), hl] at hv
      have := rows_at (chunks := r) (i := i + 1) (a := a) (k := k) (fun j y hy => by
        have := h (j + 1) y (by simpa using hy)
        rw [show i + (j + 1) = i + 1 + j by omega] at this
        exact this) (m - k) v hv
      rw [Nat.add_mul, Nat.one_mul, show i * k + k + (m - k) = i * k + m by omega] at this
      exact this

theorem slice_leaves {rd : List Value → Option (DataW H × List MemPlace)} {es : List Leaf} {a : Addr} {n k : Nat} (ih : ∀ cs x, rd cs = some x → LeavesAre w es cs)
    {xs : List (DataW H × List MemPlace)} (h : (List.range n).mapM (fun i => (w.cells? base (a.add (i * k)) k).bind rd) = some xs) :
    ∃ chunks : List (List Value), chunks.length = n ∧ (∀ x ∈ chunks, LeavesAre w es x) ∧ Cells w (some a) chunks.flatten := by
  have hex : ∀ i : Nat, i < n → ∃ cs, w.cells? base (a.add (i * k)) k = some cs ∧ LeavesAre w es cs := fun i hi => by
    obtain ⟨y, hy⟩ := mapM_all h i (List.mem_range.2 hi)
    obtain ⟨cs, h1, h2⟩ := Option.bind_eq_some_iff.1 hy
    exact ⟨cs, h1, ih _ _ h2⟩
  have key : ∀ m, m ≤ n → ∃ chunks : List (List Value), chunks.length = m ∧ (∀ x ∈ chunks, LeavesAre w es x) ∧ ∀ j x, chunks[j]? = some x → w.cells? base (a.add (j * k)) k = some x := by
    intro m
    induction m with
    | zero => exact fun _ => ⟨[], rfl, by simp, by simp⟩
    | succ m ih' =>
      intro hm
      obtain ⟨ch, h1, h2, h3⟩ := ih' (by omega)
      obtain ⟨cs, g1, g2⟩ := hex m (by omega)
      refine ⟨ch ++ [cs], by simp [h1], fun x hx => ?_, fun j x hx => ?_⟩
      · rcases List.mem_append.1 hx with hx | hx
        · exact h2 x hx
        · rw [List.mem_singleton.1 hx]; exact g2
      · by_cases hj : j < m
        · rw [List.getElem?_append_left (by omega)] at hx
          exact h3 j x hx
        · rw [List.getElem?_append_right (by omega)] at hx
          have : j - ch.length = 0 := by
            have := (List.getElem?_eq_some_iff.1 hx).1
            simp at this; omega
          rw [this] at hx
          obtain rfl := Option.some.inj hx
          rw [show j = m by omega]; exact g1
  obtain ⟨ch, h1, h2, h3⟩ := key n (Nat.le_refl _)
  refine ⟨ch, h1, h2, fun m v hv => ?_⟩
  have := rows_at (chunks := ch) (i := 0) (a := a) (k := k) (fun j x hx => by rw [Nat.zero_add]; exact h3 j x hx) m v hv
  rw [Nat.zero_mul, Nat.zero_add] at this
  obtain ⟨b, o, sp⟩ := a
  have hs := World.cell?_spot this
  obtain rfl : sp = none := by
    unfold Addr.add at hs
    split at hs
    · exact hs
    · rename_i hm
      have h0 : 0 < ch.flatten.length := by
        have := (List.getElem?_eq_some_iff.1 hv).1; omega
      have := rows_at (chunks := ch) (i := 0) (a := ⟨b, o, sp⟩) (k := k) (fun j x hx => by rw [Nat.zero_add]; exact h3 j x hx) 0 _ (List.getElem?_eq_getElem h0)
      rw [Nat.zero_mul, Nat.zero_add] at this
      have hs := World.cell?_spot this
      simpa [Addr.add] using hs
  refine ⟨b, o, rfl, ?_⟩
  have : (⟨b, o, none⟩ : Addr).add m = ⟨b, o + m, none⟩ := by unfold Addr.add; split <;> simp_all
  rw [← this]; assumption

theorem trod_leaves : ∀ (n fuel : Nat) (t : TypeId) (ls : List Leaf) (cs : List Value) (x : DataW H × List MemPlace), leaves P n t = some ls → DataW.trod enc P w base spare held fuel t cs = some x → LeavesAre w ls cs := by
  intro n
  induction n with
  | zero => intro fuel t ls cs x hl; cases hl
  | succ n ih =>
    intro fuel t ls cs x hl hx
    cases fuel with
    | zero => simp [DataW.trod] at hx
    | succ fuel =>
      simp only [leaves] at hl
      split at hl
      · rename_i ht
        obtain rfl := Option.some.inj hl
        simp only [DataW.trod, ht] at hx
        split at hx <;> simp_all
        exact .cons .bool .nil
      · rename_i k ht
        obtain rfl := Option.some.inj hl
        simp only [DataW.trod, ht] at hx
        split at hx <;> try (simp_all; done)
        rename_i k' k2 m he
        simp only [Option.some.injEq, TypeDesc.int.injEq] at he
        subst he
        split at hx
        · rename_i hw
          obtain ⟨rfl, hw⟩ := hw
          exact .cons (.int (rng_of_wf hw)) .nil
        · cases hx
      · rename_i ht
        obtain rfl := Option.some.inj hl
        simp only [DataW.trod, ht] at hx
        split at hx <;> try (simp_all; done)
        split at hx
        · rename_i hs
          exact .cons (.str hs) .nil
        · cases hx
      · rename_i e ht
        split at hl
        · rename_i es he
          obtain rfl := Option.some.inj hl
          simp only [DataW.trod, ht] at hx
          split at hx <;> try (simp_all; done)
          · exact .cons (.sl [] rfl (Nat.le_refl _) (Nat.zero_le _) Cells.nil (by simp)) .nil
          · rename_i e' a len cap heq
            simp only [Option.some.injEq, TypeDesc.slice.injEq] at heq
            subst heq
            split at hx
            · rename_i hb
              obtain ⟨xs, h1, _⟩ := Option.bind_eq_some_iff.1 hx
              obtain ⟨ch, g1, g2, g3⟩ := slice_leaves (fun cs x hx => ih fuel e es cs x he hx) h1
              exact .cons (.sl ch g1 hb.2.1 hb.2.2 g3 g2) .nil
            · cases hx
        · cases hl
      · rename_i fs ht
        by_cases hsz : P.cellsOf t = (fs.toList.map fun f => P.cellsOf f.type).sum
        · rw [hsz, Nat.beq_refl, cond_true] at hl
          unfold DataW.trod at hx
          rw [ht] at hx
          split at hx <;> try (simp_all; done)
          rename_i fs' heq
          simp only [Option.some.injEq, TypeDesc.struct.injEq] at heq
          subst heq
          split at hx
          · rename_i hlen
            obtain ⟨xs, h1, _⟩ := Option.map_eq_some_iff.1 hx
            have := fields_leaves (fun t ls cs x a b => ih fuel t ls cs x a b) hl h1 (by rw [hlen, hsz, Nat.zero_add])
            simpa using this
          · cases hx
        · rw [show Nat.beq (P.cellsOf t) (fs.toList.map fun f => P.cellsOf f.type).sum = false from by rw [Bool.eq_false_iff]; exact fun h => hsz (Nat.eq_of_beq_eq_true h)] at hl
          cases hl
      · rename_i k e ht
        split at hl
        · rename_i es he
          by_cases hsz : P.cellsOf t = k * P.cellsOf e
          · rw [hsz, Nat.beq_refl, cond_true] at hl
            obtain rfl := Option.some.inj hl
            unfold DataW.trod at hx
            rw [ht] at hx
            split at hx <;> try (simp_all; done)
            rename_i k' e' heq
            simp only [Option.some.injEq, TypeDesc.array.injEq] at heq
            obtain ⟨rfl, rfl⟩ := heq
            split at hx
            · rename_i hlen
              obtain ⟨xs, h1, _⟩ := Option.map_eq_some_iff.1 hx
              have := array_leaves (w := w) (es := es) (sz := P.cellsOf e) (fun cs x hx => ih fuel e es cs x he hx) (n := k) (i := 0) (fun j _ hj => mapM_all h1 j (List.mem_range.2 (by omega))) (by rw [hlen, hsz, Nat.zero_add])
              simpa using this
            · cases hx
          · rw [show Nat.beq (P.cellsOf t) (k * P.cellsOf e) = false from by rw [Bool.eq_false_iff]; exact fun h => hsz (Nat.eq_of_beq_eq_true h)] at hl
            cases hl
        · cases hl
      · cases hl

/-- An argument of one cell. -/
theorem open_one {r : Reach} {b0 n : Nat} {t : TypeId} {v : Value} {d : DataW H} {ps : List MemPlace} {l : Leaf} (ha : isAggB P t = false) (hl : leaves P n t = some [l]) (hv : Value.okWide P w r b0 t v) (hd : DataW.Trod enc P w base spare held t v d ps) : LeafIs w l v := by
  obtain ⟨fuel, hd⟩ := hd
  have h := trod_leaves _ _ _ _ _ _ hl hd
  obtain ⟨u, rest, he, hu, hr⟩ := h.cons'
  rw [hr.nil'] at he
  have key : ∀ cs, v ≠ .agg cs := by
    intro cs hc
    subst hc
    unfold isAggB at ha
    unfold Value.okWide at hv
    split at hv
    · rename_i fs ht; rw [ht] at ha; cases ha
    · rename_i m e ht; rw [ht] at ha; cases ha
    · unfold Cell.okWide at hv
      split at hv <;> simp_all [Cell.ok]
  have hv2 : v.cells = #[v] := by
    cases v with
    | agg cs => exact absurd rfl (key cs)
    | _ => rfl
  rw [hv2] at he
  obtain rfl : v = u := by simpa using he
  exact hu
end
end Go.Vc
end
section
/- A law's row: it returns true, and nothing that was there has turned. -/
namespace Go.Vc
open Go.RowKit Go.ChangeShapes

section
variable {H : Type} {enc : TypeId × Value → H} {P : Program} {W W' : World}

theorem below_trodAll (hl : laidOutB P = true) (hb : Below W.heap.size W W') : ∀ {ts : List TypeId} {vs : List Value} {ds : List (DataW H)} {ps : List MemPlace}, (ts.all fun t => P.readableRec t && decide (t < P.types.size)) = true →
    DataW.TrodAll enc P W 0 (fun _ => true) true ts vs ds ps → (∀ x ∈ ps, x.block < W.heap.size) → DataW.TrodAll enc P W' 0 (fun b => decide (b < W.heap.size)) true ts vs ds ps
  | [], vs, ds, ps, _, h, _ => by
    obtain ⟨rfl, rfl, rfl⟩ := trodAll_nil h
    exact trodAll_mk0
  | t :: ts, vs, ds, ps, ht, h, hlt => by
    obtain ⟨v, vs', d, ds', p, q, rfl, rfl, rfl, h1, h2⟩ := trodAll_cons h
    simp only [List.all_cons, Bool.and_eq_true, decide_eq_true_eq] at ht
    refine ⟨p, q, Below.trod hl ht.1.1 ht.1.2 h1 hb fun x hx => hlt x (by simp [hx]), below_trodAll hl hb (ts := ts) ?_ h2 fun x hx => hlt x (by simp [hx]), rfl⟩
    exact ht.2

theorem below_kept (hb : Below W.heap.size W W') (may : MemPlace → Prop) : W.keptBut W' may := by
  refine ⟨hb.os, hb.output, fun i hi => ?_⟩
  rw [hb.block i hi]
  cases h : W.heap[i]? with
  | none => simp
  | some o => cases o <;> simp

theorem law_post {f : Func} {s : ChangeSpec} {args : Array Value} {ds gs : List (DataW H)} {before : List MemPlace} (hl : laidOutB P = true) (hp : (f.params.toList.all fun t => P.readableRec t && decide (t < P.types.size)) = true)
    {tr : TypeId} (hr : f.resultTypes = #[tr]) (htr : P.underlying tr = some .bool) (hv : s.vars = []) (hs : s.fn H ds = { results := [.lit (.bool true)], args := ds })
    (hW : DataW.Whole enc P f.params.toList s.vars false W args.toList ds gs before) (hb : Below W.heap.size W W') : s.post enc P f false true false false W args (.bool true) W' := by
  have hW0 := hW
  have hlt := hW.lt
  obtain ⟨p, q, hA, hV, rfl, _, _⟩ := hW
  rw [hv] at hV
  obtain ⟨rfl, rfl⟩ := trodVars_none hV
  rw [List.append_nil] at hlt
  refine ⟨ds, [], p ++ [], [], p, [], hW0, ?_, ?_, ?_, below_kept hb _, fun h => by cases h⟩
  · rw [List.append_nil, hs, hr]
    exact trodAll_mk1 (shut_bool htr true)
  · rw [List.append_nil, hs]
    exact below_trodAll hl hb hp hA hlt
  · rw [List.append_nil, hs, hv]; rfl
end

theorem law_lift {C : Checked} {os : Os} {H : Type} {enc : TypeId × Value → H} {f : FuncId} {fn : Func} {s : ChangeSpec} {conds : List PathCond}
    (own : ownKnob C.prog.godebug = none) (started : os.Started) (noInit : C.prog.inits.idxOf? f = none) (hfn : C.prog.funcs[f]? = some fn)
    (witness : ∃ (w : World) (tape : Tape) (i : Input), w.os = os ∧ (w.forCall tape i).Shaped C.prog ∧ i.vars = [] ∧ Input.okWide C.prog (w.forCall tape i) .any w.heap.size f i ∧
      s.pre6 enc C.prog fn conds false (w.forCall tape i).memory i.args ∧ Assume.holds {} C.prog (lone (Frame.enter C.prog f i.args .normal) [] (w.forCall tape i)))
    (hl : laidOutB C.prog = true) (hp : (fn.params.toList.all fun t => C.prog.readableRec t && decide (t < C.prog.types.size)) = true)
    (hr : ∃ tr, fn.resultTypes = #[tr] ∧ C.prog.underlying tr = some .bool) (hv : s.vars = [])
    (hs : ∀ ds : List (DataW H), ds.length = fn.params.size → s.fn H ds = { results := [.lit (.bool true)], args := ds })
    (contract : ∀ (W : World) (base : Nat) (args : Array Value) (ds : List (DataW H)) (ps : List MemPlace),
      (∀ (j : Nat) t v, fn.params[j]? = some t → args[j]? = some v → Value.okWide C.prog W .any base t v) →
      DataW.TrodAll enc C.prog W 0 (fun _ => true) true fn.params.toList args.toList ds ps →
      (DataW.weightsEach C.prog fn.params.toList ds).all (· ≤ reachBytes) = true →
      Calls C.prog f args W (Pure W (.bool true))) :
    ReturnsInHanded {} C os f .any (s.pre6 enc C.prog fn conds false) (s.post enc C.prog fn false true false false) := by
  refine returnsInHanded_of_change_shaped own started noInit hfn witness ?_
  intro W base args ds gs before hval hW _ hwt _ _
  have hW0 := hW
  obtain ⟨p, q, hA, hV, rfl, _, _⟩ := hW
  have hV' := hV
  rw [hv] at hV'
  obtain ⟨rfl, rfl⟩ := trodVars_none hV'
  have hvt : s.plain.varTypes C.prog = [] := by
    unfold DataSpec.varTypes ChangeSpec.plain; rw [hv]; rfl
  rw [hvt, List.append_nil, List.append_nil] at hwt
  have hlen : ds.length = fn.params.size := by
    have : ∀ {ts : List TypeId} {vs : List Value} {ds : List (DataW H)} {ps : List MemPlace}, DataW.TrodAll enc C.prog W 0 (fun _ => true) true ts vs ds ps → ds.length = ts.length := by
      intro ts
      induction ts with
      | nil => intro vs ds ps h; obtain ⟨_, rfl, _⟩ := trodAll_nil h; rfl
      | cons t ts ih =>
        intro vs ds ps h
        obtain ⟨v, vs', d, ds', p, q, rfl, rfl, rfl, h1, h2⟩ := trodAll_cons h
        simp [ih h2]
    rw [this hA]; simp
  obtain ⟨tr, hr1, hr2⟩ := hr
  refine (contract W base args ds p hval hA hwt).mono fun e W' he => ?_
  obtain ⟨rfl, hb⟩ := he
  exact ⟨_, rfl, law_post hl hp hr1 hr2 hv (hs ds hlen) hW0 hb⟩
end Go.Vc
end
section
/- Maps whose keys are structs. -/
namespace Go.Vc
open Go.RowKit

structure KeyLaw (P : Program) (kt : TypeId) {K : Type} [DecidableEq K] (enc : K → Value) : Prop where
  st : ∃ fs, P.underlying kt = some (.struct fs)
  chk : ∀ b k w, (Instr.checkKey b 10000 kt (enc k)).run P w = .ok () w
  eq : ∀ k k' w, (Op.equal kt (enc k) (enc k')).run P w = .ok (decide (k = k')) w

/-- A map in memory, as a list of what it holds. -/
def MapIs {K : Type} (w : World) (tm : Nat) (enc : K → Value) (m : List (K × Value)) : Prop := ∃ es clock, w.heap[tm]? = some (.map es clock) ∧ es.toList.map (fun e => (e.key, e.val)) = m.map fun x => (enc x.1, x.2)

section
variable {P : Program} {kt : TypeId} {K : Type} [DecidableEq K] {enc : K → Value} (hk : KeyLaw P kt enc)
include hk

end

/-- Of the blocks that were there only those in S may have changed. -/
structure Chg (S : List Nat) (w w' : World) : Prop where
  os : w'.os = w.os
  tape : w'.tape = w.tape
  output : w'.output = w.output
  size : w.heap.size ≤ w'.heap.size
  keep : ∀ k, k < w.heap.size → k ∉ S → w'.heap[k]? = w.heap[k]?

theorem Chg.of_below {S : List Nat} {w w' : World} (h : Below w.heap.size w w') : Chg S w w' := ⟨h.os, h.tape, h.output, h.size, fun k hk _ => h.block k hk⟩
theorem Chg.refl (S : List Nat) (w : World) : Chg S w w := ⟨rfl, rfl, rfl, Nat.le_refl _, fun _ _ _ => rfl⟩
theorem Chg.trans {S : List Nat} {a b c : World} (h : Chg S a b) (k : Chg S b c) : Chg S a c :=
  ⟨k.os.trans h.os, k.tape.trans h.tape, k.output.trans h.output, Nat.le_trans h.size k.size, fun i hi hn => (k.keep i (Nat.lt_of_lt_of_le hi h.size) hn).trans (h.keep i hi hn)⟩
theorem Chg.mono {S T : List Nat} {a b : World} (h : Chg S a b) (hs : ∀ x ∈ S, x ∈ T ∨ a.heap.size ≤ x) : Chg T a b :=
  ⟨h.os, h.tape, h.output, h.size, fun i hi hn => h.keep i hi fun hm => by rcases hs i hm with h | h; exact hn h; omega⟩
theorem Chg.kept {bs : List Nat} {w w' : World} (h : Kept bs w w') : Chg bs w w' := ⟨h.os, h.tape, h.output, h.size, h.block⟩
theorem Chg.own {pure : Bool} {base : Nat} {bs S : List Nat} {gh : Nat → Prop} {w w' : World} (h : Chg S w w') (hb : ∀ b ∈ bs, b < w.heap.size ∧ b ∉ S) (hg : ∀ b, gh b → b < w.heap.size ∧ b ∉ S) (hp : pure = true → base ≤ w.heap.size ∧ ∀ x ∈ S, base ≤ x) : KeepX pure base bs gh w w' :=
  .own h.os h.tape h.output h.size (fun hpu => ⟨h.os, h.tape, h.output, h.size, fun k hk => h.keep k (by have := (hp hpu).1; omega) fun hm => by have := (hp hpu).2 k hm; omega⟩) (fun b hbm => h.keep b (hb b hbm).1 (hb b hbm).2) (fun b hgb => h.keep b (hg b hgb).1 (hg b hgb).2)
theorem Chg.cell {S : List Nat} {w w' : World} (h : Chg S w w') {b o : Nat} {v : Value} (hb : b ∉ S) (hc : w.cell? ⟨b, o, none⟩ = some v) : w'.cell? ⟨b, o, none⟩ = some v := by
  have := h.keep b (cell_lt hc) hb
  unfold World.cell? at hc ⊢
  simp only [this]; exact hc

end Go.Vc
end
section
/- Rows that a function builds by append. -/
namespace Go.Vc
open Go.RowKit

structure Row (e : TypeId) (size B : Nat) (ns : List Nat) (a : Option Addr) (n c : Nat) (xs : List Value) (w : World) : Prop where
  own : w.ownsRow B e size (.slice a n c) n xs
  ns : ∀ b o, a = some ⟨b, o, none⟩ → b ∉ ns

def elemB (P : Program) (t e : TypeId) (size bytes : Nat) : Bool :=
  (match P.underlying t with
   | some (.slice e') => e' == e
   | _ => false) && (match P.info? e with
   | some i => i.size == size && (i.bytes == bytes && (match i.zero with
     | some z => z.cells.size == size
     | none => false))
   | none => false)

theorem elemB_spec {P : Program} {t e : TypeId} {size bytes : Nat} (h : elemB P t e size bytes = true) : P.underlying t = some (.slice e) ∧ ∃ i z, P.info? e = some i ∧ i.zero = some z ∧ i.size = size ∧ i.bytes = bytes ∧ z.cells.size = size := by
  unfold elemB at h
  simp only [Bool.and_eq_true] at h
  obtain ⟨h1, h2⟩ := h
  constructor
  · split at h1
    · rename_i e' he; rw [he]; simp at h1; rw [h1]
    · cases h1
  · split at h2
    · rename_i i hi
      simp only [Bool.and_eq_true, beq_iff_eq] at h2
      obtain ⟨g1, g2, g3⟩ := h2
      split at g3
      · rename_i z hz; exact ⟨i, z, hi, hz, g1, g2, by simpa using g3⟩
      · cases g3
    · cases h2

section
variable {e : TypeId} {size B : Nat} {ns : List Nat} {a : Option Addr} {n c : Nat} {xs : List Value} {w w' : World}
theorem Row.nil : Row e size B ns none 0 0 [] w := ⟨w.ownsRow_nil B e size, fun _ _ h => by cases h⟩
theorem Row.lt (h : Row e size B ns a n c xs w) : ∀ b o, a = some ⟨b, o, none⟩ → B ≤ b ∧ b < w.heap.size := fun b o ha => h.own.lt b (by rw [ha]; rfl)
theorem Row.cells (h : Row e size B ns a n c xs w) : Cells w a xs := fun i v hi => by
  rcases h.own.2 with ⟨he, hn⟩ | ⟨g, cap, cur, he, _, hg, _, _, _, ht⟩
  · have := h.own.1
    rw [hn, Nat.zero_mul] at this
    rw [List.length_eq_zero_iff.1 this] at hi
    simp at hi
  · simp only [Value.slice.injEq] at he
    obtain ⟨rfl, _⟩ := he
    refine ⟨g, 0, rfl, ?_⟩
    have := h.own.cells (g := g) rfl i v hi
    have hadd : (⟨g, 0, none⟩ : Addr).add i = ⟨g, 0 + i, none⟩ := by unfold Addr.add; split <;> simp_all
    rw [hadd] at this; exact this
theorem Row.len (h : Row e size B ns a n c xs w) : xs.length = n * size := h.own.1
theorem Row.of (h : Row e size B ns a n c xs w) (hb : ∀ b o, a = some ⟨b, o, none⟩ → w'.heap[b]? = w.heap[b]?) : Row e size B ns a n c xs w' := by
  refine ⟨⟨h.own.1, ?_⟩, h.ns⟩
  rcases h.own.2 with hn | ⟨g, cap, cur, he, h1, hg, rest⟩
  · exact .inl hn
  · have : a = some ⟨g, 0, none⟩ := by simp only [Value.slice.injEq] at he; exact he.1
    exact .inr ⟨g, cap, cur, he, h1, (hb g 0 this).trans hg, rest⟩
theorem Row.chg {S : List Nat} (h : Row e size B ns a n c xs w) (hc : Chg S w w') (hs : ∀ x ∈ S, x ∈ ns) : Row e size B ns a n c xs w' :=
  h.of fun b o ha => hc.keep b (h.lt b o ha).2 fun hm => h.ns b o ha (hs b hm)
theorem Row.below (h : Row e size B ns a n c xs w) (hb : Below w.heap.size w w') : Row e size B ns a n c xs w' := h.of fun b o ha => hb.block b (h.lt b o ha).2
theorem Row.calm {B' : Nat} (h : Row e size B ns a n c xs w) (hc : CalmFrom B' w w') : Row e size B ns a n c xs w' := by
  refine ⟨⟨h.own.1, ?_⟩, h.ns⟩
  rcases h.own.2 with hn | ⟨g, cap, cur, he, h1, hg, rest⟩
  · exact .inl hn
  · exact .inr ⟨g, cap, cur, he, h1, hc.keep _ _ hg (.inl rfl), rest⟩
theorem Row.grow (h : Row e size B ns a n c xs w) {ms : List Nat} (hm : ∀ m ∈ ms, w.heap.size ≤ m) : Row e size B (ms ++ ns) a n c xs w := ⟨h.own, fun b o ha hb => by
  rcases List.mem_append.1 hb with hb | hb
  · have := hm b hb; have := (h.lt b o ha).2; omega
  · exact h.ns b o ha hb⟩
theorem Row.less {ns' : List Nat} (h : Row e size B ns a n c xs w) (hn : ∀ x ∈ ns', x ∈ ns) : Row e size B ns' a n c xs w := ⟨h.own, fun b o ha hb => h.ns b o ha (hn b hb)⟩
theorem Row.base {B' : Nat} (h : Row e size B ns a n c xs w) (hB : B' ≤ B) : Row e size B' ns a n c xs w := by
  refine ⟨⟨h.own.1, ?_⟩, h.ns⟩
  rcases h.own.2 with hn | ⟨g, cap, cur, he, h1, rest⟩
  · exact .inl hn
  · exact .inr ⟨g, cap, cur, he, by omega, rest⟩

theorem maxLen_big : 140737488355328 ≤ maxLen := by decide

theorem append_row {P : Program} {t ty : TypeId} {bytes : Nat} (hE : elemB P t e size bytes = true) (hsz : 0 < size) (h : Row e size B ns a n c xs w) {b o m cc : Nat} {news : List Value} (hc : Cells w (some ⟨b, o, none⟩) news)
    (hl : news.length = m * size) (h1 : ∀ u ∈ news, u.oneCell' = true) (hn1 : n + m ≤ 140737488355328) (hn : (n + m) * bytes ≤ 140737488355328) (hB : B ≤ w.heap.size) (hns : ∀ x ∈ ns, x < w.heap.size) {R : Value → World → Prop}
    (hR : ∀ a' c' w', Row e size B ns a' (n + m) c' (xs ++ news) w' → ∀ S, Chg S w w' → (∀ s ∈ S, B ≤ s ∧ s ∉ ns) → R (.slice a' (n + m) c') w') :
    RunsTo P (Builtin.append_ #[t, t] ty #[.slice a n c, .slice (some ⟨b, o, none⟩) m cc]) w R := by
  obtain ⟨ht, i, z, hi, hz, hs, hby, hzs⟩ := elemB_spec hE
  have hadd : ∀ j, (⟨b, o, none⟩ : Addr).add j = ⟨b, o + j, none⟩ := fun j => by unfold Addr.add; split <;> simp_all
  have hm63 : n + m ≤ maxLen := Nat.le_trans hn1 maxLen_big
  have hcells : ∀ j u, news[j]? = some u → w.cell? ((⟨b, o, none⟩ : Addr).add j) = some u := fun j u hu => by rw [hadd]; exact hc.at hu
  -- what the run gives
  have fin : ∀ B', B ≤ B' → ∀ v' w', (Builtin.append_ #[t, t] ty #[.slice a n c, .slice (some ⟨b, o, none⟩) m cc]).run P w = .ok v' w' → w'.ownsRow B' e size v' (n + m) (xs ++ news) → w.grownBy w' (Value.slice a n c).ownBlock →
      (∀ g, v'.ownBlock = some g → g ∉ ns) → RunsTo P (Builtin.append_ #[t, t] ty #[.slice a n c, .slice (some ⟨b, o, none⟩) m cc]) w R := by
    intro B' hBB v' w' hr ho hg hblk
    have hv : ∃ a' c', v' = .slice a' (n + m) c' ∧ ∀ b o, a' = some ⟨b, o, none⟩ → b ∉ ns := by
      rcases ho.2 with ⟨rfl, h0⟩ | ⟨g, cap, cur, rfl, _⟩
      · exact ⟨none, 0, by rw [h0], fun _ _ h => by cases h⟩
      · exact ⟨_, _, rfl, fun b o he => by
          simp only [Option.some.injEq, Addr.mk.injEq, and_true] at he
          obtain ⟨rfl, _⟩ := he
          exact hblk _ rfl⟩
    obtain ⟨a', c', rfl, hns'⟩ := hv
    have hrow : Row e size B ns a' (n + m) c' (xs ++ news) w' := Row.base (B := B') ⟨ho, hns'⟩ hBB
    cases a with
    | none => exact ⟨_, w', hr, hR a' c' w' hrow [] ⟨hg.os, hg.tape, hg.output, hg.size, fun k hk _ => hg.block k hk (by simp [Value.ownBlock])⟩ (by simp)⟩
    | some ad =>
      refine ⟨_, w', hr, hR a' c' w' hrow [ad.block] ⟨hg.os, hg.tape, hg.output, hg.size, fun k hk hn => hg.block k hk fun e => hn ?_⟩ fun s hs => ?_⟩
      · simp only [Value.ownBlock, Option.some.injEq] at e; simp [e]
      · simp only [List.mem_singleton] at hs
        subst hs
        refine ⟨(h.own.lt ad.block rfl).1, ?_⟩
        rcases h.own.2 with ⟨he, _⟩ | ⟨g', cap, cur, he, _⟩
        · cases he
        · simp only [Value.slice.injEq, Option.some.injEq] at he
          exact h.ns ad.block 0 (by rw [he.1])
  rcases h.own.2 with ⟨he, h0⟩ | ⟨g, cap, cur, he, _⟩
  · simp only [Value.slice.injEq] at he
    obtain ⟨rfl, rfl, rfl⟩ := he
    have hxs : xs = [] := by
      have := h.own.1
      rw [Nat.zero_mul] at this
      exact List.length_eq_zero_iff.1 this
    subst hxs
    obtain ⟨v', w', hr, ho, hg, _⟩ := run_append_own (P := P) w w.heap.size t ty e i z size bytes ht hi hz hs hby hzs hsz _ 0 [] (w.ownsRow_nil _ e size) ⟨b, o, none⟩ m cc news hl hcells h1 hm63 hn (Nat.le_refl _)
    exact fin _ hB v' w' hr ho hg fun g hg' hm' => by
      have := (ho.lt g hg').1; have := hns g hm'; omega
  · simp only [Value.slice.injEq] at he
    obtain ⟨rfl, _, rfl⟩ := he
    obtain ⟨v', w', hr, ho, hg, _⟩ := run_append_own (P := P) w B t ty e i z size bytes ht hi hz hs hby hzs hsz _ n xs h.own ⟨b, o, none⟩ m cc news hl hcells h1 hm63 hn hB
    refine fin B (Nat.le_refl _) v' w' hr ho hg fun g' hg' hm' => ?_
    by_cases hroom : n + m ≤ c
    · obtain ⟨w2, hr2, _⟩ := run_append_fits (P := P) w B t ty e i size ht hi hs g n c xs h.own ⟨b, o, none⟩ m cc news hl hcells h1 hroom
      rw [hr2] at hr
      injection hr with hr1
      subst hr1
      simp only [Value.ownBlock, Option.some.injEq] at hg'
      exact h.ns g 0 rfl (hg' ▸ hm')
    · have hr2 := run_append_grow (P := P) w t ty e i z ht hi hz ⟨g, 0, none⟩ n c xs (by rw [hs]; exact h.own.1) (h.own.cells (g := g) rfl) ⟨b, o, none⟩ m cc news (by rw [hs]; exact hl) hcells (by omega) (by omega) (growslice_fits (by omega) (by rw [hby]; exact hn))
      rw [hr2] at hr
      injection hr with hr1
      subst hr1
      simp only [Value.ownBlock, Option.some.injEq] at hg'
      have := hns g' hm'
      omega

theorem alloc_below {w : World} {o : Obj} : Below w.heap.size w (w.drew.alloc o) := ⟨rfl, rfl, rfl, by show w.heap.size ≤ (w.heap.push o).size; simp, fun k hk => heap_alloc_old w.drew o (r := k) hk⟩

/-- A copy by append to an empty slice. -/
theorem append_copy {P : Program} {t ty : TypeId} {bytes : Nat} (hE : elemB P t e size bytes = true) (hsz : 0 < size) {b0 c n : Nat} {a : Option Addr} {news : List Value} (hc : Cells w a news)
    (hl : news.length = n * size) (hn1 : n ≤ 140737488355328) (hn : n * bytes ≤ 140737488355328) {R : Value → World → Prop}
    (hR : ∀ a' c' w', Below w.heap.size w w' → Cells w' a' news → (news = [] ∨ ∀ b o, a' = some ⟨b, o, none⟩ → w.heap.size ≤ b) → (∃ b o, a' = some ⟨b, o, none⟩) → (n = 0 ∨ Row e size w.heap.size [] a' n c' news w') → R (.slice a' n c') w') :
    RunsTo P (Builtin.append_ #[t, t] ty #[.slice (some ⟨b0, 0, none⟩) 0 0, .slice a n c]) w R := by
  obtain ⟨ht, i, z, hi, hz, hs, hby, hzs⟩ := elemB_spec hE
  by_cases h0 : n = 0
  · subst h0
    have hnil : news = [] := List.length_eq_zero_iff.1 (by rw [hl, Nat.zero_mul])
    subst hnil
    refine ⟨.slice (some ⟨b0, 0, none⟩) 0 0, w, ?_, hR _ _ w (.refl _ _) (Cells.nil) (.inl rfl) ⟨_, _, rfl⟩ (.inl rfl)⟩
    cases a with
    | none => simp [Builtin.append_, run_underlying ht, sizeOf, typeInfo, hi, Builtin.lenOf, run_firstCells_none, storeCells]
    | some ad =>
      have hf := run_firstCells_some (P := P) w i.size 0 ad 0 c [] (by simp) (by simp)
      simp [Builtin.append_, run_underlying ht, sizeOf, typeInfo, hi, Builtin.lenOf, hf, storeCells]
  · have hpos : 0 < news.length := by rw [hl]; exact Nat.mul_pos (by omega) hsz
    obtain ⟨b, o, rfl, _⟩ := hc 0 _ (List.getElem?_eq_getElem hpos)
    have hadd : ∀ j, (⟨b, o, none⟩ : Addr).add j = ⟨b, o + j, none⟩ := fun j => by unfold Addr.add; split <;> simp_all
    have hr := run_append_grow (P := P) w t ty e i z ht hi hz ⟨b0, 0, none⟩ 0 0 [] (by simp) (by simp) ⟨b, o, none⟩ n c news (by rw [hs]; exact hl) (fun j u hu => by rw [hadd]; exact hc.at hu) (by omega) (by omega)
      (growslice_fits (by omega) (by rw [Nat.zero_add, hby]; exact hn))
    simp only [Nat.zero_add] at hr
    refine ⟨_, _, hr, hR _ _ _ alloc_below (fun j v hj => ⟨w.heap.size, 0, rfl, ?_⟩) (.inr fun b o e => by simp only [Option.some.injEq, Addr.mk.injEq, and_true] at e; omega) ⟨_, _, rfl⟩ (.inr ⟨⟨hl, .inr ⟨w.heap.size, _, _, rfl, Nat.le_refl _, heap_alloc_new w.drew _, grownCap_ge w n 0 e, grownCap_le_maxLen w n 0 e (Nat.le_trans hn1 maxLen_big), ?_, ?_⟩⟩, by simp⟩)⟩
    rotate_left
    · have hge := grownCap_ge w n 0 e
      simp only [Array.size_append, List.size_toArray, size_zeroCells, hzs, hl, List.length_nil, Nat.zero_add, ← Nat.add_mul]
      congr 1
      omega
    · rw [← hl]
      simp only [Array.toList_append, List.nil_append]
      exact List.take_left
    have hlt := (List.getElem?_eq_some_iff.1 hj).1
    have hh : (w.drew.alloc (.cells (([] : List Value).toArray ++ news.toArray ++ Builtin.zeroCells z.cells (grownCap w n 0 e - n)) e)).heap[w.heap.size]? = some (.cells (([] : List Value).toArray ++ news.toArray ++ Builtin.zeroCells z.cells (grownCap w n 0 e - n)) e (0, 0)) := heap_alloc_new w.drew _
    unfold World.cell?
    simp only [hh, Nat.zero_add]
    rw [Array.getElem?_append_left (by simpa using hlt), Array.getElem?_append_right (by simp)]
    simpa using hj

end

/-- A row that began as an empty literal. -/
def RowE (e : TypeId) (size B : Nat) (ns : List Nat) (a : Option Addr) (n c : Nat) (xs : List Value) (w : World) : Prop :=
  ((∃ b0, a = some ⟨b0, 0, none⟩) ∧ n = 0 ∧ c = 0 ∧ xs = []) ∨ Row e size B ns a n c xs w
section
variable {e : TypeId} {size B : Nat} {ns : List Nat} {a : Option Addr} {n c : Nat} {xs : List Value} {w w' : World}
theorem RowE.lit {b0 : Nat} : RowE e size B ns (some ⟨b0, 0, none⟩) 0 0 [] w := .inl ⟨⟨b0, rfl⟩, rfl, rfl, rfl⟩
theorem RowE.chg {S : List Nat} (h : RowE e size B ns a n c xs w) (hc : Chg S w w') (hs : ∀ x ∈ S, x ∈ ns) : RowE e size B ns a n c xs w' := h.imp id fun h => h.chg hc hs
theorem RowE.grow (h : RowE e size B ns a n c xs w) {ms : List Nat} (hm : ∀ m ∈ ms, w.heap.size ≤ m) : RowE e size B (ms ++ ns) a n c xs w := h.imp id fun h => h.grow hm
theorem RowE.less {ns' : List Nat} (h : RowE e size B ns a n c xs w) (hn : ∀ x ∈ ns', x ∈ ns) : RowE e size B ns' a n c xs w := h.imp id fun h => h.less hn
theorem RowE.cells (h : RowE e size B ns a n c xs w) : Cells w a xs := by
  rcases h with ⟨_, _, _, rfl⟩ | h
  · exact Cells.nil
  · exact h.cells
theorem append_rowE {P : Program} {t ty : TypeId} {bytes : Nat} (hE : elemB P t e size bytes = true) (hsz : 0 < size) (h : RowE e size B ns a n c xs w) {b o m cc : Nat} {news : List Value} (hc : Cells w (some ⟨b, o, none⟩) news)
    (hl : news.length = m * size) (h1 : ∀ u ∈ news, u.oneCell' = true) (hn1 : n + m ≤ 140737488355328) (hn : (n + m) * bytes ≤ 140737488355328) (hB : B ≤ w.heap.size) (hns : ∀ x ∈ ns, x < w.heap.size) (hm : 0 < m) {R : Value → World → Prop}
    (hR : ∀ a' c' w', Row e size B ns a' (n + m) c' (xs ++ news) w' → ∀ S, Chg S w w' → (∀ s ∈ S, B ≤ s ∧ s ∉ ns) → R (.slice a' (n + m) c') w') :
    RunsTo P (Builtin.append_ #[t, t] ty #[.slice a n c, .slice (some ⟨b, o, none⟩) m cc]) w R := by
  rcases h with ⟨⟨b0, rfl⟩, rfl, rfl, rfl⟩ | h
  · refine append_copy hE hsz hc hl (by omega) (by rw [Nat.zero_add] at hn; exact hn) fun a' c' w' hb _ _ _ hrow => ?_
    rcases hrow with h0 | hrow
    · omega
    · have hrow' : Row e size B ns a' m c' news w' := Row.base (B := w.heap.size) ⟨hrow.own, fun b o ha hmem => by have := hns b hmem; have := (hrow.lt b o ha).1; omega⟩ hB
      have := hR a' c' w' (by rw [Nat.zero_add, List.nil_append]; exact hrow') [] (Chg.of_below hb) (by simp)
      rw [Nat.zero_add] at this
      exact this
  · exact append_row hE hsz h hc hl h1 hn1 hn hB hns hR
end
end Go.Vc
end
section
/- Where slices lie: in none of the call's own variables, and between which blocks. -/
namespace Go.Vc
open Go.RowKit

/-- What a slice holds; its block is none of bs, and lies from lo on, below hi. -/
def Lies (bs : List Nat) (lo hi : Nat) (w : World) (a : Option Addr) (vs : List Value) : Prop :=
  ∀ i v, vs[i]? = some v → ∃ b o, a = some ⟨b, o, none⟩ ∧ (b ∉ bs ∧ lo ≤ b ∧ b < hi) ∧ w.cell? ⟨b, o + i, none⟩ = some v
/-- The blocks below n, but for bs, are as they were. -/
def LowK (n : Nat) (bs : List Nat) (w w' : World) : Prop := ∀ k, k < n → k ∉ bs → w'.heap[k]? = w.heap[k]?

theorem KeptIn.chg {w w' : World} {rs : List (Nat × Nat)} {bs : List Nat} (hk : KeptIn ((0, w.heap.size) :: rs) bs w w') : Chg bs w w' :=
  ⟨hk.os, hk.tape, hk.output, hk.size, fun k h hn => hk.block k h hn ⟨_, List.mem_cons_self, Nat.zero_le _, h⟩⟩
theorem cell_at' {w : World} {b k : Nat} {v : Value} (h : w.cell? ⟨b, k, none⟩ = some v) {j : Nat} (hj : j = k) : w.cell? ⟨b, j, none⟩ = some v := by rw [hj]; exact h
section
variable {bs : List Nat} {lo hi n : Nat} {w w' : World} {a : Option Addr} {vs : List Value}
theorem Lies.cells (h : Lies bs lo hi w a vs) : Cells w a vs := fun i v hi => by obtain ⟨b, o, e, _, hc⟩ := h i v hi; exact ⟨b, o, e, hc⟩
theorem Lies.new (h : Cells w a vs) (hn : vs = [] ∨ ∀ b o, a = some ⟨b, o, none⟩ → n ≤ b) (hb : ∀ x ∈ bs, x < n) : Lies bs n w.heap.size w a vs := fun i v hi => by
  obtain ⟨b, o, e, hc⟩ := h i v hi
  rcases hn with rfl | hn
  · simp at hi
  · have := hn b o e
    exact ⟨b, o, e, ⟨fun hm => by have := hb b hm; omega, this, cell_lt hc⟩, hc⟩
theorem Lies.chg (h : Lies bs lo hi w a vs) (hc : Chg bs w w') : Lies bs lo hi w' a vs := fun i v hv => by
  obtain ⟨b, o, e, hb, hv⟩ := h i v hv; exact ⟨b, o, e, hb, hc.cell hb.1 hv⟩
theorem Lies.below (h : Lies bs lo hi w a vs) (hb : Below w.heap.size w w') : Lies bs lo hi w' a vs := h.chg (Chg.of_below hb)
theorem Lies.kin (h : Lies bs lo hi w a vs) {rs : List (Nat × Nat)} (hk : KeptIn rs bs w w') (hin : ∃ r ∈ rs, r.1 ≤ lo ∧ hi ≤ r.2) : Lies bs lo hi w' a vs := fun i v hv => by
  obtain ⟨b, o, e, ⟨h1, h2, h3⟩, hc⟩ := h i v hv
  refine ⟨b, o, e, ⟨h1, h2, h3⟩, ?_⟩
  obtain ⟨r, hr1, hr2, hr3⟩ := hin
  have := hk.block b (cell_lt hc) h1 ⟨r, hr1, by omega, by omega⟩
  unfold World.cell? at hc ⊢
  simp only [this]; exact hc
theorem Lies.to {lo' hi' : Nat} (h : Lies bs lo hi w a vs) (h1 : lo' ≤ lo) (h2 : hi ≤ hi') : Lies bs lo' hi' w a vs := fun i v hv => by
  obtain ⟨b, o, e, ⟨g1, g2, g3⟩, hc⟩ := h i v hv
  exact ⟨b, o, e, ⟨g1, by omega, by omega⟩, hc⟩
theorem Lies.push (h : Lies bs lo hi w a vs) {m : Nat} (hm : m < lo ∨ hi ≤ m) : Lies (m :: bs) lo hi w a vs := fun i v hv => by
  obtain ⟨b, o, e, ⟨g1, g2, g3⟩, hc⟩ := h i v hv
  exact ⟨b, o, e, ⟨fun hx => by
    rcases List.mem_cons.1 hx with rfl | hx
    · omega
    · exact g1 hx, g2, g3⟩, hc⟩
theorem Lies.sub {cs : List Nat} (h : Lies bs lo hi w a vs) (hs : ∀ x ∈ cs, x ∈ bs) : Lies cs lo hi w a vs := fun i v hv => by
  obtain ⟨b, o, e, ⟨g1, g2, g3⟩, hc⟩ := h i v hv
  exact ⟨b, o, e, ⟨fun hx => g1 (hs b hx), g2, g3⟩, hc⟩
theorem Lies.out (h : Lies bs lo hi w a vs) {S : List Nat} (hc : Chg S w w') (hs : ∀ x ∈ S, x < lo ∨ hi ≤ x) : Lies bs lo hi w' a vs := fun i v hv => by
  obtain ⟨b, o, e, ⟨g1, g2, g3⟩, hcc⟩ := h i v hv
  exact ⟨b, o, e, ⟨g1, g2, g3⟩, hc.cell (fun hm => by have := hs b hm; omega) hcc⟩
/-- What was there when the function began. -/
theorem Lies.arg {u : World} (h : Cells u a vs) (hb : Below u.heap.size u w) (hs : ∀ x ∈ bs, u.heap.size ≤ x) : Lies bs 0 u.heap.size w a vs := fun i v hv => by
  obtain ⟨b, o, e, hc⟩ := h i v hv
  exact ⟨b, o, e, ⟨fun hx => by have := hs b hx; have := cell_lt hc; omega, Nat.zero_le _, cell_lt hc⟩, cell_keep hb hc⟩
end
end Go.Vc
end
section
/- Rows that are written. -/
namespace Go.Vc
open Go.RowKit

/-- A row, or nothing. -/
def RowZ (e : TypeId) (size B : Nat) (ns : List Nat) (a : Option Addr) (n c : Nat) (xs : List Value) (w : World) : Prop := (n = 0 ∧ xs = []) ∨ Row e size B ns a n c xs w
section
variable {e : TypeId} {size B : Nat} {ns : List Nat} {a : Option Addr} {n c : Nat} {xs : List Value} {w w' : World}
/-- A row's block has the type of its elements. -/
theorem Row.type (h : Row e size B ns a n c xs w) {b o : Nat} (ha : a = some ⟨b, o, none⟩) : ∃ cs, w.heap[b]? = some (.cells cs e (0, 0)) := by
  rcases h.own.2 with ⟨he, _⟩ | ⟨g, cap, cur, he, _, hg, _⟩
  · rw [ha] at he; cases he
  · rw [ha] at he
    simp only [Value.slice.injEq, Option.some.injEq, Addr.mk.injEq, and_true] at he
    rw [he.1.1]; exact ⟨cur, hg⟩
end

/-- Some cells of an object are written. -/
theorem obj_store {P : Program} {t T : TypeId} {w : World} {b off : Nat} {cs vs : List Value} (h : w.heap[b]? = some (.cells cs.toArray T (0, 0))) (hT : P.cellsOf t = vs.length) (hh : hasT P t = true) (ho : off + vs.length ≤ cs.length) {v : Value} (hv : v.cells = vs.toArray) (h1 : ∀ u ∈ vs, OneV u) {R : Value → World → Prop}
    (hR : ∀ w', w'.heap[b]? = some (.cells (cs.take off ++ vs ++ cs.drop (off + vs.length)).toArray T (0, 0)) → Chg [b] w w' → R (.tuple #[]) w') : RunsTo P ((Instr.storeAt t (.pointer (some ⟨b, off, none⟩)) v) >>= fun _ => pure (Value.tuple #[])) w R := by
  obtain ⟨dd, hd⟩ := hasT_spec hh
  obtain ⟨w', hr, S⟩ := run_storeCells (P := P) vs 0 off w _ h (by simp; omega) (by simpa using h1)
  refine ⟨.tuple #[], w', ?_, hR w' ?_ ⟨S.os, S.tape, S.output, Nat.le_of_eq S.size.symm, fun j _ hj => S.other j (by simpa using hj)⟩⟩
  · simp only [Instr.storeAt, Instr.sureAddr, storeVar, Sem.run_bind, Sem.run_pure, cellsOf_run hd, Result.andThen_ok, hv, hT]
    simp [hr]
  · obtain ⟨cs', q1, q2, q3⟩ := S.here _ h
    rw [q1]
    congr 2
    apply Array.ext'
    apply List.ext_getElem?
    intro j
    rw [Array.getElem?_toList, q3 j]
    by_cases hj1 : j < off
    · rw [if_neg (by omega), List.append_assoc, List.getElem?_append_left (by simp; omega), List.getElem?_take, if_pos hj1]; simp
    · by_cases hj2 : j < off + vs.length
      · rw [if_pos (by omega), List.append_assoc, List.getElem?_append_right (by simp; omega), List.getElem?_append_left (by simp; omega)]
        simp only [List.length_take]
        rw [show min off cs.length = off by omega]; simp
      · rw [if_neg (by omega), List.getElem?_append_right (by simp; omega), List.getElem?_drop]
        simp only [List.length_append, List.length_take]
        rw [show off + vs.length + (j - (min off cs.length + vs.length)) = j by omega]; simp
end Go.Vc
end
section
/- What lies in memory, carried along a walk. -/
namespace Go.Vc
open Go.RowKit

end Go.Vc
end
section
/- Rows whose elements hold rows: each inner row lies in a block that the outer one never is. -/
namespace Go.Vc
open Go.RowKit

structure Nest (α : Type) where
  e : Nat
  size : Nat
  pos : 0 < size
  cells : Option Addr → Nat → α → List Value
  len : ∀ a c x, (cells a c x).length = size
  sub : α → List Value

def SubIn (bs : List Nat) (w : World) (a : Option Addr) (vs : List Value) : Prop := ∀ i v, vs[i]? = some v → ∃ b o, a = some ⟨b, o, none⟩ ∧ b ∈ bs ∧ w.cell? ⟨b, o + i, none⟩ = some v
def rowOf {α : Type} (N : Nest α) (xs : List ((Option Addr × Nat) × α)) : List Value := xs.flatMap fun x => N.cells x.1.1 x.1.2 x.2
structure NRow {α : Type} (N : Nest α) (B : Nat) (own : List Nat) (a : Option Addr) (n c : Nat) (ps : List α) (qs : List (Option Addr × α)) (w : World) : Prop where
  ex : ∃ (xs : List ((Option Addr × Nat) × α)) (bs : List Nat), xs.map (·.2) = ps ∧ n = ps.length ∧ (∀ b ∈ bs, B ≤ b ∧ b < w.heap.size ∧ b ∉ own) ∧ RowE N.e N.size B (own ++ bs) a n c (rowOf N xs) w ∧
    (∀ x ∈ xs, SubIn bs w x.1.1 (N.sub x.2)) ∧ ∀ q ∈ qs, SubIn bs w q.1 (N.sub q.2)

section
variable {α : Type} {N : Nest α} {B n c : Nat} {own : List Nat} {a : Option Addr} {ps : List α} {qs : List (Option Addr × α)} {w w' : World}
end
section
variable {e : TypeId} {size B n c : Nat} {a : Option Addr} {xs : List Value} {w : World}
end
end Go.Vc
end
