/-
  What the reference's Valid, in and Large answer; what Satisfied of both sides answers.
-/
import Derived.Test.YtoemcdkopnclbaaULTable
import Derived.Test.YtoemcdkopnclbaaULNet
import Derived.Test.YtoemcdkopnclbaaUAx8
import Derived.Test.YtoemcdkopnclbaaUAx15
import Derived.Test.YtoemcdkopnclbaaUAx21
namespace Go.Proofs.Ytoemcdkopnclbaa.A
open Go.RowKit Go.Proofs.YtoemcdkopnclbaaW.PrintWords Go.Proofs.YtoemcdkopnclbaaW.PrintLast Go.Proofs.YtoemcdkopnclbaaW.PrintMore
set_option linter.unusedVariables false
set_option linter.unusedSimpArgs false
theorem Ev.stepB {α β : Type} {g : Nat → Option β} {p : Nat → Option α} {f : Nat → Option β} {a : α} {r : β} (hp : Ev p a) (h : ∀ k, p k = some a → g (k + 1) = f k) (e : Ev f r) : Ev g r := by
 obtain ⟨K1, h1⟩ := hp
 obtain ⟨K2, h2⟩ := e
 refine ⟨K1 + K2 + 1, fun k hk => ?_⟩
 obtain ⟨m, rfl⟩ : ∃ m, k = m + 1 := ⟨k - 1, by omega⟩
 rw [h m (h1 m (by omega))]
 exact h2 m (by omega)
theorem rd51 (c : List S51) (i : Nat) (h : i < c.length) : rd_T51 c (i : Int) = c[i] := by
 simp [rd_T51, List.getD_eq_getElem?_getD, List.getElem?_eq_getElem h]
theorem rd23 (c : List S23) (i : Nat) (h : i < c.length) : rd_T23 c (i : Int) = c[i] := by
 simp [rd_T23, List.getD_eq_getElem?_getD, List.getElem?_eq_getElem h]
theorem in_l0 (l : List Int) (a : Int) (hl : l.length < 1000000) : ∀ d i, i + d = l.length → Ev (fun k => bitemporalref02_in.l0 k l a (i : Int)) (decide (a ∈ l.drop i))
 | 0, i, hi => by
  rw [List.drop_eq_nil_of_le (by omega), decide_eq_false (by simp)]
  refine Ev.step (f := fun _ => some false) (fun k => ?_) (Ev.now _)
  rw [bitemporalref02_in.l0, if_neg (by omega)]
 | d + 1, i, hi => by
  have hlt : i < l.length := by omega
  have ih := in_l0 l a hl d (i + 1) (by omega)
  rw [List.drop_eq_getElem_cons hlt]
  by_cases e : l[i] = a
  ·rw [decide_eq_true (by rw [e]; simp)]
   refine Ev.step (f := fun _ => some true) (fun k => ?_) (Ev.now _)
   rw [bitemporalref02_in.l0, if_pos (by omega), if_pos (by omega), rd_at l i hlt, if_pos e]
  ·have h2 : decide (a ∈ l[i] :: l.drop (i + 1)) = decide (a ∈ l.drop (i + 1)) := by
    rw [decide_eq_decide, List.mem_cons]
    exact ⟨fun h => h.resolve_left (fun x => e x.symm), Or.inr⟩
   rw [h2]
   refine Ev.step (fun k => ?_) ih
   rw [bitemporalref02_in.l0, if_pos (by omega), if_pos (by omega), rd_at l i hlt, if_neg e, w64 i (by omega)]
theorem in_ev (l : List Int) (a : Int) (hl : l.length < 1000000) : Ev (fun k => bitemporalref02_in.f k l a) (decide (a ∈ l)) := in_l0 l a hl l.length 0 (by omega)
def cB (n : Nat) (s : S51) : Bool := decide (cOk n s)
theorem vl1 (n : Nat) (c : List S51) (hc : c.length < 1000000) (hl : ∀ s ∈ c, s.f2.length < 1000000) (i : Nat) (hi : i < c.length) (R : Bool) (h : Ev (fun k => bitemporalref02_Valid.l0 k (n : Int) c ((i + 1 : Nat) : Int)) R) :
  ∀ d j, j + d = c[i].f2.length → Ev (fun k => bitemporalref02_Valid.l1 k (n : Int) c (i : Int) (j : Int)) (valid13 (c[i].f2.drop j) && R)
 | 0, j, hj => by
  rw [List.drop_eq_nil_of_le (by omega)]
  refine Ev.step (fun k => ?_) h
  rw [bitemporalref02_Valid.l1, if_pos (by omega), if_pos (by omega), rd51 c i hi, if_neg (by omega), w64 i (by omega)]
 | d + 1, j, hj => by
  have hlt : j < c[i].f2.length := by omega
  have hb := hl c[i] (List.getElem_mem hi)
  have ih := vl1 n c hc hl i hi R h d (j + 1) (by omega)
  rw [List.drop_eq_getElem_cons hlt, valid13, List.all_cons]
  by_cases e1 : c[i].f2[j] < 0
  ·rw [decide_eq_false (by omega), Bool.false_and, Bool.false_and]
   refine Ev.step (f := fun _ => some false) (fun k => ?_) (Ev.now _)
   rw [bitemporalref02_Valid.l1, if_pos (by omega), if_pos (by omega), rd51 c i hi, if_pos (by omega), if_pos (by omega), rd_at _ j hlt, if_pos e1]
  ·by_cases e2 : c[i].f2[j] ≥ 13
   ·rw [decide_eq_false (by omega), Bool.false_and, Bool.false_and]
    refine Ev.step (f := fun _ => some false) (fun k => ?_) (Ev.now _)
    rw [bitemporalref02_Valid.l1, if_pos (by omega), if_pos (by omega), rd51 c i hi, if_pos (by omega), if_pos (by omega), rd_at _ j hlt, if_neg e1, if_pos e2]
   ·rw [decide_eq_true (by omega), Bool.true_and]
    refine Ev.step (fun k => ?_) ih
    rw [bitemporalref02_Valid.l1, if_pos (by omega), if_pos (by omega), rd51 c i hi, if_pos (by omega), if_pos (by omega), rd_at _ j hlt, if_neg e1, if_neg e2, w64 j (by omega)]
theorem vl0 (n : Nat) (c : List S51) (hc : c.length < 1000000) (hl : ∀ s ∈ c, s.f2.length < 1000000) : ∀ d i, i + d = c.length → Ev (fun k => bitemporalref02_Valid.l0 k (n : Int) c (i : Int)) ((c.drop i).all (cB n))
 | 0, i, hi => by
  rw [List.drop_eq_nil_of_le (by omega)]
  refine Ev.step (f := fun _ => some true) (fun k => ?_) (Ev.now _)
  rw [bitemporalref02_Valid.l0, if_neg (by omega)]
 | d + 1, i, hi => by
  have hlt : i < c.length := by omega
  have ih := vl0 n c hc hl d (i + 1) (by omega)
  have h1 := vl1 n c hc hl i hlt _ ih c[i].f2.length 0 (by omega)
  rw [List.drop_zero] at h1
  rw [List.drop_eq_getElem_cons hlt, List.all_cons]
  have jt : Ev (fun k => bitemporalref02_Valid.j1 k (n : Int) c (i : Int) true) false := Ev.step (f := fun _ => some false) (fun k => by rw [bitemporalref02_Valid.j1, if_pos rfl]) (Ev.now _)
  have cf : ¬ cOk n c[i] → (cB n c[i] && (c.drop (i + 1)).all (cB n)) = false := fun h => by rw [cB, decide_eq_false h, Bool.false_and]
  by_cases e1 : c[i].f0 < 0
  ·rw [cf (fun h => by have := h.2.1; omega)]
   refine Ev.step (fun k => ?_) jt
   rw [bitemporalref02_Valid.l0, if_pos (by omega), if_pos (by omega), rd51 c i hlt, if_pos e1]
  by_cases e2 : c[i].f0 ≥ (n : Int)
  ·rw [cf (fun h => by have := h.2.1; omega)]
   refine Ev.step (fun k => ?_) jt
   rw [bitemporalref02_Valid.l0, if_pos (by omega), if_pos (by omega), rd51 c i hlt, if_neg e1, if_pos e2]
  by_cases e3 : c[i].f1 < 0
  ·rw [cf (fun h => by have := h.2.2; omega)]
   refine Ev.step (fun k => ?_) jt
   rw [bitemporalref02_Valid.l0, if_pos (by omega), if_pos (by omega), rd51 c i hlt, if_neg e1, if_neg e2, if_pos e3]
  by_cases e4 : c[i].f1 ≥ (n : Int)
  ·rw [cf (fun h => by have := h.2.2; omega)]
   refine Ev.step (fun k => ?_) jt
   rw [bitemporalref02_Valid.l0, if_pos (by omega), if_pos (by omega), rd51 c i hlt, if_neg e1, if_neg e2, if_neg e3, decide_eq_true e4]
  ·have e5 : cB n c[i] = valid13 c[i].f2 := by
    by_cases hv : valid13 c[i].f2 = true
    ·exact (decide_eq_true (⟨hv, ⟨by omega, by omega⟩, by omega, by omega⟩ : cOk n c[i])).trans hv.symm
    ·exact (decide_eq_false (fun h : cOk n c[i] => hv h.1)).trans (Bool.eq_false_iff.2 hv).symm
   rw [e5]
   refine Ev.step (fun k => ?_) (Ev.step (g := fun k => bitemporalref02_Valid.j1 k (n : Int) c (i : Int) false) (fun k => ?_) h1)
   ·rw [bitemporalref02_Valid.l0, if_pos (by omega), if_pos (by omega), rd51 c i hlt, if_neg e1, if_neg e2, if_neg e3, decide_eq_false e4]
   ·rw [bitemporalref02_Valid.j1, if_neg (by decide)]
    rfl
theorem rvalid_ev (n : Nat) (c : List S51) (hc : c.length < 1000000) (hl : ∀ s ∈ c, s.f2.length < 1000000) : Ev (fun k => bitemporalref02_Valid.f k (n : Int) c) (c.all (cB n)) := vl0 n c hc hl c.length 0 (by omega)
def relP (ps : List S23) (s : S51) : Int := relI (rd_T23 ps s.f0).f0 (rd_T23 ps s.f0).f1 (rd_T23 ps s.f1).f0 (rd_T23 ps s.f1).f1
def RB (ps : List S23) (s : S51) : Bool := decide (cOk ps.length s ∧ relP ps s ∈ s.f2)
def vB (p : S23) : Bool := decide (VP p.f0 p.f1)
def SatB (ps : List S23) (c : List S51) : Bool := ps.all vB && c.all (RB ps)
theorem vp_at (ps : List S23) (hv : ps.all vB = true) (a : Int) (h0 : 0 ≤ a) (h1 : a < ps.length) : VP (rd_T23 ps a).f0 (rd_T23 ps a).f1 := by
 obtain ⟨i, rfl⟩ : ∃ i : Nat, a = (i : Int) := ⟨a.toNat, by omega⟩
 rw [rd23 ps i (by omega)]
 exact of_decide_eq_true (List.all_eq_true.1 hv _ (List.getElem_mem _))
theorem sat_l1 (ps : List S23) (c : List S51) (hps : ps.length < 1000000) (hc : c.length < 1000000) (hl : ∀ s ∈ c, s.f2.length < 1000000) (hv : ps.all vB = true) : ∀ d i, i + d = c.length → Ev (fun k => allen_Satisfied.l1 k ps c (c.length : Int) (i : Int)) ((c.drop i).all (RB ps))
 | 0, i, hi => by
  rw [List.drop_eq_nil_of_le (by omega)]
  refine Ev.step (f := fun _ => some true) (fun k => ?_) (Ev.now _)
  rw [allen_Satisfied.l1, if_neg (by omega)]
 | d + 1, i, hi => by
  have hlt : i < c.length := by omega
  have ih := sat_l1 ps c hps hc hl hv d (i + 1) (by omega)
  have hb := hl c[i] (List.getElem_mem hlt)
  have hof : Ev (fun k => allen_of.f k c[i].f2) (if valid13 c[i].f2 = true then ((ofS c[i].f2 0 : Int), true) else (0, false)) := ⟨c[i].f2.length + 1, fun k hk => of_f _ k hb (by omega)⟩
  rw [List.drop_eq_getElem_cons hlt, List.all_cons]
  have jt : ∀ x y z u, Ev (fun k => allen_Satisfied.j2 k ps c (c.length : Int) (i : Int) true x y z u) false := fun x y z u => Ev.step (f := fun _ => some false) (fun k => by rw [allen_Satisfied.j2, if_pos rfl]) (Ev.now _)
  have cf : ¬ cOk ps.length c[i] → (RB ps c[i] && (c.drop (i + 1)).all (RB ps)) = false := fun h => by rw [RB, decide_eq_false (fun x => h x.1), Bool.false_and]
  by_cases hv13 : valid13 c[i].f2 = true
  ·rw [if_pos hv13] at hof
   by_cases e1 : c[i].f0 < 0
   ·rw [cf (fun h => by have := h.2.1; omega)]
    refine Ev.stepB hof (fun k hp => ?_) (jt c[i].f0 c[i].f1 c[i].f2 (ofS c[i].f2 0 : Int))
    rw [allen_Satisfied.l1, if_pos (by omega), if_pos (by omega), if_pos (by omega), rd51 c i hlt, hp, Option.bind_some, if_pos rfl, if_pos e1]
   by_cases e2 : c[i].f0 ≥ (ps.length : Int)
   ·rw [cf (fun h => by have := h.2.1; omega)]
    refine Ev.stepB hof (fun k hp => ?_) (jt c[i].f0 c[i].f1 c[i].f2 (ofS c[i].f2 0 : Int))
    rw [allen_Satisfied.l1, if_pos (by omega), if_pos (by omega), if_pos (by omega), rd51 c i hlt, hp, Option.bind_some, if_pos rfl, if_neg e1, if_pos e2]
   by_cases e3 : c[i].f1 < 0
   ·rw [cf (fun h => by have := h.2.2; omega)]
    refine Ev.stepB hof (fun k hp => ?_) (jt c[i].f0 c[i].f1 c[i].f2 (ofS c[i].f2 0 : Int))
    rw [allen_Satisfied.l1, if_pos (by omega), if_pos (by omega), if_pos (by omega), rd51 c i hlt, hp, Option.bind_some, if_pos rfl, if_neg e1, if_neg e2, if_pos e3]
   by_cases e4 : c[i].f1 ≥ (ps.length : Int)
   ·rw [cf (fun h => by have := h.2.2; omega)]
    refine Ev.stepB hof (fun k hp => ?_) (jt c[i].f0 c[i].f1 c[i].f2 (ofS c[i].f2 0 : Int))
    rw [allen_Satisfied.l1, if_pos (by omega), if_pos (by omega), if_pos (by omega), rd51 c i hlt, hp, Option.bind_some, if_pos rfl, if_neg e1, if_neg e2, if_neg e3, decide_eq_true e4]
   have hok : cOk ps.length c[i] := ⟨hv13, ⟨by omega, by omega⟩, by omega, by omega⟩
   have v1 := vp_at ps hv c[i].f0 (by omega) (by omega)
   have v2 := vp_at ps hv c[i].f1 (by omega) (by omega)
   have hr := relI_range (rd_T23 ps c[i].f0).f0 (rd_T23 ps c[i].f0).f1 (rd_T23 ps c[i].f1).f0 (rd_T23 ps c[i].f1).f1
   have hrel : Ev (fun k => allen_Relation.f k (rd_T23 ps c[i].f0).f0 (rd_T23 ps c[i].f0).f1 (rd_T23 ps c[i].f1).f0 (rd_T23 ps c[i].f1).f1) (relP ps c[i], true) := ⟨6, fun k hk => by
    have := rel_f k hk (rd_T23 ps c[i].f0).f0 (rd_T23 ps c[i].f0).f1 (rd_T23 ps c[i].f1).f0 (rd_T23 ps c[i].f1).f1
    rwa [if_pos ⟨v1, v2⟩] at this⟩
   have hr2 : 0 ≤ relP ps c[i] ∧ relP ps c[i] < 13 := hr
   obtain ⟨q, hq⟩ : ∃ q : Nat, relP ps c[i] = (q : Int) := ⟨(relP ps c[i]).toNat, by omega⟩
   have hbit := ofS_bit c[i].f2 0 q (valid13_mem hv13)
   rw [Nat.zero_testBit] at hbit
   have hlt8 := ofS_lt c[i].f2 0 hv13 (by decide)
   have hhas := has_f (ofS c[i].f2 0) q (by omega) (by omega)
   have key : Ev (fun k => allen_Satisfied.j2 k ps c (c.length : Int) (i : Int) false c[i].f0 c[i].f1 c[i].f2 (ofS c[i].f2 0 : Int)) (RB ps c[i] && (c.drop (i + 1)).all (RB ps)) := by
    by_cases hm : relP ps c[i] ∈ c[i].f2
    ·rw [RB, decide_eq_true ⟨hok, hm⟩, Bool.true_and]
     have ht : (ofS c[i].f2 0).testBit q = true := hbit.2 (Or.inr (by rw [← hq]; exact hm))
     refine Ev.stepB hrel (fun k hp => ?_) ih
     rw [allen_Satisfied.j2, if_neg (by decide), if_pos (by omega), if_pos (by omega), if_pos (by omega), if_pos (by omega), hp, Option.bind_some, hq, hhas, Option.bind_some, if_pos ht, w64 i (by omega)]
    ·rw [RB, decide_eq_false (fun h => hm h.2), Bool.false_and]
     have ht : ¬ (ofS c[i].f2 0).testBit q = true := fun h => (hbit.1 h).elim (fun x => by cases x) (fun x => hm (by rw [hq]; exact x))
     refine Ev.stepB (f := fun _ => some false) hrel (fun k hp => ?_) (Ev.now _)
     rw [allen_Satisfied.j2, if_neg (by decide), if_pos (by omega), if_pos (by omega), if_pos (by omega), if_pos (by omega), hp, Option.bind_some, hq, hhas, Option.bind_some, if_neg ht]
   refine Ev.stepB hof (fun k hp => ?_) key
   rw [allen_Satisfied.l1, if_pos (by omega), if_pos (by omega), if_pos (by omega), rd51 c i hlt, hp, Option.bind_some, if_pos rfl, if_neg e1, if_neg e2, if_neg e3, decide_eq_false e4]
  ·rw [if_neg hv13] at hof
   rw [cf (fun h => hv13 h.1)]
   refine Ev.stepB hof (fun k hp => ?_) (jt c[i].f0 c[i].f1 c[i].f2 0)
   rw [allen_Satisfied.l1, if_pos (by omega), if_pos (by omega), if_pos (by omega), rd51 c i hlt, hp, Option.bind_some, if_neg (by decide)]
theorem sat_l0 (ps : List S23) (c : List S51) (hps : ps.length < 1000000) (hc : c.length < 1000000) (hl : ∀ s ∈ c, s.f2.length < 1000000) : ∀ d i, i + d = ps.length → (∀ R, R = c.all (RB ps) → ps.all vB = true → Ev (fun k => allen_Satisfied.l1 k ps c (c.length : Int) 0) R) → (ps.take i).all vB = true →
  Ev (fun k => allen_Satisfied.l0 k ps c ps (ps.length : Int) (i : Int)) ((ps.drop i).all vB && c.all (RB ps))
 | 0, i, hi, h, ht => by
  rw [List.take_of_length_le (by omega)] at ht
  rw [List.drop_eq_nil_of_le (by omega), List.all_nil, Bool.true_and]
  refine Ev.step (fun k => ?_) (h _ rfl ht)
  rw [allen_Satisfied.l0, if_neg (by omega)]
 | d + 1, i, hi, h, ht => by
  have hlt : i < ps.length := by omega
  rw [List.drop_eq_getElem_cons hlt, List.all_cons]
  by_cases e : vB ps[i] = true
  ·have ih := sat_l0 ps c hps hc hl d (i + 1) (by omega) h (by rw [List.take_succ_eq_append_getElem hlt, List.all_append, ht, Bool.true_and, List.all_cons, e]; rfl)
   rw [e, Bool.true_and]
   refine Ev.step (fun k => ?_) ih
   rw [allen_Satisfied.l0, if_pos (by omega), if_pos (by omega), if_pos (by omega), rd23 ps i hlt, valid_f, Option.bind_some, if_pos (show decide (VP ps[i].f0 ps[i].f1) = true from e), w64 i (by omega)]
  ·rw [Bool.eq_false_iff.2 e, Bool.false_and, Bool.false_and]
   refine Ev.step (f := fun _ => some false) (fun k => ?_) (Ev.now _)
   rw [allen_Satisfied.l0, if_pos (by omega), if_pos (by omega), if_pos (by omega), rd23 ps i hlt, valid_f, Option.bind_some, if_neg (show ¬ decide (VP ps[i].f0 ps[i].f1) = true from e)]
theorem sat_ev (ps : List S23) (c : List S51) (hps : ps.length < 1000000) (hc : c.length < 1000000) (hl : ∀ s ∈ c, s.f2.length < 1000000) : Ev (fun k => allen_Satisfied.f k ps c) (SatB ps c) :=
 sat_l0 ps c hps hc hl ps.length 0 (by omega) (fun R hR hv => by subst hR; exact sat_l1 ps c hps hc hl hv c.length 0 (by omega)) (by simp)
theorem sat_r1 (ps : List S23) (c : List S51) (hps : ps.length < 1000000) (hc : c.length < 1000000) (hl : ∀ s ∈ c, s.f2.length < 1000000) (hv : ps.all vB = true) (hk : c.all (cB ps.length) = true) : ∀ d i, i + d = c.length → Ev (fun k => bitemporalref02_Satisfied.l1 k ps c (i : Int)) ((c.drop i).all (RB ps))
 | 0, i, hi => by
  rw [List.drop_eq_nil_of_le (by omega)]
  refine Ev.step (f := fun _ => some true) (fun k => ?_) (Ev.now _)
  rw [bitemporalref02_Satisfied.l1, if_neg (by omega)]
 | d + 1, i, hi => by
  have hlt : i < c.length := by omega
  have ih := sat_r1 ps c hps hc hl hv hk d (i + 1) (by omega)
  have hb := hl c[i] (List.getElem_mem hlt)
  have hok : cOk ps.length c[i] := of_decide_eq_true (List.all_eq_true.1 hk _ (List.getElem_mem hlt))
  have ho := hok.2
  have v1 := vp_at ps hv c[i].f0 (by omega) (by omega)
  have v2 := vp_at ps hv c[i].f1 (by omega) (by omega)
  have hrel : ∀ k, 14 ≤ k → bitemporalref02_Relation.f k (rd_T23 ps c[i].f0).f0 (rd_T23 ps c[i].f0).f1 (rd_T23 ps c[i].f1).f0 (rd_T23 ps c[i].f1).f1 = some (relP ps c[i], true) := fun k hk => by
   have := rel_r k hk (rd_T23 ps c[i].f0).f0 (rd_T23 ps c[i].f0).f1 (rd_T23 ps c[i].f1).f0 (rd_T23 ps c[i].f1).f1
   rwa [if_pos ⟨v1, v2⟩] at this
  have hin := in_ev c[i].f2 (relP ps c[i]) hb
  rw [List.drop_eq_getElem_cons hlt, List.all_cons]
  have h14 : ∀ {g f : Nat → Option Bool} {r : Bool}, (∀ k, 14 ≤ k → bitemporalref02_in.f k c[i].f2 (relP ps c[i]) = some (decide (relP ps c[i] ∈ c[i].f2)) → g (k + 1) = f k) → Ev f r → Ev g r := by
   intro g f r h e
   obtain ⟨K1, h1⟩ := hin
   obtain ⟨K2, h2⟩ := e
   refine ⟨K1 + K2 + 15, fun k hk => ?_⟩
   obtain ⟨m, rfl⟩ : ∃ m, k = m + 1 := ⟨k - 1, by omega⟩
   rw [h m (by omega) (h1 m (by omega))]
   exact h2 m (by omega)
  by_cases hm : relP ps c[i] ∈ c[i].f2
  ·rw [RB, decide_eq_true ⟨hok, hm⟩, Bool.true_and]
   refine h14 (fun k hk2 hp => ?_) ih
   rw [bitemporalref02_Satisfied.l1, if_pos (by omega), if_pos (by omega), rd51 c i hlt, if_pos (by omega), if_pos (by omega), if_pos (by omega), if_pos (by omega), hrel k hk2, Option.bind_some, hp, Option.bind_some, if_pos (decide_eq_true hm), w64 i (by omega)]
  ·rw [RB, decide_eq_false (fun h => hm h.2), Bool.false_and]
   refine h14 (f := fun _ => some false) (fun k hk2 hp => ?_) (Ev.now _)
   rw [bitemporalref02_Satisfied.l1, if_pos (by omega), if_pos (by omega), rd51 c i hlt, if_pos (by omega), if_pos (by omega), if_pos (by omega), if_pos (by omega), hrel k hk2, Option.bind_some, hp, Option.bind_some, if_neg (by simpa using hm)]
theorem rb_all (ps : List S23) (c : List S51) (hps : ps.length < 1000000) (hc : c.length < 1000000) (hl : ∀ s ∈ c, s.f2.length < 1000000) : (c.all (cB ps.length) && c.all (RB ps)) = c.all (RB ps) := by
 by_cases h : c.all (RB ps) = true
 ·have : c.all (cB ps.length) = true := List.all_eq_true.2 fun s hs => by
   have := of_decide_eq_true (List.all_eq_true.1 h s hs)
   exact decide_eq_true this.1
  rw [h, this]; rfl
 ·rw [Bool.eq_false_iff.2 h, Bool.and_false]
theorem sat_r0 (ps : List S23) (c : List S51) (hps : ps.length < 1000000) (hc : c.length < 1000000) (hl : ∀ s ∈ c, s.f2.length < 1000000) : ∀ d i, i + d = ps.length → (ps.take i).all vB = true →
  Ev (fun k => bitemporalref02_Satisfied.l0 k ps c (i : Int)) ((ps.drop i).all vB && c.all (RB ps))
 | 0, i, hi, ht => by
  rw [List.take_of_length_le (by omega)] at ht
  rw [List.drop_eq_nil_of_le (by omega), List.all_nil, Bool.true_and, ← rb_all ps c hps hc hl]
  have hva := rvalid_ev ps.length c hc hl
  by_cases e : c.all (cB ps.length) = true
  ·rw [e] at hva
   rw [e, Bool.true_and]
   refine Ev.stepB hva (fun k hp => ?_) (sat_r1 ps c hps hc hl ht e c.length 0 (by omega))
   rw [bitemporalref02_Satisfied.l0, if_neg (by omega), hp, Option.bind_some, if_pos rfl]
   rfl
  ·rw [Bool.eq_false_iff.2 e] at hva
   rw [Bool.eq_false_iff.2 e, Bool.false_and]
   refine Ev.stepB (f := fun _ => some false) hva (fun k hp => ?_) (Ev.now _)
   rw [bitemporalref02_Satisfied.l0, if_neg (by omega), hp, Option.bind_some, if_neg (by decide)]
 | d + 1, i, hi, ht => by
  have hlt : i < ps.length := by omega
  rw [List.drop_eq_getElem_cons hlt, List.all_cons]
  by_cases e : vB ps[i] = true
  ·have ih := sat_r0 ps c hps hc hl d (i + 1) (by omega) (by rw [List.take_succ_eq_append_getElem hlt, List.all_append, ht, Bool.true_and, List.all_cons, e]; rfl)
   rw [e, Bool.true_and]
   refine Ev.step (fun k => ?_) ih
   rw [bitemporalref02_Satisfied.l0, if_pos (by omega), if_pos (by omega), rd23 ps i hlt, valid_r, Option.bind_some, if_pos (show decide (VP ps[i].f0 ps[i].f1) = true from e), w64 i (by omega)]
  ·rw [Bool.eq_false_iff.2 e, Bool.false_and, Bool.false_and]
   refine Ev.step (f := fun _ => some false) (fun k => ?_) (Ev.now _)
   rw [bitemporalref02_Satisfied.l0, if_pos (by omega), if_pos (by omega), rd23 ps i hlt, valid_r, Option.bind_some, if_neg (show ¬ decide (VP ps[i].f0 ps[i].f1) = true from e)]
theorem rsat_ev (ps : List S23) (c : List S51) (hps : ps.length < 1000000) (hc : c.length < 1000000) (hl : ∀ s ∈ c, s.f2.length < 1000000) : Ev (fun k => bitemporalref02_Satisfied.f k ps c) (SatB ps c) := sat_r0 ps c hps hc hl ps.length 0 (by omega) (by simp)
end Go.Proofs.Ytoemcdkopnclbaa.A
