/-
  What the reference's Valid, in and Large answer; what Satisfied of both sides answers.
-/
import Derived.Test.YtoemcdkopnclbaaVLTable
import Derived.Test.YtoemcdkopnclbaaVLNet
import Derived.Test.YtoemcdkopnclbaaVAx8
import Derived.Test.YtoemcdkopnclbaaVAx15
import Derived.Test.YtoemcdkopnclbaaVAx21
namespace Go.Proofs.Ytoemcdkopnclbaa.A
open Go.RowKit Go.Proofs.YtoemcdkopnclbaaW.PrintWords Go.Proofs.YtoemcdkopnclbaaW.PrintLast Go.Proofs.YtoemcdkopnclbaaW.PrintMore
set_option linter.unusedVariables false
set_option linter.unusedSimpArgs false
theorem Ev.stepB {α β : Type} {g : Nat → Option β} {p : Nat → Option α} {f : Nat → Option β} {a : α} {r : β} (hp : Ev p a) (h : ∀ k, p k = some a → g (k + 1) = f k) (e : Ev f r) : Ev g r := by
 obtain ⟨K1, h1⟩ := hp
 obtain ⟨K2, h2⟩ := e
 refine ⟨K1 + K2 + 1, fun k hk => ?_⟩
 obtain ⟨m, rfl⟩ : ∃ m, k = m + 1 := ⟨k - 1, by omega⟩
 rw [h m (h1 m (by omega))]
 exact h2 m (by omega)
theorem rd51 (c : List S51) (i : Nat) (h : i < c.length) : qz3 c (i : Int) = c[i] := by
 simp [qz3, List.getD_eq_getElem?_getD, List.getElem?_eq_getElem h]
theorem in_l0 (l : List Int) (a : Int) (hl : l.length < 1000000) : ∀ d i, i + d = l.length → Ev (fun k => bitemporalref02_in.l0 k l a (i : Int)) (decide (a ∈ l.drop i))
 | 0, i, hi => by
  rw [List.drop_eq_nil_of_le (by omega), decide_eq_false (by simp)]
  refine Ev.step (f := fun _ => some false) (fun k => ?_) (Ev.now _)
  rw [bitemporalref02_in.l0, if_neg (by omega)]
 | d + 1, i, hi => by
  have hlt : i < l.length := by omega
  have ih := in_l0 l a hl d (i + 1) (by omega)
  rw [List.drop_eq_getElem_cons hlt]
  by_cases e : l[i] = a
  ·rw [decide_eq_true (by rw [e]; simp)]
   refine Ev.step (f := fun _ => some true) (fun k => ?_) (Ev.now _)
   rw [bitemporalref02_in.l0, if_pos (by omega), if_pos (by omega), rd_at l i hlt, if_pos e]
  ·have h2 : decide (a ∈ l[i] :: l.drop (i + 1)) = decide (a ∈ l.drop (i + 1)) := by
    rw [decide_eq_decide, List.mem_cons]
    exact ⟨fun h => h.resolve_left (fun x => e x.symm), Or.inr⟩
   rw [h2]
   refine Ev.step (fun k => ?_) ih
   rw [bitemporalref02_in.l0, if_pos (by omega), if_pos (by omega), rd_at l i hlt, if_neg e, w64 i (by omega)]
theorem in_ev (l : List Int) (a : Int) (hl : l.length < 1000000) : Ev (fun k => bitemporalref02_in.f k l a) (decide (a ∈ l)) := in_l0 l a hl l.length 0 (by omega)
def cB (n : Nat) (s : S51) : Bool := decide (cOk n s)
theorem vl1 (n : Nat) (c : List S51) (hc : c.length < 1000000) (hl : ∀ s ∈ c, s.f2.length < 1000000) (i : Nat) (hi : i < c.length) (R : Bool) (h : Ev (fun k => bitemporalref02_Valid.l0 k (n : Int) c ((i + 1 : Nat) : Int)) R) :
  ∀ d j, j + d = c[i].f2.length → Ev (fun k => bitemporalref02_Valid.l1 k (n : Int) c (i : Int) (j : Int)) (valid13 (c[i].f2.drop j) && R)
 | 0, j, hj => by
  rw [List.drop_eq_nil_of_le (by omega)]
  refine Ev.step (fun k => ?_) h
  rw [bitemporalref02_Valid.l1, if_pos (by omega), if_pos (by omega), rd51 c i hi, if_neg (by omega), w64 i (by omega)]
 | d + 1, j, hj => by
  have hlt : j < c[i].f2.length := by omega
  have hb := hl c[i] (List.getElem_mem hi)
  have ih := vl1 n c hc hl i hi R h d (j + 1) (by omega)
  rw [List.drop_eq_getElem_cons hlt, valid13, List.all_cons]
  by_cases e1 : c[i].f2[j] < 0
  ·rw [decide_eq_false (by omega), Bool.false_and, Bool.false_and]
   refine Ev.step (f := fun _ => some false) (fun k => ?_) (Ev.now _)
   rw [bitemporalref02_Valid.l1, if_pos (by omega), if_pos (by omega), rd51 c i hi, if_pos (by omega), if_pos (by omega), rd_at _ j hlt, if_pos e1]
  ·by_cases e2 : c[i].f2[j] ≥ 13
   ·rw [decide_eq_false (by omega), Bool.false_and, Bool.false_and]
    refine Ev.step (f := fun _ => some false) (fun k => ?_) (Ev.now _)
    rw [bitemporalref02_Valid.l1, if_pos (by omega), if_pos (by omega), rd51 c i hi, if_pos (by omega), if_pos (by omega), rd_at _ j hlt, if_neg e1, if_pos e2]
   ·rw [decide_eq_true (by omega), Bool.true_and]
    refine Ev.step (fun k => ?_) ih
    rw [bitemporalref02_Valid.l1, if_pos (by omega), if_pos (by omega), rd51 c i hi, if_pos (by omega), if_pos (by omega), rd_at _ j hlt, if_neg e1, if_neg e2, w64 j (by omega)]
theorem vl0 (n : Nat) (c : List S51) (hc : c.length < 1000000) (hl : ∀ s ∈ c, s.f2.length < 1000000) : ∀ d i, i + d = c.length → Ev (fun k => bitemporalref02_Valid.l0 k (n : Int) c (i : Int)) ((c.drop i).all (cB n))
 | 0, i, hi => by
  rw [List.drop_eq_nil_of_le (by omega)]
  refine Ev.step (f := fun _ => some true) (fun k => ?_) (Ev.now _)
  rw [bitemporalref02_Valid.l0, if_neg (by omega)]
 | d + 1, i, hi => by
  have hlt : i < c.length := by omega
  have ih := vl0 n c hc hl d (i + 1) (by omega)
  have h1 := vl1 n c hc hl i hlt _ ih c[i].f2.length 0 (by omega)
  rw [List.drop_zero] at h1
  rw [List.drop_eq_getElem_cons hlt, List.all_cons]
  have jt : Ev (fun k => bitemporalref02_Valid.j1 k (n : Int) c (i : Int) true) false := Ev.step (f := fun _ => some false) (fun k => by rw [bitemporalref02_Valid.j1, if_pos rfl]) (Ev.now _)
  have cf : ¬ cOk n c[i] → (cB n c[i] && (c.drop (i + 1)).all (cB n)) = false := fun h => by rw [cB, decide_eq_false h, Bool.false_and]
  by_cases e1 : c[i].f0 < 0
  ·rw [cf (fun h => by have := h.2.1; omega)]
   refine Ev.step (fun k => ?_) jt
   rw [bitemporalref02_Valid.l0, if_pos (by omega), if_pos (by omega), rd51 c i hlt, if_pos e1]
  by_cases e2 : c[i].f0 ≥ (n : Int)
  ·rw [cf (fun h => by have := h.2.1; omega)]
   refine Ev.step (fun k => ?_) jt
   rw [bitemporalref02_Valid.l0, if_pos (by omega), if_pos (by omega), rd51 c i hlt, if_neg e1, if_pos e2]
  by_cases e3 : c[i].f1 < 0
  ·rw [cf (fun h => by have := h.2.2; omega)]
   refine Ev.step (fun k => ?_) jt
   rw [bitemporalref02_Valid.l0, if_pos (by omega), if_pos (by omega), rd51 c i hlt, if_neg e1, if_neg e2, if_pos e3]
  by_cases e4 : c[i].f1 ≥ (n : Int)
  ·rw [cf (fun h => by have := h.2.2; omega)]
   refine Ev.step (fun k => ?_) jt
   rw [bitemporalref02_Valid.l0, if_pos (by omega), if_pos (by omega), rd51 c i hlt, if_neg e1, if_neg e2, if_neg e3, decide_eq_true e4]
  ·have e5 : cB n c[i] = valid13 c[i].f2 := by
    by_cases hv : valid13 c[i].f2 = true
    ·exact (decide_eq_true (⟨hv, ⟨by omega, by omega⟩, by omega, by omega⟩ : cOk n c[i])).trans hv.symm
    ·exact (decide_eq_false (fun h : cOk n c[i] => hv h.1)).trans (Bool.eq_false_iff.2 hv).symm
   rw [e5]
   refine Ev.step (fun k => ?_) (Ev.step (g := fun k => bitemporalref02_Valid.j1 k (n : Int) c (i : Int) false) (fun k => ?_) h1)
   ·rw [bitemporalref02_Valid.l0, if_pos (by omega), if_pos (by omega), rd51 c i hlt, if_neg e1, if_neg e2, if_neg e3, decide_eq_false e4]
   ·rw [bitemporalref02_Valid.j1, if_neg (by decide)]
    rfl
theorem rvalid_ev (n : Nat) (c : List S51) (hc : c.length < 1000000) (hl : ∀ s ∈ c, s.f2.length < 1000000) : Ev (fun k => bitemporalref02_Valid.f k (n : Int) c) (c.all (cB n)) := vl0 n c hc hl c.length 0 (by omega)
end Go.Proofs.Ytoemcdkopnclbaa.A
