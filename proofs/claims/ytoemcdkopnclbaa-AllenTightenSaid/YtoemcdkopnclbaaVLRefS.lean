/-
  The reference's first network, as bits of a list.
-/
import Derived.Test.YtoemcdkopnclbaaVLVal
import Derived.Test.YtoemcdkopnclbaaVAx16
namespace Go.Proofs.Ytoemcdkopnclbaa.A
open Go.RowKit Go.Proofs.YtoemcdkopnclbaaW.PrintWords Go.Proofs.YtoemcdkopnclbaaW.PrintLast Go.Proofs.YtoemcdkopnclbaaW.PrintMore
set_option linter.unusedVariables false
set_option linter.unusedSimpArgs false
def N2 (n i j c : Nat) : Nat := 13 * (n * i + j) + c
def aB (n : Nat) (m : List Bool) (i j c : Nat) : Bool := m.getD (N2 n i j c) false
theorem row_le (n i : Nat) (hi : i < n) : n * i + n ≤ n * n := by
 have := Nat.mul_le_mul_left n (show i + 1 ≤ n by omega)
 rwa [Nat.mul_succ] at this
theorem n2_lt (n i j c : Nat) (hi : i < n) (hj : j < n) (hc : c < 13) : N2 n i j c < 13 * (n * n) := by
 have := row_le n i hi
 unfold N2
 omega
theorem n2_inj {n i j c i' j' c' : Nat} (h : N2 n i j c = N2 n i' j' c') (hj : j < n) (hj' : j' < n) (hc : c < 13) (hc' : c' < 13) : i = i' ∧ j = j' ∧ c = c' := by
 unfold N2 at h
 have h1 : n * i + j = n * i' + j' := by omega
 have h2 : c = c' := by omega
 rcases Nat.lt_trichotomy i i' with h3 | h3 | h3
 ·have := Nat.mul_le_mul_left n (show i + 1 ≤ i' by omega)
  rw [Nat.mul_succ] at this
  omega
 ·subst h3
  exact ⟨rfl, by omega, h2⟩
 ·have := Nat.mul_le_mul_left n (show i' + 1 ≤ i by omega)
  rw [Nat.mul_succ] at this
  omega
theorem ixw (n i j c : Nat) (hn : n ≤ 8) (hi : i < 8) (hj : j < 8) (hc : c < 13) : wrap64 (wrap64 (13 * wrap64 (wrap64 ((n : Int) * (i : Int)) + (j : Int))) + (c : Int)) = (N2 n i j c : Int) := by
 have h1 : n * i ≤ 8 * 8 := Nat.mul_le_mul hn (by omega)
 unfold N2
 rw [show (n : Int) * (i : Int) = ((n * i : Nat) : Int) by push_cast; rfl]
 generalize n * i = p at h1 ⊢
 unfold wrap64
 omega
def AgP (n : Nat) (m : List Bool) (P : Nat → Nat → Nat → Prop) : Prop := m.length = 13 * (n * n) ∧ ∀ i j c, i < n → j < n → c < 13 → (aB n m i j c = true ↔ P i j c)
theorem AgP.congr {n : Nat} {m : List Bool} {P Q : Nat → Nat → Nat → Prop} (h : AgP n m P) (e : ∀ i j c, i < n → j < n → c < 13 → (P i j c ↔ Q i j c)) : AgP n m Q := ⟨h.1, fun i j c hi hj hc => (h.2 i j c hi hj hc).trans (e i j c hi hj hc)⟩
theorem aB_set {n : Nat} {m : List Bool} (h : m.length = 13 * (n * n)) (i j c : Nat) (v : Bool) (hi : i < n) (hj : j < n) (hc : c < 13) (i' j' c' : Nat) (hj' : j' < n) (hc' : c' < 13) :
  aB n (m.set (N2 n i j c) v) i' j' c' = if i' = i ∧ j' = j ∧ c' = c then v else aB n m i' j' c' := by
 have hl := n2_lt n i j c hi hj hc
 unfold aB
 rw [List.getD_eq_getElem?_getD, List.getElem?_set]
 by_cases e : i' = i ∧ j' = j ∧ c' = c
 ·obtain ⟨rfl, rfl, rfl⟩ := e
  rw [if_pos rfl, if_pos (by omega), if_pos ⟨rfl, rfl, rfl⟩]
  rfl
 ·rw [if_neg (fun x => e (by have := n2_inj x hj hj' hc hc'; exact ⟨this.1.symm, this.2.1.symm, this.2.2.symm⟩)), if_neg e, ← List.getD_eq_getElem?_getD]
theorem AgP.clear {n : Nat} {m : List Bool} {P : Nat → Nat → Nat → Prop} (h : AgP n m P) (i j c : Nat) (hi : i < n) (hj : j < n) (hc : c < 13) : AgP n (m.set (N2 n i j c) false) (fun i' j' c' => P i' j' c' ∧ ¬ (i' = i ∧ j' = j ∧ c' = c)) := by
 refine ⟨by rw [List.length_set]; exact h.1, fun i' j' c' hi' hj' hc' => ?_⟩
 rw [aB_set h.1 i j c false hi hj hc i' j' c' hj' hc']
 by_cases e : i' = i ∧ j' = j ∧ c' = c
 ·rw [if_pos e]
  exact ⟨fun x => (Bool.false_ne_true x).elim, fun x => absurd e x.2⟩
 ·rw [if_neg e, h.2 i' j' c' hi' hj' hc']
  exact ⟨fun x => ⟨x, e⟩, fun x => x.1⟩
theorem inv_r (c : Nat) (hc : c < 13) : bitemporalref02_Inverse.f (c : Int) = some ((12 - c : Nat) : Int) := by
 have h : ∀ c < 13, bitemporalref02_Inverse.f ((c : Nat) : Int) = some ((12 - c : Nat) : Int) := by decide +kernel
 exact h c hc
def Fil (n : Nat) (m : List Bool) (i j c : Nat) : Prop := m.length = 13 * (n * n) ∧ ∀ i' j' c', i' < n → j' < n → c' < 13 → (i' < i ∨ (i' = i ∧ (j' < j ∨ (j' = j ∧ c' < c)))) → (aB n m i' j' c' = true ↔ (i' = j' → c' = 6))
theorem Fil.set {n i j c : Nat} {m : List Bool} (h : Fil n m i j c) (v : Bool) (hv : v = true ↔ (i = j → c = 6)) (hi : i < n) (hj : j < n) (hc : c < 13) : Fil n (m.set (N2 n i j c) v) i j (c + 1) := by
 refine ⟨by rw [List.length_set]; exact h.1, fun i' j' c' hi' hj' hc' hlt => ?_⟩
 rw [aB_set h.1 i j c v hi hj hc i' j' c' hj' hc']
 by_cases e : i' = i ∧ j' = j ∧ c' = c
 ·obtain ⟨rfl, rfl, rfl⟩ := e
  rw [if_pos ⟨rfl, rfl, rfl⟩]
  exact hv
 ·rw [if_neg e]
  exact h.2 i' j' c' hi' hj' hc' (by omega)
theorem st_l2 (n : Nat) (hn : n ≤ 8) (l : List S51) (Fin : List Bool → Prop) (i j : Nat) (hi : i < n) (hj : j < n) (hk : ∀ m, Fil n m i j 13 → ∃ r, Fin r ∧ Ev (fun k => bitemporalref02_start.l1 k (n : Int) l m (i : Int) ((j + 1 : Nat) : Int)) r) :
  ∀ d c m, c + d = 13 → Fil n m i j c → ∃ r, Fin r ∧ Ev (fun k => bitemporalref02_start.l2 k (n : Int) l m (i : Int) (j : Int) (c : Int)) r
 | 0, c, m, hc, h => by
  obtain rfl : c = 13 := by omega
  obtain ⟨r, h1, h2⟩ := hk m h
  refine ⟨r, h1, Ev.step (fun k => ?_) h2⟩
  rw [bitemporalref02_start.l2, if_neg (by omega), w64 j (by omega)]
 | d + 1, c, m, hc, h => by
  have hc13 : c < 13 := by omega
  have hl := n2_lt n i j c hi hj hc13
  have hix := ixw n i j c hn (by omega) (by omega) hc13
  by_cases e : i = j
  ·obtain ⟨r, h1, h2⟩ := st_l2 n hn l Fin i j hi hj hk d (c + 1) _ (by omega) (h.set ((c : Int) == 6) (by rw [beq_iff_eq]; exact ⟨fun x _ => by omega, fun x => by have := x e; omega⟩) hi hj hc13)
   refine ⟨r, h1, Ev.step (fun k => ?_) h2⟩
   rw [bitemporalref02_start.l2, if_pos (by omega), if_pos (by omega), hix, if_pos (by omega), if_pos (by rw [h.1]; omega), Int.toNat_natCast, w64 c (by omega)]
  ·obtain ⟨r, h1, h2⟩ := st_l2 n hn l Fin i j hi hj hk d (c + 1) _ (by omega) (h.set true ⟨fun _ x => absurd x e, fun _ => rfl⟩ hi hj hc13)
   refine ⟨r, h1, Ev.step (fun k => ?_) h2⟩
   rw [bitemporalref02_start.l2, if_pos (by omega), if_neg (by omega), hix, if_pos (by omega), if_pos (by rw [h.1]; omega), Int.toNat_natCast, w64 c (by omega)]
theorem st_l1 (n : Nat) (hn : n ≤ 8) (l : List S51) (Fin : List Bool → Prop) (i : Nat) (hi : i < n) (hk : ∀ m, Fil n m i n 0 → ∃ r, Fin r ∧ Ev (fun k => bitemporalref02_start.l0 k (n : Int) l m ((i + 1 : Nat) : Int)) r) :
  ∀ d j m, j + d = n → Fil n m i j 0 → ∃ r, Fin r ∧ Ev (fun k => bitemporalref02_start.l1 k (n : Int) l m (i : Int) (j : Int)) r
 | 0, j, m, hj, h => by
  obtain rfl : j = n := by omega
  obtain ⟨r, h1, h2⟩ := hk m h
  refine ⟨r, h1, Ev.step (fun k => ?_) h2⟩
  rw [bitemporalref02_start.l1, if_neg (by omega), w64 i (by omega)]
 | d + 1, j, m, hj, h => by
  obtain ⟨r, h1, h2⟩ := st_l2 n hn l Fin i j hi (by omega) (fun m' h' => st_l1 n hn l Fin i hi hk d (j + 1) m' (by omega) ⟨h'.1, fun i' j' c' a b c hlt => h'.2 i' j' c' a b c (by omega)⟩) 13 0 m (by omega) h
  refine ⟨r, h1, Ev.step (fun k => ?_) h2⟩
  rw [bitemporalref02_start.l1, if_pos (by omega)]
  rfl
theorem st_l0 (n : Nat) (hn : n ≤ 8) (l : List S51) (Fin : List Bool → Prop) (hk : ∀ m, Fil n m n 0 0 → ∃ r, Fin r ∧ Ev (fun k => bitemporalref02_start.l3 k (n : Int) l m 0) r) :
  ∀ d i m, i + d = n → Fil n m i 0 0 → ∃ r, Fin r ∧ Ev (fun k => bitemporalref02_start.l0 k (n : Int) l m (i : Int)) r
 | 0, i, m, hi, h => by
  obtain rfl : i = n := by omega
  obtain ⟨r, h1, h2⟩ := hk m h
  refine ⟨r, h1, Ev.step (fun k => ?_) h2⟩
  rw [bitemporalref02_start.l0, if_neg (by omega)]
 | d + 1, i, m, hi, h => by
  obtain ⟨r, h1, h2⟩ := st_l1 n hn l Fin i (by omega) (fun m' h' => st_l0 n hn l Fin hk d (i + 1) m' (by omega) ⟨h'.1, fun i' j' c' a b c hlt => h'.2 i' j' c' a b c (by omega)⟩) n 0 m (by omega) h
  refine ⟨r, h1, Ev.step (fun k => ?_) h2⟩
  rw [bitemporalref02_start.l0, if_pos (by omega)]
  rfl
theorem st_l4 (n : Nat) (hn : n ≤ 8) (l : List S51) (Fin : List Bool → Prop) (hl : ∀ s ∈ l, s.f2.length < 1000000) (hll : l.length < 1000000) (q : Nat) (hq : q < l.length) (A B : Nat) (hA : l[q].f0 = (A : Int)) (hB : l[q].f1 = (B : Int)) (hA8 : A < n) (hB8 : B < n) :
  ∀ (d c : Nat) (m : List Bool) (P : Nat → Nat → Nat → Prop), c + d = 13 → AgP n m P →
  (∀ m', AgP n m' (fun i j x => P i j x ∧ ∀ c' : Nat, c ≤ c' → c' < 13 → ¬ (c' : Int) ∈ l[q].f2 → ¬ (i = A ∧ j = B ∧ x = c') ∧ ¬ (i = B ∧ j = A ∧ x = 12 - c')) → ∃ r, Fin r ∧ Ev (fun k => bitemporalref02_start.l3 k (n : Int) l m' ((q + 1 : Nat) : Int)) r) →
  ∃ r, Fin r ∧ Ev (fun k => bitemporalref02_start.l4 k (n : Int) l m (q : Int) (c : Int)) r
 | 0, c, m, P, hc, h, hk => by
  obtain ⟨r, h1, h2⟩ := hk m (h.congr fun i j x _ _ _ => ⟨fun y => ⟨y, fun c' h1 h2 => by omega⟩, fun y => y.1⟩)
  refine ⟨r, h1, Ev.step (fun k => ?_) h2⟩
  rw [bitemporalref02_start.l4, if_neg (by omega), w64 q (by omega)]
 | d + 1, c, m, P, hc, h, hk => by
  have hc13 : c < 13 := by omega
  have hb := hl l[q] (List.getElem_mem hq)
  have hin := in_ev l[q].f2 (c : Int) hb
  by_cases e : (c : Int) ∈ l[q].f2
  ·obtain ⟨r, h1, h2⟩ := st_l4 n hn l Fin hl hll q hq A B hA hB hA8 hB8 d (c + 1) m P (by omega) h (fun m' h' => hk m' (h'.congr fun i j x _ _ _ => by
    constructor
    ·rintro ⟨a, b⟩
     refine ⟨a, fun c' h1 h2 h3 => ?_⟩
     by_cases e2 : c' = c
     ·subst e2; exact absurd e h3
     ·exact b c' (by omega) h2 h3
    ·rintro ⟨a, b⟩
     exact ⟨a, fun c' h1 => b c' (by omega)⟩))
   rw [decide_eq_true e] at hin
   refine ⟨r, h1, Ev.stepB hin (fun k hp => ?_) h2⟩
   rw [bitemporalref02_start.l4, if_pos (by omega), if_pos (by omega), if_pos (by omega), rd51 l q hq, hp, Option.bind_some, if_pos rfl, w64 c (by omega)]
  ·have hcl := (h.clear A B c hA8 hB8 hc13).clear B A (12 - c) hB8 hA8 (by omega)
   obtain ⟨r, h1, h2⟩ := st_l4 n hn l Fin hl hll q hq A B hA hB hA8 hB8 d (c + 1) _ _ (by omega) hcl (fun m' h' => hk m' (h'.congr fun i j x _ _ _ => by
    constructor
    ·rintro ⟨⟨⟨a, a1⟩, a2⟩, b⟩
     refine ⟨a, fun c' h1 h2 h3 => ?_⟩
     by_cases e2 : c' = c
     ·subst e2; exact ⟨a1, a2⟩
     ·exact b c' (by omega) h2 h3
    ·rintro ⟨a, b⟩
     have := b c (by omega) hc13 e
     exact ⟨⟨⟨a, this.1⟩, this.2⟩, fun c' h1 => b c' (by omega)⟩))
   rw [decide_eq_false e] at hin
   have hx1 := ixw n A B c hn (by omega) (by omega) hc13
   have hx2 := ixw n B A (12 - c) hn (by omega) (by omega) (by omega)
   have hl1 := n2_lt n A B c hA8 hB8 hc13
   have hl2 := n2_lt n B A (12 - c) hB8 hA8 (by omega)
   refine ⟨r, h1, Ev.stepB hin (fun k hp => ?_) h2⟩
   rw [bitemporalref02_start.l4, if_pos (by omega), if_pos (by omega), if_pos (by omega), rd51 l q hq, hp, Option.bind_some, if_neg (by decide), hA, hB, hx1, if_pos (by omega), if_pos (by rw [h.1]; omega), inv_r c hc13, Option.bind_some, hx2,
    if_pos (by omega), if_pos (by rw [h.1]; omega), Int.toNat_natCast, Int.toNat_natCast, w64 c (by omega)]
theorem st_l3 (n : Nat) (hn : n ≤ 8) (l : List S51) (hl : ∀ s ∈ l, s.f2.length < 1000000) (hll : l.length < 1000000) (hok : ∀ s ∈ l, cOk n s) : ∀ d q m P, q + d = l.length → AgP n m P →
  ∃ r, AgP n r (fun i j x => P i j x ∧ ∀ s ∈ l.drop q, Lets s i j x) ∧ Ev (fun k => bitemporalref02_start.l3 k (n : Int) l m (q : Int)) r
 | 0, q, m, P, hq, h => by
  refine ⟨m, h.congr fun i j x _ _ _ => ⟨fun y => ⟨y, fun s hs => ?_⟩, fun y => y.1⟩, Ev.step (f := fun _ => some m) (fun k => ?_) (Ev.now _)⟩
  ·rw [List.drop_eq_nil_of_le (by omega)] at hs; simp at hs
  ·rw [bitemporalref02_start.l3, if_neg (by omega)]
 | d + 1, q, m, P, hq, h => by
  have hlt : q < l.length := by omega
  have ho := (hok l[q] (List.getElem_mem hlt)).2
  obtain ⟨A, hA⟩ : ∃ A : Nat, l[q].f0 = (A : Int) := ⟨l[q].f0.toNat, by omega⟩
  obtain ⟨B, hB⟩ : ∃ B : Nat, l[q].f1 = (B : Int) := ⟨l[q].f1.toNat, by omega⟩
  obtain ⟨r, h1, h2⟩ := st_l4 n hn l (fun r => AgP n r (fun i j x => P i j x ∧ ∀ s ∈ l.drop q, Lets s i j x)) hl hll q hlt A B hA hB (by omega) (by omega) 13 0 m P (by omega) h (fun m' h' => by
   obtain ⟨r, h1, h2⟩ := st_l3 n hn l hl hll hok d (q + 1) m' _ (by omega) h'
   refine ⟨r, h1.congr fun i j x hi hj hx => ?_, h2⟩
   rw [List.drop_eq_getElem_cons hlt]
   have key : (∀ c' : Nat, 0 ≤ c' → c' < 13 → ¬ (c' : Int) ∈ l[q].f2 → ¬ (i = A ∧ j = B ∧ x = c') ∧ ¬ (i = B ∧ j = A ∧ x = 12 - c')) ↔ Lets l[q] i j x := by
    unfold Lets
    rw [hA, hB]
    constructor
    ·intro g
     refine ⟨fun e => ?_, fun e => ?_⟩
     ·by_cases e2 : (x : Int) ∈ l[q].f2
      ·exact e2
      ·exact absurd ⟨by omega, by omega, rfl⟩ (g x (by omega) hx e2).1
     ·by_cases e2 : ((12 - x : Nat) : Int) ∈ l[q].f2
      ·exact e2
      ·exact absurd ⟨by omega, by omega, by omega⟩ (g (12 - x) (by omega) (by omega) e2).2
    ·rintro ⟨g1, g2⟩ c' _ hc' hn'
     refine ⟨?_, ?_⟩
     ·rintro ⟨rfl, rfl, rfl⟩
      exact hn' (g1 ⟨rfl, rfl⟩)
     ·rintro ⟨rfl, rfl, e3⟩
      have := g2 ⟨rfl, rfl⟩
      rw [show 12 - x = c' by omega] at this
      exact hn' this
   rw [key]
   constructor
   ·rintro ⟨⟨a, b⟩, g⟩
    exact ⟨a, fun s hs => by
     rcases List.mem_cons.1 hs with rfl | hs
     ·exact b
     ·exact g s hs⟩
   ·rintro ⟨a, g⟩
    exact ⟨⟨a, g _ List.mem_cons_self⟩, fun s hs => g s (List.mem_cons_of_mem _ hs)⟩)
  refine ⟨r, h1, Ev.step (fun k => ?_) h2⟩
  rw [bitemporalref02_start.l3, if_pos (by omega)]
  rfl
theorem start_ev (n : Nat) (hn : n ≤ 8) (l : List S51) (hl : ∀ s ∈ l, s.f2.length < 1000000) (hll : l.length < 1000000) (hok : ∀ s ∈ l, cOk n s) : ∃ m, AgP n m (Start l) ∧ Ev (fun k => bitemporalref02_start.f k (n : Int) l) m := by
 have hsz : wrap64 (wrap64 (13 * (n : Int)) * (n : Int)) = ((13 * (n * n) : Nat) : Int) := by
  have h1 : n * n ≤ 8 * 8 := Nat.mul_le_mul hn hn
  rw [show wrap64 (13 * (n : Int)) = 13 * (n : Int) by unfold wrap64; omega, show 13 * (n : Int) * (n : Int) = ((13 * (n * n) : Nat) : Int) by push_cast; rw [Int.mul_assoc]]
  generalize n * n = p at h1 ⊢
  unfold wrap64
  omega
 obtain ⟨r, h1, h2⟩ := st_l0 n hn l (fun r => AgP n r (Start l)) (fun m h => by
  have hA : AgP n m (fun i j c => i = j → c = 6) := ⟨h.1, fun i j c hi hj hc => h.2 i j c hi hj hc (Or.inl hi)⟩
  obtain ⟨r, h1, h2⟩ := st_l3 n hn l hl hll hok l.length 0 m _ (by omega) hA
  refine ⟨r, h1.congr fun i j c _ _ hc => ?_, h2⟩
  rw [List.drop_zero]
  exact ⟨fun x => ⟨hc, x.1, x.2⟩, fun x => ⟨x.2.1, x.2.2⟩⟩) n 0 (List.replicate (13 * (n * n)) false) (by omega) ⟨List.length_replicate, fun i' j' c' _ _ _ hlt => by omega⟩
 refine ⟨r, h1, Ev.congr (fun k => ?_) h2⟩
 have h64 : n * n ≤ 8 * 8 := Nat.mul_le_mul hn hn
 unfold bitemporalref02_start.f
 rw [hsz, if_pos (by omega), Int.toNat_natCast, if_pos (by omega)]
 rfl
end Go.Proofs.Ytoemcdkopnclbaa.A
