/-
  One round of the reference's tightening: what it removes, and what holds where it removes nothing.
-/
import Derived.Test.YtoemcdkopnclbaaVLRefS
import Derived.Test.YtoemcdkopnclbaaVAx17
namespace Go.Proofs.Ytoemcdkopnclbaa.A
open Go.RowKit Go.Proofs.YtoemcdkopnclbaaW.PrintWords Go.Proofs.YtoemcdkopnclbaaW.PrintLast Go.Proofs.YtoemcdkopnclbaaW.PrintMore
set_option linter.unusedVariables false
set_option linter.unusedSimpArgs false
def Poss (n : Nat) (m : List Bool) (i j k c : Nat) : Prop := ∃ a b, a < 13 ∧ b < 13 ∧ aB n m i k a = true ∧ aB n m k j b = true ∧ (tabAt a b).testBit c = true
theorem rd_aB (n : Nat) (m : List Bool) (i j c : Nat) : rdOf false m (N2 n i j c : Int) = aB n m i j c := rfl
theorem rd_tab (a b c : Nat) (ha : a < 13) (hb : b < 13) (hc : c < 13) : rdOf false (b3 15) (ix a b c : Int) = (tabAt a b).testBit c := by
 rw [tab_bit a b c ha hb hc, ← b_all.2 _ (show ix a b c < 2197 by unfold ix; omega)]
 rfl
theorem po_l1 (n : Nat) (hn : n ≤ 8) (m : List Bool) (hm : m.length = 13 * (n * n)) (i j k c : Nat) (hi : i < n) (hj : j < n) (hk : k < n) (hc : c < 13) (a : Nat) (ha : a < 13) (R : Bool) (h : Ev (fun f => bitemporalref02_possible.l0 f (b3 15) m (n : Int) (i : Int) (j : Int) (k : Int) (c : Int) ((a + 1 : Nat) : Int)) R) :
  ∀ d b : Nat, b + d = 13 → ∃ R', Ev (fun f => bitemporalref02_possible.l1 f (b3 15) m (n : Int) (i : Int) (j : Int) (k : Int) (c : Int) (a : Int) (b : Int)) R' ∧
   (R' = true ↔ R = true ∨ ∃ b', b ≤ b' ∧ b' < 13 ∧ aB n m k j b' = true ∧ (tabAt a b').testBit c = true)
 | 0, b, hb => by
  refine ⟨R, Ev.step (fun f => ?_) h, ⟨Or.inl, fun x => x.elim id (fun ⟨b', h1, h2, _⟩ => by omega)⟩⟩
  rw [bitemporalref02_possible.l1, if_neg (by omega), w64 a (by omega)]
 | d + 1, b, hb => by
  have hb13 : b < 13 := by omega
  have hx := ixw n k j b hn (by omega) (by omega) hb13
  have hl := n2_lt n k j b hk hj hb13
  obtain ⟨R', h1, h2⟩ := po_l1 n hn m hm i j k c hi hj hk hc a ha R h d (b + 1) (by omega)
  have hix : ix a b c < 2197 := by unfold ix; omega
  have skip : ¬ (aB n m k j b = true ∧ (tabAt a b).testBit c = true) → (R' = true ↔ R = true ∨ ∃ b', b ≤ b' ∧ b' < 13 ∧ aB n m k j b' = true ∧ (tabAt a b').testBit c = true) := by
   intro hne
   rw [h2]
   constructor
   ·rintro (x | ⟨b', y1, y2⟩)
    ·exact Or.inl x
    ·exact Or.inr ⟨b', by omega, y2⟩
   ·rintro (x | ⟨b', y1, y2, y3⟩)
    ·exact Or.inl x
    ·by_cases e : b' = b
     ·subst e; exact absurd y3 hne
     ·exact Or.inr ⟨b', by omega, y2, y3⟩
  by_cases e1 : aB n m k j b = true
  ·by_cases e2 : (tabAt a b).testBit c = true
   ·refine ⟨true, Ev.step (f := fun _ => some true) (fun f => ?_) (Ev.now _), ⟨fun _ => Or.inr ⟨b, Nat.le_refl _, hb13, e1, e2⟩, fun _ => rfl⟩⟩
    rw [bitemporalref02_possible.l1, if_pos (by omega), hx, if_pos (by omega), if_pos (by rw [hm]; omega), rd_aB, if_pos e1, ix_wrap a b c ha hb13 hc, if_pos (by omega), if_pos (by rw [b_all.1]; omega), rd_tab a b c ha hb13 hc, if_pos e2]
   ·refine ⟨R', Ev.step (fun f => ?_) h1, skip (fun x => e2 x.2)⟩
    rw [bitemporalref02_possible.l1, if_pos (by omega), hx, if_pos (by omega), if_pos (by rw [hm]; omega), rd_aB, if_pos e1, ix_wrap a b c ha hb13 hc, if_pos (by omega), if_pos (by rw [b_all.1]; omega), rd_tab a b c ha hb13 hc, if_neg e2, w64 b (by omega)]
  ·refine ⟨R', Ev.step (fun f => ?_) h1, skip (fun x => e1 x.1)⟩
   rw [bitemporalref02_possible.l1, if_pos (by omega), hx, if_pos (by omega), if_pos (by rw [hm]; omega), rd_aB, if_neg e1, w64 b (by omega)]
theorem po_l0 (n : Nat) (hn : n ≤ 8) (m : List Bool) (hm : m.length = 13 * (n * n)) (i j k c : Nat) (hi : i < n) (hj : j < n) (hk : k < n) (hc : c < 13) : ∀ d a : Nat, a + d = 13 → ∃ R, Ev (fun f => bitemporalref02_possible.l0 f (b3 15) m (n : Int) (i : Int) (j : Int) (k : Int) (c : Int) (a : Int)) R ∧
   (R = true ↔ ∃ a' b, a ≤ a' ∧ a' < 13 ∧ b < 13 ∧ aB n m i k a' = true ∧ aB n m k j b = true ∧ (tabAt a' b).testBit c = true)
 | 0, a, ha => by
  refine ⟨false, Ev.step (f := fun _ => some false) (fun f => ?_) (Ev.now _), ⟨fun x => (Bool.false_ne_true x).elim, fun ⟨a', b, h1, h2, _⟩ => by omega⟩⟩
  rw [bitemporalref02_possible.l0, if_neg (by omega)]
 | d + 1, a, ha => by
  have ha13 : a < 13 := by omega
  have hx := ixw n i k a hn (by omega) (by omega) ha13
  have hl := n2_lt n i k a hi hk ha13
  obtain ⟨R, h1, h2⟩ := po_l0 n hn m hm i j k c hi hj hk hc d (a + 1) (by omega)
  by_cases e1 : aB n m i k a = true
  ·obtain ⟨R', h3, h4⟩ := po_l1 n hn m hm i j k c hi hj hk hc a ha13 R h1 13 0 (by omega)
   refine ⟨R', Ev.step (fun f => ?_) h3, ?_⟩
   ·rw [bitemporalref02_possible.l0, if_pos (by omega), hx, if_pos (by omega), if_pos (by rw [hm]; omega), rd_aB, if_pos e1]
    rfl
   ·rw [h4, h2]
    constructor
    ·rintro (⟨a', b, y1, y2⟩ | ⟨b, y1, y2, y3, y4⟩)
     ·exact ⟨a', b, by omega, y2⟩
     ·exact ⟨a, b, Nat.le_refl _, ha13, y2, e1, y3, y4⟩
    ·rintro ⟨a', b, y1, y2, y3, y4, y5, y6⟩
     by_cases e : a' = a
     ·subst e; exact Or.inr ⟨b, Nat.zero_le _, y3, y5, y6⟩
     ·exact Or.inl ⟨a', b, by omega, y2, y3, y4, y5, y6⟩
  ·refine ⟨R, Ev.step (fun f => ?_) h1, ?_⟩
   ·rw [bitemporalref02_possible.l0, if_pos (by omega), hx, if_pos (by omega), if_pos (by rw [hm]; omega), rd_aB, if_neg e1, w64 a (by omega)]
   ·rw [h2]
    constructor
    ·rintro ⟨a', b, y1, y2⟩
     exact ⟨a', b, by omega, y2⟩
    ·rintro ⟨a', b, y1, y2, y3, y4, y5⟩
     by_cases e : a' = a
     ·subst e; exact absurd y4 e1
     ·exact ⟨a', b, by omega, y2, y3, y4, y5⟩
theorem poss_ev (n : Nat) (hn : n ≤ 8) (m : List Bool) (hm : m.length = 13 * (n * n)) (i j k c : Nat) (hi : i < n) (hj : j < n) (hk : k < n) (hc : c < 13) : ∃ R, Ev (fun f => bitemporalref02_possible.f f (b3 15) m (n : Int) (i : Int) (j : Int) (k : Int) (c : Int)) R ∧ (R = true ↔ Poss n m i j k c) := by
 obtain ⟨R, h1, h2⟩ := po_l0 n hn m hm i j k c hi hj hk hc 13 0 (by omega)
 refine ⟨R, h1, h2.trans ⟨fun ⟨a, b, _, y⟩ => ⟨a, b, y⟩, fun ⟨a, b, y⟩ => ⟨a, b, Nat.zero_le _, y⟩⟩⟩
def cnt (m : List Bool) : Nat := m.count true
theorem cnt_set : ∀ (m : List Bool) (q : Nat), cnt (m.set q false) + (if m.getD q false = true then 1 else 0) = cnt m
 | [], q => by simp [cnt]
 | b :: m, 0 => by cases b <;> simp [cnt]
 | b :: m, q + 1 => by
  have := cnt_set m q
  unfold cnt at this ⊢
  rw [List.set_cons_succ, List.count_cons, List.count_cons, List.getD_cons_succ]
  omega
def SymS (n : Nat) (S : Nat → Nat → Nat → Prop) : Prop := ∀ i j c, i < n → j < n → c < 13 → S i j c → S j i (12 - c)
def SubB (n : Nat) (S : Nat → Nat → Nat → Prop) (m : List Bool) : Prop := ∀ i j c, i < n → j < n → c < 13 → S i j c → aB n m i j c = true
def Low (S : Nat → Nat → Nat → Prop) : Prop := ∀ i j c, S i j c → c < 13
def RedP (n : Nat) (m : List Bool) (r : Nat) (m' : List Bool) : Prop :=
 m'.length = m.length ∧ cnt m' + r ≤ cnt m ∧ (∀ S, Low S → SymS n S → Clo n S → SubB n S m → SubB n S m') ∧ ∀ i j c, i < n → j < n → c < 13 → aB n m' i j c = true → aB n m i j c = true
theorem RedP.refl (n : Nat) (m : List Bool) : RedP n m 0 m := ⟨rfl, Nat.le_refl _, fun _ _ _ _ h => h, fun _ _ _ _ _ _ h => h⟩
theorem RedP.trans {n : Nat} {m m' m'' : List Bool} {r r' : Nat} (h : RedP n m r m') (g : RedP n m' r' m'') : RedP n m (r + r') m'' :=
 ⟨g.1.trans h.1, by have := h.2.1; have := g.2.1; omega, fun S a b c d => g.2.2.1 S a b c (h.2.2.1 S a b c d), fun i j c a b d x => h.2.2.2 i j c a b d (g.2.2.2 i j c a b d x)⟩
def clr (n : Nat) (m : List Bool) (i j c : Nat) : List Bool := (m.set (N2 n i j c) false).set (N2 n j i (12 - c)) false
theorem clr_at {n : Nat} {m : List Bool} (hm : m.length = 13 * (n * n)) (i j c : Nat) (hi : i < n) (hj : j < n) (hc : c < 13) (i' j' c' : Nat) (hj' : j' < n) (hc' : c' < 13) :
  aB n (clr n m i j c) i' j' c' = true ↔ aB n m i' j' c' = true ∧ ¬ (i' = i ∧ j' = j ∧ c' = c) ∧ ¬ (i' = j ∧ j' = i ∧ c' = 12 - c) := by
 unfold clr
 rw [aB_set (by rw [List.length_set]; exact hm) j i (12 - c) false hj hi (by omega) i' j' c' hj' hc', aB_set hm i j c false hi hj hc i' j' c' hj' hc']
 by_cases e1 : i' = j ∧ j' = i ∧ c' = 12 - c
 ·rw [if_pos e1]
  exact ⟨fun x => (Bool.false_ne_true x).elim, fun x => absurd e1 x.2.2⟩
 ·rw [if_neg e1]
  by_cases e2 : i' = i ∧ j' = j ∧ c' = c
  ·rw [if_pos e2]
   exact ⟨fun x => (Bool.false_ne_true x).elim, fun x => absurd e2 x.2.1⟩
  ·rw [if_neg e2]
   exact ⟨fun x => ⟨x, e2, e1⟩, fun x => x.1⟩
theorem clr_red {n : Nat} {m : List Bool} (hm : m.length = 13 * (n * n)) (i j k c : Nat) (hi : i < n) (hj : j < n) (hk : k < n) (hc : c < 13) (ht : aB n m i j c = true) (hp : ¬ Poss n m i j k c) : RedP n m 1 (clr n m i j c) := by
 refine ⟨by unfold clr; rw [List.length_set, List.length_set], ?_, ?_, fun i' j' c' _ hj' hc' x => ((clr_at hm i j c hi hj hc i' j' c' hj' hc').1 x).1⟩
 ·have h1 := cnt_set m (N2 n i j c)
  rw [if_pos (show m.getD (N2 n i j c) false = true from ht)] at h1
  have h2 := cnt_set (m.set (N2 n i j c) false) (N2 n j i (12 - c))
  unfold clr
  omega
 ·intro S hL hSy hC hs i' j' c' hi' hj' hc' hS
  have hno : ¬ S i j c := by
   intro x
   obtain ⟨a, b, _, _, y1, y2, y3⟩ := hC i j k c hi hj hk x
   have l1 := hL _ _ _ y1
   have l2 := hL _ _ _ y2
   exact hp ⟨a, b, l1, l2, hs _ _ _ hi hk l1 y1, hs _ _ _ hk hj l2 y2, y3⟩
  refine (clr_at hm i j c hi hj hc i' j' c' hj' hc').2 ⟨hs _ _ _ hi' hj' hc' hS, ?_, ?_⟩
  ·rintro ⟨rfl, rfl, rfl⟩
   exact hno hS
  ·rintro ⟨rfl, rfl, rfl⟩
   have := hSy _ _ _ hi' hj' hc' hS
   rw [show 12 - (12 - c) = c by omega] at this
   exact hno this
def Bef (i j c k i' j' c' k' : Nat) : Prop := i' < i ∨ (i' = i ∧ (j' < j ∨ (j' = j ∧ (c' < c ∨ (c' = c ∧ k' < k)))))
def Inv (n : Nat) (m0 : List Bool) (i j c k r : Nat) (m : List Bool) : Prop :=
 RedP n m0 r m ∧ (r = 0 → m = m0 ∧ ∀ i' j' c' k', i' < n → j' < n → c' < 13 → k' < n → Bef i j c k i' j' c' k' → aB n m0 i' j' c' = true → Poss n m0 i' j' k' c')
theorem Inv.to {n i j c k r i2 j2 c2 k2 : Nat} {m0 m : List Bool} (h : Inv n m0 i j c k r m) (e : ∀ i' j' c' k', i' < n → j' < n → c' < 13 → k' < n → Bef i2 j2 c2 k2 i' j' c' k' → Bef i j c k i' j' c' k') : Inv n m0 i2 j2 c2 k2 r m :=
 ⟨h.1, fun hr => ⟨(h.2 hr).1, fun i' j' c' k' a b d f g => (h.2 hr).2 i' j' c' k' a b d f (e i' j' c' k' a b d f g)⟩⟩
theorem rem_lt (n : Nat) (hn : n ≤ 8) (m0 : List Bool) (hm0 : m0.length = 13 * (n * n)) {r : Nat} {m : List Bool} (h : RedP n m0 r m) : r < 10000 ∧ m.length = 13 * (n * n) := by
 have h1 := h.2.1
 have h2 : cnt m0 ≤ m0.length := List.count_le_length
 have h3 : n * n ≤ 8 * 8 := Nat.mul_le_mul hn hn
 exact ⟨by omega, h.1.trans hm0⟩
theorem on_l3 (n : Nat) (hn : n ≤ 8) (m0 : List Bool) (hm0 : m0.length = 13 * (n * n)) (Fin : Int × List Bool → Prop) (i j c : Nat) (hi : i < n) (hj : j < n) (hc : c < 13)
  (hk : ∀ m r, Inv n m0 i j c n r m → ∃ R, Fin R ∧ Ev (fun f => bitemporalref02_once.l2 f (b3 15) m (n : Int) (r : Int) (i : Int) (j : Int) ((c + 1 : Nat) : Int)) R) :
  ∀ (d k : Nat) (m : List Bool) (r : Nat), k + d = n → Inv n m0 i j c k r m → ∃ R, Fin R ∧ Ev (fun f => bitemporalref02_once.l3 f (b3 15) m (n : Int) (r : Int) (i : Int) (j : Int) (c : Int) (k : Int)) R
 | 0, k, m, r, hk2, h => by
  obtain rfl : k = n := by omega
  obtain ⟨R, h1, h2⟩ := hk m r h
  refine ⟨R, h1, Ev.step (fun f => ?_) h2⟩
  rw [bitemporalref02_once.l3, if_neg (by omega), w64 c (by omega)]
 | d + 1, k, m, r, hk2, h => by
  have hkn : k < n := by omega
  obtain ⟨hr, hm⟩ := rem_lt n hn m0 hm0 h.1
  have hx := ixw n i j c hn (by omega) (by omega) hc
  have hl := n2_lt n i j c hi hj hc
  have step : (aB n m i j c = true → Poss n m i j k c) → Inv n m0 i j c (k + 1) r m := fun hp => ⟨h.1, fun h0 => ⟨(h.2 h0).1, fun i' j' c' k' a b e f g t => by
   have hmm := (h.2 h0).1
   by_cases e2 : i' = i ∧ j' = j ∧ c' = c ∧ k' = k
   ·obtain ⟨rfl, rfl, rfl, rfl⟩ := e2
    rw [← hmm] at t ⊢
    exact hp t
   ·refine (h.2 h0).2 i' j' c' k' a b e f ?_ t
    unfold Bef at g ⊢
    omega⟩⟩
  by_cases ht : aB n m i j c = true
  ·obtain ⟨P, hP, hiff⟩ := poss_ev n hn m hm i j k c hi hj hkn hc
   by_cases hp : Poss n m i j k c
   ·obtain ⟨R, h1, h2⟩ := on_l3 n hn m0 hm0 Fin i j c hi hj hc hk d (k + 1) m r (by omega) (step (fun _ => hp))
    have hPt := hiff.2 hp
    refine ⟨R, h1, Ev.stepB hP (fun f hf => ?_) h2⟩
    rw [bitemporalref02_once.l3, if_pos (by omega), hx, if_pos (by omega), if_pos (by rw [hm]; omega), rd_aB, if_pos ht, hf, Option.bind_some, if_pos hPt, w64 k (by omega)]
   ·have hred := h.1.trans (clr_red hm i j k c hi hj hkn hc ht hp)
    have hx2 := ixw n j i (12 - c) hn (by omega) (by omega) (by omega)
    have hl2 := n2_lt n j i (12 - c) hj hi (by omega)
    obtain ⟨R, h1, h2⟩ := on_l3 n hn m0 hm0 Fin i j c hi hj hc hk d (k + 1) (clr n m i j c) (r + 1) (by omega) ⟨hred, fun x => by omega⟩
    have hPf : ¬ P = true := fun x => hp (hiff.1 x)
    refine ⟨R, h1, Ev.stepB hP (fun f hf => ?_) h2⟩
    rw [bitemporalref02_once.l3, if_pos (by omega), hx, if_pos (by omega), if_pos (by rw [hm]; omega), rd_aB, if_pos ht, hf, Option.bind_some, if_neg hPf, inv_r c hc, Option.bind_some, hx2, if_pos (by omega), if_pos (by rw [hm]; omega), Int.toNat_natCast, Int.toNat_natCast, w64 k (by omega), w64 r (by omega)]
    rfl
  ·obtain ⟨R, h1, h2⟩ := on_l3 n hn m0 hm0 Fin i j c hi hj hc hk d (k + 1) m r (by omega) (step (fun x => absurd x ht))
   refine ⟨R, h1, Ev.step (fun f => ?_) h2⟩
   rw [bitemporalref02_once.l3, if_pos (by omega), hx, if_pos (by omega), if_pos (by rw [hm]; omega), rd_aB, if_neg ht, w64 k (by omega)]
theorem on_l2 (n : Nat) (hn : n ≤ 8) (m0 : List Bool) (hm0 : m0.length = 13 * (n * n)) (Fin : Int × List Bool → Prop) (i j : Nat) (hi : i < n) (hj : j < n)
  (hk : ∀ m r, Inv n m0 i j 13 0 r m → ∃ R, Fin R ∧ Ev (fun f => bitemporalref02_once.l1 f (b3 15) m (n : Int) (r : Int) (i : Int) ((j + 1 : Nat) : Int)) R) :
  ∀ (d c : Nat) (m : List Bool) (r : Nat), c + d = 13 → Inv n m0 i j c 0 r m → ∃ R, Fin R ∧ Ev (fun f => bitemporalref02_once.l2 f (b3 15) m (n : Int) (r : Int) (i : Int) (j : Int) (c : Int)) R
 | 0, c, m, r, hc, h => by
  obtain rfl : c = 13 := by omega
  obtain ⟨R, h1, h2⟩ := hk m r h
  refine ⟨R, h1, Ev.step (fun f => ?_) h2⟩
  rw [bitemporalref02_once.l2, if_neg (by omega), w64 j (by omega)]
 | d + 1, c, m, r, hc, h => by
  obtain ⟨R, h1, h2⟩ := on_l3 n hn m0 hm0 Fin i j c hi hj (by omega) (fun m' r' h' => on_l2 n hn m0 hm0 Fin i j hi hj hk d (c + 1) m' r' (by omega) (h'.to (fun i' j' c' k' _ _ _ _ g => by unfold Bef at g ⊢; omega))) n 0 m r (by omega) h
  refine ⟨R, h1, Ev.step (fun f => ?_) h2⟩
  rw [bitemporalref02_once.l2, if_pos (by omega)]
  rfl
theorem on_l1 (n : Nat) (hn : n ≤ 8) (m0 : List Bool) (hm0 : m0.length = 13 * (n * n)) (Fin : Int × List Bool → Prop) (i : Nat) (hi : i < n)
  (hk : ∀ m r, Inv n m0 i n 0 0 r m → ∃ R, Fin R ∧ Ev (fun f => bitemporalref02_once.l0 f (b3 15) m (n : Int) (r : Int) ((i + 1 : Nat) : Int)) R) :
  ∀ (d j : Nat) (m : List Bool) (r : Nat), j + d = n → Inv n m0 i j 0 0 r m → ∃ R, Fin R ∧ Ev (fun f => bitemporalref02_once.l1 f (b3 15) m (n : Int) (r : Int) (i : Int) (j : Int)) R
 | 0, j, m, r, hj, h => by
  obtain rfl : j = n := by omega
  obtain ⟨R, h1, h2⟩ := hk m r h
  refine ⟨R, h1, Ev.step (fun f => ?_) h2⟩
  rw [bitemporalref02_once.l1, if_neg (by omega), w64 i (by omega)]
 | d + 1, j, m, r, hj, h => by
  obtain ⟨R, h1, h2⟩ := on_l2 n hn m0 hm0 Fin i j hi (by omega) (fun m' r' h' => on_l1 n hn m0 hm0 Fin i hi hk d (j + 1) m' r' (by omega) (h'.to (fun i' j' c' k' _ _ _ _ g => by unfold Bef at g ⊢; omega))) 13 0 m r (by omega) h
  refine ⟨R, h1, Ev.step (fun f => ?_) h2⟩
  rw [bitemporalref02_once.l1, if_pos (by omega)]
  rfl
theorem on_l0 (n : Nat) (hn : n ≤ 8) (m0 : List Bool) (hm0 : m0.length = 13 * (n * n)) (Fin : Int × List Bool → Prop) (hk : ∀ m (r : Nat), Inv n m0 n 0 0 0 r m → Fin ((r : Int), m)) :
  ∀ (d i : Nat) (m : List Bool) (r : Nat), i + d = n → Inv n m0 i 0 0 0 r m → ∃ R, Fin R ∧ Ev (fun f => bitemporalref02_once.l0 f (b3 15) m (n : Int) (r : Int) (i : Int)) R
 | 0, i, m, r, hi, h => by
  obtain rfl : i = n := by omega
  refine ⟨((r : Int), m), hk m r h, Ev.step (f := fun _ => some ((r : Int), m)) (fun f => ?_) (Ev.now _)⟩
  rw [bitemporalref02_once.l0, if_neg (by omega)]
 | d + 1, i, m, r, hi, h => by
  obtain ⟨R, h1, h2⟩ := on_l1 n hn m0 hm0 Fin i (by omega) (fun m' r' h' => on_l0 n hn m0 hm0 Fin hk d (i + 1) m' r' (by omega) (h'.to (fun i' j' c' k' _ _ _ _ g => by unfold Bef at g ⊢; omega))) n 0 m r (by omega) h
  refine ⟨R, h1, Ev.step (fun f => ?_) h2⟩
  rw [bitemporalref02_once.l0, if_pos (by omega)]
  rfl
def AllP (n : Nat) (m : List Bool) : Prop := ∀ i j c k, i < n → j < n → c < 13 → k < n → aB n m i j c = true → Poss n m i j k c
theorem once_ev (n : Nat) (hn : n ≤ 8) (m : List Bool) (hm : m.length = 13 * (n * n)) : ∃ (r : Nat) (m' : List Bool), RedP n m r m' ∧ (r = 0 → m' = m ∧ AllP n m) ∧ Ev (fun f => bitemporalref02_once.f f (b3 15) m (n : Int)) ((r : Int), m') := by
 obtain ⟨R, ⟨r, m', hR, h⟩, h2⟩ := on_l0 n hn m hm (fun R => ∃ (r : Nat) (m' : List Bool), R = ((r : Int), m') ∧ Inv n m n 0 0 0 r m') (fun m' r h => ⟨r, m', rfl, h⟩) n 0 m 0 (by omega)
  ⟨RedP.refl n m, fun _ => ⟨rfl, fun i' j' c' k' _ _ _ _ g => by unfold Bef at g; omega⟩⟩
 subst hR
 refine ⟨r, m', h.1, fun h0 => ⟨(h.2 h0).1, fun i j c k a b d e => (h.2 h0).2 i j c k a b d e (Or.inl a)⟩, h2⟩
end Go.Proofs.Ytoemcdkopnclbaa.A
