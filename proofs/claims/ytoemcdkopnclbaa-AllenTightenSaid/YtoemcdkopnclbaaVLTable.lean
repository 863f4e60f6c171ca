/-
  The reference's Table holds the same triples as the program's, and its Compose answers the same lists.
-/
import Derived.Test.YtoemcdkopnclbaaVAx13
import Derived.Test.YtoemcdkopnclbaaVAx14
import Derived.Test.YtoemcdkopnclbaaVLRel
import Derived.Test.YtoemcdkopnclbaaVHCompsP
import Derived.Test.YtoemcdkopnclbaaVHTightP
namespace Go.Proofs.Ytoemcdkopnclbaa.A
open Go.RowKit Go.Proofs.YtoemcdkopnclbaaW.PrintWords Go.Proofs.YtoemcdkopnclbaaW.PrintLast Go.Proofs.YtoemcdkopnclbaaW.PrintMore
set_option linter.unusedVariables false
set_option linter.unusedSimpArgs false
theorem Ev.stepL {α : Type} {g f : Nat → Option α} {r : α} (K : Nat) (h : ∀ k, K ≤ k → g (k + 1) = f k) (e : Ev f r) : Ev g r := by
 obtain ⟨K', h'⟩ := e
 refine ⟨K + K' + 1, fun k hk => ?_⟩
 obtain ⟨m, rfl⟩ : ∃ m, k = m + 1 := ⟨k - 1, by omega⟩
 rw [h m (by omega)]
 exact h' m (by omega)
theorem rel_l0 (a b c d : Int) : ∀ n i k : Nat, i + n = 13 → n < k → (∀ j : Nat, j < i → ¬ (VP a b ∧ VP c d ∧ relI a b c d = (j : Int))) → bitemporalref02_Relation.l0 k (i : Int) a b c d = some (if VP a b ∧ VP c d then (relI a b c d, true) else (0, false))
 | 0, i, k + 1, hi, hk, hj => by
  rw [bitemporalref02_Relation.l0, if_neg (by omega)]
  by_cases hv : VP a b ∧ VP c d
  ·have hr := relI_range a b c d
   exact absurd ⟨hv.1, hv.2, by omega⟩ (hj (relI a b c d).toNat (by omega))
  ·rw [if_neg hv]
 | n + 1, i, k + 1, hi, hk, hj => by
  rw [bitemporalref02_Relation.l0, if_pos (by omega), holds_r, Option.bind_some]
  by_cases h : VP a b ∧ VP c d ∧ relI a b c d = (i : Int)
  ·rw [if_pos (decide_eq_true h), if_pos ⟨h.1, h.2.1⟩, h.2.2]
  ·rw [if_neg (by simpa using h), show wrap64 ((i : Int) + 1) = ((i + 1 : Nat) : Int) by unfold wrap64; omega]
   refine rel_l0 a b c d n (i + 1) k (by omega) (by omega) (fun j hj2 => ?_)
   by_cases e : j = i
   ·subst e; exact h
   ·exact hj j (by omega)
theorem rel_r (k : Nat) (hk : 14 ≤ k) (a b c d : Int) : bitemporalref02_Relation.f k a b c d = some (if VP a b ∧ VP c d then (relI a b c d, true) else (0, false)) :=
 rel_l0 a b c d 13 0 k (by omega) (by omega) (fun j hj => absurd hj (by omega))
def P15 : List S23 := [⟨0, 1⟩, ⟨0, 2⟩, ⟨0, 3⟩, ⟨0, 4⟩, ⟨0, 5⟩, ⟨1, 2⟩, ⟨1, 3⟩, ⟨1, 4⟩, ⟨1, 5⟩, ⟨2, 3⟩, ⟨2, 4⟩, ⟨2, 5⟩, ⟨3, 4⟩, ⟨3, 5⟩, ⟨4, 5⟩]
def RB15 : Nat := 3358299173211400215676388620140558078728913249520899788282837688252413705465094489519990974394899308654505153378084383476304301111870771947165611185067792831547211207088364249313307828428895123978816620367463999826672719020601890972105475118921379422708063326327671042870
def r15 (i j : Nat) : Nat := (RB15 >>> (4 * (15 * i + j))) % 16
theorem r15_ok (i j : Nat) (hi : i < 15) (hj : j < 15) : r15 i j < 13 ∧ VP (qw1 P15 (i : Int)).f0 (qw1 P15 (i : Int)).f1 ∧ relI (qw1 P15 (i : Int)).f0 (qw1 P15 (i : Int)).f1 (qw1 P15 (j : Int)).f0 (qw1 P15 (j : Int)).f1 = (r15 i j : Int) := by
 have h : ∀ i < 15, ∀ j < 15, r15 i j < 13 ∧ VP (qw1 P15 ((i : Nat) : Int)).f0 (qw1 P15 ((i : Nat) : Int)).f1 ∧ relI (qw1 P15 ((i : Nat) : Int)).f0 (qw1 P15 ((i : Nat) : Int)).f1 (qw1 P15 ((j : Nat) : Int)).f0 (qw1 P15 ((j : Nat) : Int)).f1 = ((r15 i j : Nat) : Int) := by decide +kernel
 exact h i hi j hj
theorem r15_rel (k i j : Nat) (hk : 14 ≤ k) (hi : i < 15) (hj : j < 15) : bitemporalref02_Relation.f k (qw1 P15 (i : Int)).f0 (qw1 P15 (i : Int)).f1 (qw1 P15 (j : Int)).f0 (qw1 P15 (j : Int)).f1 = some ((r15 i j : Int), true) := by
 obtain ⟨_, h1, h2⟩ := r15_ok i j hi hj
 obtain ⟨_, h3, _⟩ := r15_ok j i hj hi
 rw [rel_r k hk, if_pos ⟨h1, h3⟩, h2]
def ix (a b c : Nat) : Nat := 169 * a + 13 * b + c
def b5 (x : List Bool) (i j : Nat) : Nat → List Bool
 | 0 => x
 | m + 1 => (b5 x i j m).set (ix (r15 i j) (r15 j m) (r15 i m)) true
def b4 (x : List Bool) (i : Nat) : Nat → List Bool
 | 0 => x
 | j + 1 => b5 (b4 x i j) i j 15
def b3 : Nat → List Bool
 | 0 => List.replicate 2197 false
 | i + 1 => b4 (b3 i) i 15
def a5 (x i j : Nat) : Nat → Nat
 | 0 => x
 | m + 1 => a5 x i j m ||| 2 ^ ix (r15 i j) (r15 j m) (r15 i m)
def a4 (x i : Nat) : Nat → Nat
 | 0 => x
 | j + 1 => a5 (a4 x i j) i j 15
def a3 : Nat → Nat
 | 0 => 0
 | i + 1 => a4 (a3 i) i 15
set_option maxRecDepth 100000 in
theorem a_all : a3 15 = TBIG := by decide +kernel
def AgB (x : List Bool) (a : Nat) : Prop := x.length = 2197 ∧ ∀ q, q < 2197 → x.getD q false = a.testBit q
theorem AgB.set {x : List Bool} {a : Nat} (h : AgB x a) (i : Nat) : AgB (x.set i true) (a ||| 2 ^ i) := by
 refine ⟨by rw [List.length_set]; exact h.1, fun q hq => ?_⟩
 rw [Nat.testBit_or, Nat.testBit_two_pow, List.getD_eq_getElem?_getD, List.getElem?_set]
 by_cases e : i = q
 ·subst e
  rw [if_pos rfl, if_pos (by rw [h.1]; exact hq), decide_eq_true rfl, Bool.or_true]
  rfl
 ·have := h.2 q hq
  rw [List.getD_eq_getElem?_getD] at this
  rw [if_neg e, this, decide_eq_false e, Bool.or_false]
theorem b5_ag {x : List Bool} {a : Nat} (h : AgB x a) (i j : Nat) : ∀ m, AgB (b5 x i j m) (a5 a i j m)
 | 0 => h
 | m + 1 => (b5_ag h i j m).set _
theorem b4_ag {x : List Bool} {a : Nat} (h : AgB x a) (i : Nat) : ∀ j, AgB (b4 x i j) (a4 a i j)
 | 0 => h
 | j + 1 => b5_ag (b4_ag h i j) i j 15
theorem b3_ag : ∀ i, AgB (b3 i) (a3 i)
 | 0 => by
  refine ⟨List.length_replicate, fun q hq => ?_⟩
  rw [b3, a3, Nat.zero_testBit, List.getD_eq_getElem?_getD, List.getElem?_replicate, if_pos hq]
  rfl
 | i + 1 => b4_ag (b3_ag i) i 15
theorem b_all : AgB (b3 15) TBIG := by rw [← a_all]; exact b3_ag 15
theorem up (i : Nat) (h : i < 1000) : wrap64 ((i : Int) + 1) = ((i + 1 : Nat) : Int) := by unfold wrap64; omega
theorem ix_wrap (a b c : Nat) (ha : a < 13) (hb : b < 13) (hc : c < 13) : wrap64 (wrap64 (wrap64 (169 * (a : Int)) + wrap64 (13 * (b : Int))) + (c : Int)) = (ix a b c : Int) := by unfold wrap64 ix; omega
theorem P15_len : P15.length = 15 := rfl
theorem tl2 (i j : Nat) (hi : i < 15) (hj : j < 15) (R x : List Bool) (a : Nat) (h0 : AgB x a) (hR : Ev (fun k => bitemporalref02_Table.l1 k P15 (b5 x i j 15) (i : Int) ((j + 1 : Nat) : Int)) R) :
  ∀ d m, m + d = 15 → Ev (fun k => bitemporalref02_Table.l2 k P15 (b5 x i j m) (i : Int) (j : Int) (r15 i j : Int) (m : Int)) R
 | 0, m, hm => by
  obtain rfl : m = 15 := by omega
  refine Ev.stepL 0 (fun k _ => ?_) hR
  rw [bitemporalref02_Table.l2, if_neg (by rw [P15_len]; decide), up j (by omega)]
 | d + 1, m, hm => by
  refine Ev.stepL 20 (fun k hk => ?_) (tl2 i j hi hj R x a h0 hR d (m + 1) (by omega))
  have l1 := (r15_ok i j hi hj).1
  have l2 := (r15_ok j m hj (by omega)).1
  have l3 := (r15_ok i m hi (by omega)).1
  rw [bitemporalref02_Table.l2, if_pos (by rw [P15_len]; omega), if_pos (by omega), if_pos (by rw [P15_len]; omega), if_pos (by omega), r15_rel k j m (by omega) hj (by omega), Option.bind_some,
   if_pos (by omega), if_pos (by rw [P15_len]; omega), r15_rel k i m (by omega) hi (by omega), Option.bind_some, ix_wrap _ _ _ l1 l2 l3, if_pos (by omega),
   if_pos (by rw [(b5_ag h0 i j m).1]; unfold ix; omega), Int.toNat_natCast, up m (by omega)]
  rfl
theorem tl1 (i : Nat) (hi : i < 15) (R x : List Bool) (a : Nat) (h0 : AgB x a) (hR : Ev (fun k => bitemporalref02_Table.l0 k P15 (b4 x i 15) ((i + 1 : Nat) : Int)) R) :
  ∀ d j, j + d = 15 → Ev (fun k => bitemporalref02_Table.l1 k P15 (b4 x i j) (i : Int) (j : Int)) R
 | 0, j, hj => by
  obtain rfl : j = 15 := by omega
  refine Ev.stepL 0 (fun k _ => ?_) hR
  rw [bitemporalref02_Table.l1, if_neg (by rw [P15_len]; decide), up i (by omega)]
 | d + 1, j, hj => by
  have h1 := tl1 i hi R x a h0 hR d (j + 1) (by omega)
  have h2 := tl2 i j hi (by omega) R (b4 x i j) (a4 a i j) (b4_ag h0 i j) h1 15 0 (by omega)
  refine Ev.stepL 20 (fun k hk => ?_) h2
  rw [bitemporalref02_Table.l1, if_pos (by rw [P15_len]; omega), if_pos (by omega), if_pos (by rw [P15_len]; omega), if_pos (by omega), r15_rel k i j (by omega) hi (by omega), Option.bind_some]
  rfl
theorem tl0 : ∀ d i, i + d = 15 → Ev (fun k => bitemporalref02_Table.l0 k P15 (b3 i) (i : Int)) (b3 15)
 | 0, i, hi => by
  obtain rfl : i = 15 := by omega
  refine Ev.stepL 0 (fun k _ => ?_) (Ev.now _)
  rw [bitemporalref02_Table.l0, if_neg (by rw [P15_len]; decide)]
 | d + 1, i, hi => by
  have h1 := tl0 d (i + 1) (by omega)
  have h2 := tl1 i (by omega) (b3 15) (b3 i) (a3 i) (b3_ag i) h1 15 0 (by omega)
  refine Ev.stepL 0 (fun k _ => ?_) h2
  rw [bitemporalref02_Table.l0, if_pos (by rw [P15_len]; omega)]
  rfl
theorem small_ev : Ev (fun k => bitemporalref02_small.f k) P15 := Ev.of bitemporalref02_small.mono (k := 60) (by kernel_rfl)
theorem table_ev : Ev (fun k => bitemporalref02_Table.f k) (b3 15) := by
 have h := Ev.bind (f := fun k t => if 2197 ≤ 281474976710656 then bitemporalref02_Table.l0 k t (List.replicate 2197 false) 0 else none) small_ev (r := b3 15) (by
  refine Ev.congr (fun k => ?_) (tl0 15 0 (by omega))
  rw [if_pos (by decide)]
  rfl)
 exact h
theorem tab_bit (a b c : Nat) (ha : a < 13) (hb : b < 13) (hc : c < 13) : (tabAt a b).testBit c = TBIG.testBit (ix a b c) := by
 have hT : ∀ q < 169, TAB.getD q 0 = (TBIG >>> (13 * q)) % 2 ^ 13 := by decide +kernel
 unfold tabAt
 rw [hT (a * 13 + b) (by omega), Nat.testBit_mod_two_pow, Nat.testBit_shiftRight, decide_eq_true hc, Bool.true_and, show 13 * (a * 13 + b) + c = ix a b c by unfold ix; omega]
theorem ints_same (l : List Int) (hl : l.length < 4611686018427387904) : Ev (fun k => bitemporalref02_Ints.f k l l) true := by
 have key : ∀ d i, l.length - i = d → i ≤ l.length → Ev (fun k => bitemporalref02_Ints.l0 k l l (i : Int)) true := by
  intro d
  induction d with
  | zero =>
   intro i hd hi
   refine Ev.step (f := fun _ => some true) (fun k => ?_) (Ev.now _)
   simp only [bitemporalref02_Ints.l0]
   rw [if_neg (by omega)]
  | succ d ih =>
   intro i hd hi
   refine Ev.step (fun k => ?_) (ih (i + 1) (by omega) (by omega))
   simp only [bitemporalref02_Ints.l0]
   rw [if_pos (by omega), if_pos (by omega), if_pos (by omega), if_pos trivial, show wrap64 ((i : Int) + 1) = ((i + 1 : Nat) : Int) by unfold wrap64; omega]
 refine Ev.congr (fun k => ?_) (key _ 0 rfl (by omega))
 unfold bitemporalref02_Ints.f
 rw [if_pos rfl]
 rfl
end Go.Proofs.Ytoemcdkopnclbaa.A
