/-
  The reference's Tighten: its rounds end in a network of which nothing can be removed; its answer's list.
-/
import Derived.Test.YtoemcdkopnclbaaVLRefO
import Derived.Test.YtoemcdkopnclbaaVLNet
import Derived.Test.YtoemcdkopnclbaaVAx18
namespace Go.Proofs.Ytoemcdkopnclbaa.A
open Go.RowKit Go.Proofs.YtoemcdkopnclbaaW.PrintWords Go.Proofs.YtoemcdkopnclbaaW.PrintLast Go.Proofs.YtoemcdkopnclbaaW.PrintMore
set_option linter.unusedVariables false
set_option linter.unusedSimpArgs false
theorem sz13 (n : Nat) (hn : n ≤ 8) : wrap64 (wrap64 (13 * (n : Int)) * (n : Int)) = ((13 * (n * n) : Nat) : Int) := by
 have h1 : n * n ≤ 8 * 8 := Nat.mul_le_mul hn hn
 rw [show wrap64 (13 * (n : Int)) = 13 * (n : Int) by unfold wrap64; omega, show 13 * (n : Int) * (n : Int) = ((13 * (n * n) : Nat) : Int) by push_cast; rw [Int.mul_assoc]]
 generalize n * n = p at h1 ⊢
 unfold wrap64
 omega
theorem cnt_zero {n : Nat} {m : List Bool} (hm : m.length = 13 * (n * n)) (h : cnt m = 0) : AllP n m := by
 intro i j c k hi hj hc _ ht
 have hl := n2_lt n i j c hi hj hc
 have hnot : true ∉ m := List.count_eq_zero.1 h
 unfold aB at ht
 rw [List.getD_eq_getElem?_getD, List.getElem?_eq_getElem (by omega), Option.getD_some] at ht
 exact absurd (ht ▸ List.getElem_mem (by omega)) hnot
theorem ti_l0 (n : Nat) (hn : n ≤ 8) (m0 : List Bool) (hm0 : m0.length = 13 * (n * n)) (Fin : List S51 × Bool → Prop) (hk : ∀ M, (∃ r, RedP n m0 r M) → AllP n M → ∃ R, Fin R ∧ Ev (fun f => bitemporalref02_Tighten.j2 f (n : Int) M) R) :
  ∀ (d q : Nat) (m : List Bool) (r : Nat), q + d = 13 * (n * n) → RedP n m0 r m → q ≤ r → ∃ R, Fin R ∧ Ev (fun f => bitemporalref02_Tighten.l0 f (n : Int) (b3 15) m (q : Int)) R
 | 0, q, m, r, hq, h, hr => by
  have hm := h.1.trans hm0
  have h1 := h.2.1
  have h2 : cnt m0 ≤ m0.length := List.count_le_length
  obtain ⟨R, h3, h4⟩ := hk m ⟨r, h⟩ (cnt_zero hm (by omega))
  refine ⟨R, h3, Ev.step (fun f => ?_) h4⟩
  rw [bitemporalref02_Tighten.l0, sz13 n hn, if_neg (by omega)]
 | d + 1, q, m, r, hq, h, hr => by
  have hm := h.1.trans hm0
  have h64 : n * n ≤ 8 * 8 := Nat.mul_le_mul hn hn
  obtain ⟨r', m', g1, g2, g3⟩ := once_ev n hn m hm
  by_cases h0 : r' = 0
  ·obtain ⟨e, hall⟩ := g2 h0
   subst e
   obtain ⟨R, h3, h4⟩ := hk m' ⟨r, h⟩ hall
   refine ⟨R, h3, Ev.stepB g3 (fun f hf => ?_) h4⟩
   rw [bitemporalref02_Tighten.l0, sz13 n hn, if_pos (by omega), hf, Option.bind_some, if_neg (show ¬ (r' : Int) > 0 by omega)]
  ·obtain ⟨R, h3, h4⟩ := ti_l0 n hn m0 hm0 Fin hk d (q + 1) m' (r + r') (by omega) (h.trans g1) (by omega)
   refine ⟨R, h3, Ev.stepB g3 (fun f hf => ?_) h4⟩
   rw [bitemporalref02_Tighten.l0, sz13 n hn, if_pos (by omega), hf, Option.bind_some, if_pos (show (r' : Int) > 0 by omega), w64 q (by omega)]
theorem to_l3 (n : Nat) (hn : n ≤ 8) (M : List Bool) (hM : M.length = 13 * (n * n)) (W : List Nat) (hW : NetOk W) (hA : ∀ i j c, i < n → j < n → c < 13 → (aB n M i j c = true ↔ Bt W i j c)) (i j : Nat) (hi : i < n) (hj : j < n) (out : List S51) (R : List S51 × Bool) (h : Ev (fun f => bitemporalref02_Tighten.l3 f (n : Int) M out (i : Int) (j : Int) (listS (netAt W i j)) 13) R) :
  ∀ (d c : Nat) (acc : List Int), c + d = 13 → acc.length ≤ c → acc ++ listFrom (netAt W i j) d c = listS (netAt W i j) → Ev (fun f => bitemporalref02_Tighten.l3 f (n : Int) M out (i : Int) (j : Int) acc (c : Int)) R
 | 0, c, acc, hc, hl, he => by
  obtain rfl : c = 13 := by omega
  rw [listFrom, List.append_nil] at he
  rw [he]
  exact h
 | d + 1, c, acc, hc, hl, he => by
  have hc13 : c < 13 := by omega
  have hx := ixw n i j c hn (by omega) (by omega) hc13
  have hl2 := n2_lt n i j c hi hj hc13
  have ha := hA i j c hi hj hc13
  rw [listFrom] at he
  by_cases hb : (netAt W i j).testBit c = true
  ·rw [if_pos hb] at he
   refine Ev.step (fun f => ?_) (to_l3 n hn M hM W hW hA i j hi hj out R h d (c + 1) (acc ++ [(c : Int)]) (by omega) (by rw [List.length_append]; simp; omega) (by rw [List.append_assoc]; exact he))
   rw [bitemporalref02_Tighten.l3, if_pos (by omega), hx, if_pos (by omega), if_pos (by rw [hM]; omega), rd_aB, if_pos (ha.2 hb), if_pos (by omega), w64 c (by omega)]
  ·rw [if_neg hb] at he
   refine Ev.step (fun f => ?_) (to_l3 n hn M hM W hW hA i j hi hj out R h d (c + 1) acc (by omega) (by omega) he)
   rw [bitemporalref02_Tighten.l3, if_pos (by omega), hx, if_pos (by omega), if_pos (by rw [hM]; omega), rd_aB, if_neg (fun x => hb (ha.1 x)), w64 c (by omega)]
theorem listS_ne (W : List Nat) (hW : NetOk W) (i j : Nat) (h : netAt W i j ≠ 0) : (listS (netAt W i j)).length ≠ 0 := by
 intro e
 apply h
 refine Nat.eq_of_testBit_eq fun c => ?_
 rw [Nat.zero_testBit]
 by_cases hb : (netAt W i j).testBit c = true
 ·have hc : c < 13 := by
   rcases Nat.lt_or_ge c 13 with h1 | h1
   ·exact h1
   ·have := Nat.testBit_lt_two_pow (x := netAt W i j) (i := c) (Nat.lt_of_lt_of_le (hW.at i j) (show 8192 ≤ 2 ^ c from Nat.pow_le_pow_right (n := 2) (i := 13) (j := c) (by decide) (by omega)))
    rw [hb] at this
    cases this
  have := (listS_mem (netAt W i j) (c : Int)).2 ⟨c, rfl, hc, hb⟩
  rw [List.length_eq_zero_iff.1 e] at this
  simp at this
 ·exact Bool.eq_false_iff.2 hb
theorem row_d (n : Nat) (W : List Nat) (i : Nat) (hi : i ≤ n) : ∀ e, e ≤ i → rowL W i n (e + (n - i)) = rowL W i n (n - i)
 | 0, _ => by rw [Nat.zero_add]
 | e + 1, he => by
  rw [show e + 1 + (n - i) = (e + (n - i)) + 1 by omega, rowL, if_neg (by omega), List.nil_append]
  exact row_d n W i hi e (by omega)
theorem to_l2_ok (n : Nat) (hn : n ≤ 8) (M : List Bool) (hM : M.length = 13 * (n * n)) (W : List Nat) (hW : NetOk W) (hA : ∀ i j c, i < n → j < n → c < 13 → (aB n M i j c = true ↔ Bt W i j c)) (i : Nat) (hi : i < n) (R : List S51 × Bool) : ∀ (d j : Nat) (out : List S51), j + d = n → i ≤ j → out.length ≤ i * 8 + j → (∀ j', j ≤ j' → j' < n → netAt W i j' ≠ 0) →
  Ev (fun f => bitemporalref02_Tighten.l1 f (n : Int) M (out ++ rowL W i n d) ((i + 1 : Nat) : Int)) R → Ev (fun f => bitemporalref02_Tighten.l2 f (n : Int) M out (i : Int) (j : Int)) R
 | 0, j, out, hj, hij, ho, hz, h => by
  rw [rowL, List.append_nil] at h
  refine Ev.step (fun f => ?_) h
  rw [bitemporalref02_Tighten.l2, if_neg (by omega), w64 i (by omega)]
 | d + 1, j, out, hj, hij, ho, hz, h => by
  have hne := listS_ne W hW i j (hz j (Nat.le_refl _) (by omega))
  rw [rowL, show n - (d + 1) = j by omega] at h
  have key : Ev (fun f => bitemporalref02_Tighten.l3 f (n : Int) M out (i : Int) (j : Int) (listS (netAt W i j)) 13) R := by
   by_cases e : i < j
   ·rw [if_pos e, ← List.append_assoc] at h
    have ih := to_l2_ok n hn M hM W hW hA i hi R d (j + 1) (out ++ [⟨(i : Int), (j : Int), listS (netAt W i j)⟩]) (by omega) (by omega) (by rw [List.length_append, List.length_singleton]; omega) (fun j' h1 h2 => hz j' (by omega) h2) h
    refine Ev.step (fun f => ?_) ih
    rw [bitemporalref02_Tighten.l3, if_neg (by decide), if_neg (by omega), if_pos (by omega), if_pos (by omega), w64 j (by omega)]
   ·rw [if_neg e, List.nil_append] at h
    have ih := to_l2_ok n hn M hM W hW hA i hi R d (j + 1) out (by omega) (by omega) (by omega) (fun j' h1 h2 => hz j' (by omega) h2) h
    refine Ev.step (fun f => ?_) ih
    rw [bitemporalref02_Tighten.l3, if_neg (by decide), if_neg (by omega), if_neg (by omega), w64 j (by omega)]
  refine Ev.step (fun f => ?_) (to_l3 n hn M hM W hW hA i j hi (by omega) out R key 13 0 [] (by omega) (by simp) (by rw [List.nil_append]; rfl))
  rw [bitemporalref02_Tighten.l2, if_pos (by omega)]
  rfl
theorem to_l2_no (n : Nat) (hn : n ≤ 8) (M : List Bool) (hM : M.length = 13 * (n * n)) (W : List Nat) (hW : NetOk W) (hA : ∀ i j c, i < n → j < n → c < 13 → (aB n M i j c = true ↔ Bt W i j c)) (i : Nat) (hi : i < n) : ∀ (d j : Nat) (out : List S51), j + d = n → i ≤ j → out.length ≤ i * 8 + j → (∃ j', j ≤ j' ∧ j' < n ∧ netAt W i j' = 0) →
  Ev (fun f => bitemporalref02_Tighten.l2 f (n : Int) M out (i : Int) (j : Int)) ([], false)
 | 0, j, out, hj, hij, ho, hz => by obtain ⟨j', h1, h2, _⟩ := hz; omega
 | d + 1, j, out, hj, hij, ho, hz => by
  have key : Ev (fun f => bitemporalref02_Tighten.l3 f (n : Int) M out (i : Int) (j : Int) (listS (netAt W i j)) 13) ([], false) := by
   by_cases h0 : netAt W i j = 0
   ·refine Ev.step (f := fun _ => some ([], false)) (fun f => ?_) (Ev.now _)
    rw [h0, bitemporalref02_Tighten.l3, if_neg (by decide), if_pos (by decide)]
   ·have hne := listS_ne W hW i j h0
    have hz2 : ∃ j', j + 1 ≤ j' ∧ j' < n ∧ netAt W i j' = 0 := by
     obtain ⟨j', h1, h2, h3⟩ := hz
     refine ⟨j', ?_, h2, h3⟩
     by_cases e : j' = j
     ·subst e; exact absurd h3 h0
     ·omega
    by_cases e : i < j
    ·refine Ev.step (fun f => ?_) (to_l2_no n hn M hM W hW hA i hi d (j + 1) (out ++ [⟨(i : Int), (j : Int), listS (netAt W i j)⟩]) (by omega) (by omega) (by rw [List.length_append, List.length_singleton]; omega) hz2)
     rw [bitemporalref02_Tighten.l3, if_neg (by decide), if_neg (by omega), if_pos (by omega), if_pos (by omega), w64 j (by omega)]
    ·refine Ev.step (fun f => ?_) (to_l2_no n hn M hM W hW hA i hi d (j + 1) out (by omega) (by omega) (by omega) hz2)
     rw [bitemporalref02_Tighten.l3, if_neg (by decide), if_neg (by omega), if_neg (by omega), w64 j (by omega)]
  refine Ev.step (fun f => ?_) (to_l3 n hn M hM W hW hA i j hi (by omega) out _ key 13 0 [] (by omega) (by simp) (by rw [List.nil_append]; rfl))
  rw [bitemporalref02_Tighten.l2, if_pos (by omega)]
  rfl
theorem to_l1_ok (n : Nat) (hn : n ≤ 8) (M : List Bool) (hM : M.length = 13 * (n * n)) (W : List Nat) (hW : NetOk W) (hA : ∀ i j c, i < n → j < n → c < 13 → (aB n M i j c = true ↔ Bt W i j c)) : ∀ (d i : Nat) (out : List S51), i + d = n → out.length ≤ i * 8 → (∀ i' j, i ≤ i' → i' ≤ j → j < n → netAt W i' j ≠ 0) →
  Ev (fun f => bitemporalref02_Tighten.l1 f (n : Int) M out (i : Int)) (out ++ outL W n d, true)
 | 0, i, out, hi, ho, hz => by
  rw [outL, List.append_nil]
  refine Ev.step (f := fun _ => some (out, true)) (fun f => ?_) (Ev.now _)
  rw [bitemporalref02_Tighten.l1, if_neg (by omega)]
 | d + 1, i, out, hi, ho, hz => by
  have hr : rowL W i n n = rowL W i n (n - i) := by
   have := row_d n W i (by omega) i (Nat.le_refl _)
   rwa [show i + (n - i) = n by omega] at this
  have hlen := rowL_len W i n (n - i)
  have ih := to_l1_ok n hn M hM W hW hA d (i + 1) (out ++ rowL W i n (n - i)) (by omega) (by rw [List.length_append]; omega) (fun i' j h1 => hz i' j (by omega))
  rw [outL, show n - (d + 1) = i by omega, hr, ← List.append_assoc]
  refine Ev.step (fun f => ?_) (to_l2_ok n hn M hM W hW hA i (by omega) _ (n - i) i out (by omega) (Nat.le_refl _) (by omega) (fun j' h1 h2 => hz i j' (Nat.le_refl _) h1 h2) ih)
  rw [bitemporalref02_Tighten.l1, if_pos (by omega)]
theorem to_l1_no (n : Nat) (hn : n ≤ 8) (M : List Bool) (hM : M.length = 13 * (n * n)) (W : List Nat) (hW : NetOk W) (hA : ∀ i j c, i < n → j < n → c < 13 → (aB n M i j c = true ↔ Bt W i j c)) : ∀ (d i : Nat) (out : List S51), i + d = n → out.length ≤ i * 8 → (∃ i' j, i ≤ i' ∧ i' ≤ j ∧ j < n ∧ netAt W i' j = 0) →
  Ev (fun f => bitemporalref02_Tighten.l1 f (n : Int) M out (i : Int)) ([], false)
 | 0, i, out, hi, ho, hz => by obtain ⟨i', j, h1, h2, h3, _⟩ := hz; omega
 | d + 1, i, out, hi, ho, hz => by
  by_cases e : ∃ j, i ≤ j ∧ j < n ∧ netAt W i j = 0
  ·refine Ev.step (fun f => ?_) (to_l2_no n hn M hM W hW hA i (by omega) (n - i) i out (by omega) (Nat.le_refl _) (by omega) e)
   rw [bitemporalref02_Tighten.l1, if_pos (by omega)]
  ·have hlen := rowL_len W i n (n - i)
   have ih := to_l1_no n hn M hM W hW hA d (i + 1) (out ++ rowL W i n (n - i)) (by omega) (by rw [List.length_append]; omega) (by
    obtain ⟨i', j, h1, h2, h3, h4⟩ := hz
    refine ⟨i', j, ?_, h2, h3, h4⟩
    by_cases e2 : i' = i
    ·subst e2; exact absurd ⟨j, h2, h3, h4⟩ e
    ·omega)
   refine Ev.step (fun f => ?_) (to_l2_ok n hn M hM W hW hA i (by omega) _ (n - i) i out (by omega) (Nat.le_refl _) (by omega) (fun j' h1 h2 h3 => e ⟨j', h1, h2, h3⟩) ih)
   rw [bitemporalref02_Tighten.l1, if_pos (by omega)]
theorem to_j2_ok (n : Nat) (hn : n ≤ 8) (M : List Bool) (hM : M.length = 13 * (n * n)) (W : List Nat) (hW : NetOk W) (hA : ∀ i j c, i < n → j < n → c < 13 → (aB n M i j c = true ↔ Bt W i j c)) (hz : ∀ i j, i ≤ j → j < n → netAt W i j ≠ 0) : Ev (fun f => bitemporalref02_Tighten.j2 f (n : Int) M) (outL W n n, true) := by
 have h := to_l1_ok n hn M hM W hW hA n 0 [] (by omega) (by simp) (fun i' j _ => hz i' j)
 rw [List.nil_append] at h
 refine Ev.step (fun f => ?_) h
 rw [bitemporalref02_Tighten.j2]
 rfl
theorem to_j2_no (n : Nat) (hn : n ≤ 8) (M : List Bool) (hM : M.length = 13 * (n * n)) (W : List Nat) (hW : NetOk W) (hA : ∀ i j c, i < n → j < n → c < 13 → (aB n M i j c = true ↔ Bt W i j c)) (hz : ∃ i j, i ≤ j ∧ j < n ∧ netAt W i j = 0) : Ev (fun f => bitemporalref02_Tighten.j2 f (n : Int) M) ([], false) := by
 obtain ⟨i, j, h1, h2, h3⟩ := hz
 refine Ev.step (fun f => ?_) (to_l1_no n hn M hM W hW hA n 0 [] (by omega) (by simp) ⟨i, j, Nat.zero_le _, h1, h2, h3⟩)
 rw [bitemporalref02_Tighten.j2]
 rfl
end Go.Proofs.Ytoemcdkopnclbaa.A
