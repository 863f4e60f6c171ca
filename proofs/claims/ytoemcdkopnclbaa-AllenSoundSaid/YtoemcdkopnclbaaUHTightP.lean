/-
  The plain functions behind allen's Tighten: sets of lists and back, inverses, the first network, its limit, the answer.
-/
import Derived.Test.YtoemcdkopnclbaaUHNarrow
import Derived.Test.YtoemcdkopnclbaaUHInverse
namespace Go.Proofs.Ytoemcdkopnclbaa.A
open Go.RowKit Go.Proofs.YtoemcdkopnclbaaW.PrintWords Go.Proofs.YtoemcdkopnclbaaW.PrintLast Go.Proofs.YtoemcdkopnclbaaW.PrintMore
set_option linter.unusedVariables false
set_option linter.unusedSimpArgs false
def listFrom (s : Nat) : Nat → Nat → List Int
 | 0, _ => []
 | d + 1, i => if s.testBit i = true then (i : Int) :: listFrom s d (i + 1) else listFrom s d (i + 1)
def listS (s : Nat) : List Int := listFrom s 13 0
theorem w64 (i : Nat) (h : i < 10000000) : wrap64 ((i : Int) + 1) = ((i + 1 : Nat) : Int) := by unfold wrap64; omega
theorem listFrom_len (s : Nat) : ∀ d i, (listFrom s d i).length ≤ d
 | 0, _ => Nat.le_refl _
 | d + 1, i => by
  have := listFrom_len s d (i + 1)
  unfold listFrom
  split
  ·rw [List.length_cons]; omega
  ·omega
theorem listFrom_mem (s : Nat) : ∀ d i r, r ∈ listFrom s d i ↔ ∃ c : Nat, r = (c : Int) ∧ i ≤ c ∧ c < i + d ∧ s.testBit c = true
 | 0, i, r => by
  simp only [listFrom, List.not_mem_nil, false_iff]
  rintro ⟨c, _, h1, h2, _⟩
  omega
 | d + 1, i, r => by
  unfold listFrom
  by_cases hb : s.testBit i = true
  ·rw [if_pos hb, List.mem_cons, listFrom_mem s d (i + 1) r]
   constructor
   ·rintro (rfl | ⟨c, h0, h1, h2, h3⟩)
    ·exact ⟨i, rfl, by omega, by omega, hb⟩
    ·exact ⟨c, h0, by omega, by omega, h3⟩
   ·rintro ⟨c, h0, h1, h2, h3⟩
    by_cases hc : c = i
    ·subst hc; exact Or.inl h0
    ·exact Or.inr ⟨c, h0, by omega, by omega, h3⟩
  ·rw [if_neg hb, listFrom_mem s d (i + 1) r]
   constructor
   ·rintro ⟨c, h0, h1, h2, h3⟩
    exact ⟨c, h0, by omega, by omega, h3⟩
   ·rintro ⟨c, h0, h1, h2, h3⟩
    by_cases hc : c = i
    ·subst hc; exact absurd h3 hb
    ·exact ⟨c, h0, by omega, by omega, h3⟩
theorem listS_mem (s : Nat) (r : Int) : r ∈ listS s ↔ ∃ c : Nat, r = (c : Int) ∧ c < 13 ∧ s.testBit c = true := by
 rw [listS, listFrom_mem]
 constructor
 ·rintro ⟨c, h0, _, h2, h3⟩; exact ⟨c, h0, by omega, h3⟩
 ·rintro ⟨c, h0, h2, h3⟩; exact ⟨c, h0, by omega, by omega, h3⟩
theorem list_l0 (s : Nat) (hs : s < 65536) : ∀ d i k (acc : List Int), i + d = 13 → d < k → acc.length ≤ i → allen_set_list.l0 k acc (i : Int) (s : Int) = some (acc ++ listFrom s d i)
 | 0, i, k + 1, acc, hi, hk, ha => by
  rw [allen_set_list.l0, if_neg (by omega), listFrom, List.append_nil]
 | d + 1, i, k + 1, acc, hi, hk, ha => by
  rw [allen_set_list.l0, if_pos (by omega), has_f s i hs (by omega), Option.bind_some, w64 i (by omega), listFrom]
  by_cases hb : s.testBit i = true
  ·rw [if_pos hb, if_pos hb, if_pos (by omega), list_l0 s hs d (i + 1) k _ (by omega) (by omega) (by rw [List.length_append]; simp; omega), List.append_assoc]
   rfl
  ·rw [if_neg hb, if_neg hb, list_l0 s hs d (i + 1) k _ (by omega) (by omega) (by omega)]
theorem list_f (s k : Nat) (hs : s < 65536) (hk : 14 ≤ k) : allen_set_list.f k (s : Int) = some (listS s) := by
 have := list_l0 s hs 13 0 k [] (by omega) (by omega) (by simp)
 rw [List.nil_append] at this
 exact this
def valid13 (l : List Int) : Bool := l.all fun r => decide (0 ≤ r ∧ r < 13)
def ofS : List Int → Nat → Nat
 | [], s => s
 | r :: l, s => ofS l (s ||| 2 ^ r.toNat)
theorem ofS_lt : ∀ (l : List Int) (s : Nat), valid13 l = true → s < 8192 → ofS l s < 8192
 | [], s, _, hs => hs
 | r :: l, s, hv, hs => by
  simp only [valid13, List.all_cons, Bool.and_eq_true, decide_eq_true_eq] at hv
  exact ofS_lt l _ hv.2 (Nat.or_lt_two_pow (n := 13) hs (Nat.pow_lt_pow_right (by decide) (by omega)))
theorem rd_at (l : List Int) (i : Nat) (h : i < l.length) : rd l (i : Int) = l[i] := by
 simp [rd, List.getD_eq_getElem?_getD, List.getElem?_eq_getElem h]
theorem of_l0 (l : List Int) (hl : l.length < 1000000) : ∀ d i k (s : Nat), i + d = l.length → d < k → s < 8192 → allen_of.l0 k l (l.length : Int) (i : Int) (s : Int) = some (if valid13 (l.drop i) = true then ((ofS (l.drop i) s : Int), true) else (0, false))
 | 0, i, k + 1, s, hi, hk, hs => by
  rw [allen_of.l0, if_neg (by omega), List.drop_eq_nil_of_le (by omega)]
  rfl
 | d + 1, i, k + 1, s, hi, hk, hs => by
  have hlt : i < l.length := by omega
  rw [allen_of.l0, if_pos (by omega), if_pos (by omega), if_pos (by omega), rd_at l i hlt, exists_f, Option.bind_some, List.drop_eq_getElem_cons hlt]
  by_cases hr : 0 ≤ l[i] ∧ l[i] < 13
  ·obtain ⟨c, hc⟩ : ∃ c : Nat, l[i] = (c : Int) := ⟨l[i].toNat, by omega⟩
   rw [hc] at hr ⊢
   have hc13 : c < 13 := by omega
   rw [if_pos (decide_eq_true hr), one_f c hc13, Option.bind_some, or_f s (2 ^ c) (by omega) (Nat.lt_of_lt_of_le (Nat.pow_lt_pow_right (by decide) hc13) (by decide)), Option.bind_some, w64 i (by omega),
    of_l0 l hl d (i + 1) k (s ||| 2 ^ c) (by omega) (by omega) (Nat.or_lt_two_pow (n := 13) hs (Nat.pow_lt_pow_right (by decide) hc13))]
   have hv : valid13 ((c : Int) :: l.drop (i + 1)) = valid13 (l.drop (i + 1)) := by simp only [valid13, List.all_cons, decide_eq_true hr, Bool.true_and]
   rw [hv, ofS, Int.toNat_natCast]
  ·have hv : valid13 (l[i] :: l.drop (i + 1)) = false := by simp only [valid13, List.all_cons, decide_eq_false hr, Bool.false_and]
   rw [if_neg (by simpa using hr), hv]
   rfl
theorem of_f (l : List Int) (k : Nat) (hl : l.length < 1000000) (hk : l.length < k) : allen_of.f k l = some (if valid13 l = true then ((ofS l 0 : Int), true) else (0, false)) := by
 have := of_l0 l hl l.length 0 k 0 (by omega) hk (by decide)
 rw [List.drop_zero] at this
 exact this
def invL : List Int → Nat → Nat
 | [], s => s
 | r :: l, s => invL l (s ||| 2 ^ (12 - r.toNat))
def invS (s : Nat) : Nat := invL (listS s) 0
theorem inv_l0 (l : List Int) (hl : l.length < 1000) (hv : ∀ r ∈ l, 0 ≤ r ∧ r < 13) : ∀ d i k (s : Nat), i + d = l.length → d < k → s < 8192 → allen_set_inverse.l0 k l (l.length : Int) (i : Int) (s : Int) = some (invL (l.drop i) s : Int) ∧ invL (l.drop i) s < 8192
 | 0, i, k + 1, s, hi, hk, hs => by
  rw [allen_set_inverse.l0, if_neg (by omega), List.drop_eq_nil_of_le (by omega)]
  exact ⟨rfl, hs⟩
 | d + 1, i, k + 1, s, hi, hk, hs => by
  have hlt : i < l.length := by omega
  have hr := hv l[i] (List.getElem_mem hlt)
  rw [allen_set_inverse.l0, if_pos (by omega), if_pos (by omega), if_pos (by omega), rd_at l i hlt, List.drop_eq_getElem_cons hlt]
  obtain ⟨c, hc⟩ : ∃ c : Nat, l[i] = (c : Int) := ⟨l[i].toNat, by omega⟩
  rw [hc] at hr ⊢
  have hc13 : c < 13 := by omega
  have hI : allen_Inverse.f (c : Int) = some ((12 - c : Nat) : Int) := by unfold allen_Inverse.f; rw [if_pos hr]; congr 1; omega
  have hp : 2 ^ (12 - c) < 8192 := Nat.pow_lt_pow_right (a := 2) (n := 13) (by decide) (by omega)
  have hsp : s ||| 2 ^ (12 - c) < 8192 := Nat.or_lt_two_pow (n := 13) hs hp
  obtain ⟨h1, h2⟩ := inv_l0 l hl hv d (i + 1) k (s ||| 2 ^ (12 - c)) (by omega) (by omega) hsp
  rw [hI, Option.bind_some, one_f (12 - c) (by omega), Option.bind_some, or_f s (2 ^ (12 - c)) (by omega) (by omega), Option.bind_some, w64 i (by omega), h1, invL, Int.toNat_natCast]
  exact ⟨rfl, h2⟩
theorem inv_all (s k : Nat) (hs : s < 65536) (hk : 20 ≤ k) : allen_set_inverse.f k (s : Int) = some (invS s : Int) ∧ invS s < 8192 := by
 have hlen : (listS s).length ≤ 13 := listFrom_len s 13 0
 have h := inv_l0 (listS s) (by omega) (fun r hr => by obtain ⟨c, rfl, h1, _⟩ := (listS_mem s r).1 hr; omega) (listS s).length 0 k 0 (by omega) (by omega) (by decide)
 rw [List.drop_zero] at h
 refine ⟨?_, h.2⟩
 unfold allen_set_inverse.f
 rw [list_f s k hs (by omega), Option.bind_some]
 exact h.1
theorem inv_f (s k : Nat) (hs : s < 65536) (hk : 20 ≤ k) : allen_set_inverse.f k (s : Int) = some (invS s : Int) := (inv_all s k hs hk).1
theorem invL_bit : ∀ (l : List Int) (s c : Nat), (∀ r ∈ l, 0 ≤ r ∧ r < 13) → ((invL l s).testBit c = true ↔ s.testBit c = true ∨ ∃ r ∈ l, c = 12 - r.toNat)
 | [], s, c, _ => by simp [invL]
 | r :: l, s, c, hv => by
  rw [invL, invL_bit l _ c (fun x hx => hv x (by simp [hx])), Nat.testBit_or, Nat.testBit_two_pow, Bool.or_eq_true, decide_eq_true_eq]
  constructor
  ·rintro ((h | h) | ⟨x, hx, h⟩)
   ·exact Or.inl h
   ·exact Or.inr ⟨r, by simp, h.symm⟩
   ·exact Or.inr ⟨x, by simp [hx], h⟩
  ·rintro (h | ⟨x, hx, h⟩)
   ·exact Or.inl (Or.inl h)
   ·rcases List.mem_cons.1 hx with rfl | hx
    ·exact Or.inl (Or.inr h.symm)
    ·exact Or.inr ⟨x, hx, h⟩
theorem invS_bit (s c : Nat) : (invS s).testBit c = true ↔ c < 13 ∧ s.testBit (12 - c) = true := by
 have hv : ∀ r ∈ listS s, 0 ≤ r ∧ r < 13 := fun r hr => by obtain ⟨c, rfl, h1, _⟩ := (listS_mem s r).1 hr; omega
 rw [invS, invL_bit _ 0 c hv, Nat.zero_testBit]
 constructor
 ·rintro (h | ⟨r, hr, h⟩)
  ·simp at h
  ·obtain ⟨x, rfl, h1, h2⟩ := (listS_mem s r).1 hr
   rw [Int.toNat_natCast] at h
   subst h
   exact ⟨by omega, by rwa [show 12 - (12 - x) = x by omega]⟩
 ·rintro ⟨h1, h2⟩
  exact Or.inr ⟨((12 - c : Nat) : Int), (listS_mem s _).2 ⟨12 - c, rfl, by omega, h2⟩, by rw [Int.toNat_natCast]; omega⟩
theorem ofS_bit : ∀ (l : List Int) (s c : Nat), (∀ r ∈ l, 0 ≤ r ∧ r < 13) → ((ofS l s).testBit c = true ↔ s.testBit c = true ∨ (c : Int) ∈ l)
 | [], s, c, _ => by simp [ofS]
 | r :: l, s, c, hv => by
  have hr := hv r (by simp)
  rw [ofS, ofS_bit l _ c (fun x hx => hv x (by simp [hx])), Nat.testBit_or, Nat.testBit_two_pow, Bool.or_eq_true, decide_eq_true_eq, List.mem_cons]
  constructor
  ·rintro ((h | h) | h)
   ·exact Or.inl h
   ·exact Or.inr (Or.inl (by omega))
   ·exact Or.inr (Or.inr h)
  ·rintro (h | h | h)
   ·exact Or.inl (Or.inl h)
   ·exact Or.inl (Or.inr (by omega))
   ·exact Or.inr h
def netAnd (w : List Nat) (i j v : Nat) : List Nat := netSet w i j (netAt w i j &&& v)
def rowF (w : List Nat) (i : Nat) : Nat → List Nat
 | 0 => w
 | k + 1 => netSet (rowF w i k) i k 8191
def fillF (n : Nat) : Nat → List Nat
 | 0 => List.replicate 64 0
 | i + 1 => netSet (rowF (fillF n i) i n) i i 64
def cOk (n : Nat) (c : S51) : Prop := valid13 c.f2 = true ∧ (0 ≤ c.f0 ∧ c.f0 < n) ∧ 0 ≤ c.f1 ∧ c.f1 < n
instance (n : Nat) (c : S51) : Decidable (cOk n c) := by unfold cOk; infer_instance
def cstep (w : List Nat) (c : S51) : List Nat := netAnd (netAnd w c.f0.toNat c.f1.toNat (ofS c.f2 0)) c.f1.toNat c.f0.toNat (invS (ofS c.f2 0))
def cstr (n : Nat) : List S51 → List Nat → Option (List Nat)
 | [], w => some w
 | c :: l, w => if cOk n c then cstr n l (cstep w c) else none
def buildP (n : Nat) (l : List S51) : Option (List Nat) := cstr n l (fillF n n)
theorem NetOk.and {w : List Nat} (h : NetOk w) (i j v : Nat) : NetOk (netAnd w i j v) := h.set i j (Nat.lt_of_le_of_lt Nat.and_le_left (h.at i j))
theorem zero_ok : NetOk (List.replicate 64 0) := by
 refine ⟨List.length_replicate, fun q => ?_⟩
 rw [List.getD_eq_getElem?_getD, List.getElem?_replicate]
 split <;> decide
theorem rowF_ok {w : List Nat} (h : NetOk w) (i : Nat) : ∀ k, NetOk (rowF w i k)
 | 0 => h
 | k + 1 => (rowF_ok h i k).set i k (by decide)
theorem fillF_ok (n : Nat) : ∀ i, NetOk (fillF n i)
 | 0 => zero_ok
 | i + 1 => (rowF_ok (fillF_ok n i) i n).set i i (by decide)
theorem cstep_ok {w : List Nat} (h : NetOk w) (c : S51) : NetOk (cstep w c) := (h.and _ _ _).and _ _ _
theorem cstr_ok (n : Nat) : ∀ (l : List S51) (w v : List Nat), NetOk w → cstr n l w = some v → NetOk v
 | [], w, v, h, e => by obtain rfl := Option.some.inj e; exact h
 | c :: l, w, v, h, e => by
  unfold cstr at e
  split at e
  ·exact cstr_ok n l _ v (cstep_ok h c) e
  ·exact absurd e (by simp)
def fixW (n : Nat) : Nat → List Nat → List Nat
 | 0, w => w
 | f + 1, w => if nwF w n = w then w else fixW n f (nwF w n)
def lim (n : Nat) (w : List Nat) : List Nat := fixW n (w.sum + 1) w
def LeN (x y : List Nat) : Prop := x.length = y.length ∧ ∀ q, x.getD q 0 ≤ y.getD q 0
theorem LeN.refl (x : List Nat) : LeN x x := ⟨rfl, fun _ => Nat.le_refl _⟩
theorem LeN.trans {x y z : List Nat} (h : LeN x y) (g : LeN y z) : LeN x z := ⟨h.1.trans g.1, fun q => Nat.le_trans (h.2 q) (g.2 q)⟩
theorem LeN.tail {a b : Nat} {x y : List Nat} (h : LeN (a :: x) (b :: y)) : a ≤ b ∧ LeN x y := by
 refine ⟨by simpa using h.2 0, by simpa using h.1, fun q => ?_⟩
 have := h.2 (q + 1)
 simpa using this
theorem LeN.sum : ∀ {x y : List Nat}, LeN x y → x.sum ≤ y.sum
 | [], [], _ => Nat.le_refl _
 | [], b :: y, h => absurd h.1 (by simp)
 | a :: x, [], h => absurd h.1 (by simp)
 | a :: x, b :: y, h => by
  obtain ⟨h1, h2⟩ := h.tail
  have := h2.sum
  simp only [List.sum_cons]
  omega
theorem LeN.lt : ∀ {x y : List Nat}, LeN x y → x ≠ y → x.sum < y.sum
 | [], [], _, e => absurd rfl e
 | [], b :: y, h, _ => absurd h.1 (by simp)
 | a :: x, [], h, _ => absurd h.1 (by simp)
 | a :: x, b :: y, h, e => by
  obtain ⟨h1, h2⟩ := h.tail
  simp only [List.sum_cons]
  by_cases hab : a = b
  ·have := h2.lt (fun hxy => e (by rw [hab, hxy]))
   omega
  ·have := h2.sum
   omega
theorem netAnd_le (w : List Nat) (i j v : Nat) : LeN (netAnd w i j v) w := by
 refine ⟨by rw [netAnd, netSet, List.length_set], fun q => ?_⟩
 unfold netAnd netSet
 rw [List.getD_eq_getElem?_getD, List.getElem?_set]
 split
 ·rename_i e
  subst e
  split
  ·rw [Option.getD_some]; exact Nat.and_le_left
  ·exact Nat.zero_le _
 ·rw [← List.getD_eq_getElem?_getD]; exact Nat.le_refl _
theorem nw3_le (w : List Nat) (k i : Nat) : ∀ j, LeN (nw3 w k i j) w
 | 0 => LeN.refl w
 | j + 1 => (netAnd_le _ _ _ _).trans (nw3_le w k i j)
theorem nw2_le (w : List Nat) (n k : Nat) : ∀ i, LeN (nw2 w n k i) w
 | 0 => LeN.refl w
 | i + 1 => (nw3_le _ k i n).trans (nw2_le w n k i)
theorem nw1_le (w : List Nat) (n : Nat) : ∀ k, LeN (nw1 w n k) w
 | 0 => LeN.refl w
 | k + 1 => (nw2_le _ n k n).trans (nw1_le w n k)
theorem nwF_le (w : List Nat) (n : Nat) : LeN (nwF w n) w := nw1_le w n n
theorem fixW_fuel (n : Nat) : ∀ f g w, w.sum < f → w.sum < g → fixW n f w = fixW n g w
 | f + 1, g + 1, w, hf, hg => by
  unfold fixW
  by_cases h : nwF w n = w
  ·rw [if_pos h, if_pos h]
  ·rw [if_neg h, if_neg h]
   have := (nwF_le w n).lt h
   exact fixW_fuel n f g _ (by omega) (by omega)
theorem lim_step (n : Nat) (w : List Nat) : lim n w = if nwF w n = w then w else lim n (nwF w n) := by
 rw [lim, fixW]
 by_cases h : nwF w n = w
 ·rw [if_pos h, if_pos h]
 ·rw [if_neg h, if_neg h]
  have := (nwF_le w n).lt h
  exact fixW_fuel n _ _ _ (by omega) (by omega)
def rin (m : List Nat) (i n : Nat) : Nat → List S51 → Option (List S51)
 | 0, out => some out
 | d + 1, out => if netAt m i (n - (d + 1)) = 0 then none else rin m i n d (if i < n - (d + 1) then out ++ [⟨(i : Int), ((n - (d + 1) : Nat) : Int), listS (netAt m i (n - (d + 1)))⟩] else out)
def rout (m : List Nat) (n : Nat) : Nat → List S51 → Option (List S51)
 | 0, out => some out
 | d + 1, out => (rin m (n - (d + 1)) n n out).bind (rout m n d)
def pack : Option (List S51) → List S51 × Bool
 | none => ([], false)
 | some o => (o, true)
def tightP (n : Int) (l : List S51) : List S51 × Bool :=
 if 1 ≤ n ∧ n ≤ 8 then (match buildP n.toNat l with
  | none => ([], false)
  | some w => pack (rout (lim n.toNat w) n.toNat n.toNat []))
 else ([], false)
def gd (k : Nat) (l : List S51) : Bool := decide (20 ≤ k) && decide (l.length < 1000000) && l.all fun c => decide (c.f2.length < 1000000) && decide (c.f2.length < k)
def allen_Tighten.f (k : Nat) (a0 : Int) (l1 : List S51) : Option (List S51 × Bool) := if gd k l1 = true then some (tightP a0 l1) else none
end Go.Proofs.Ytoemcdkopnclbaa.A
