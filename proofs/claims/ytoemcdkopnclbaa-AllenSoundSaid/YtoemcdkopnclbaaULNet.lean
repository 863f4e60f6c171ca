/-
  Networks of sets of relations: their bits behind each step, the limit as the greatest closed network, the answer's list.
-/
import Derived.Test.YtoemcdkopnclbaaUHTightP
namespace Go.Proofs.Ytoemcdkopnclbaa.A
open Go.RowKit Go.Proofs.YtoemcdkopnclbaaW.PrintWords Go.Proofs.YtoemcdkopnclbaaW.PrintLast Go.Proofs.YtoemcdkopnclbaaW.PrintMore
set_option linter.unusedVariables false
set_option linter.unusedSimpArgs false
def Bt (w : List Nat) (i j c : Nat) : Prop := (netAt w i j).testBit c = true
theorem netAt_set {w : List Nat} (h : w.length = 64) (i j v i' j' : Nat) (hi : i < 8) (hj : j < 8) (hj' : j' < 8) : netAt (netSet w i j v) i' j' = if i' = i ∧ j' = j then v else netAt w i' j' := by
 unfold netAt netSet
 rw [List.getD_eq_getElem?_getD, List.getElem?_set]
 by_cases e : i' = i ∧ j' = j
 ·obtain ⟨rfl, rfl⟩ := e
  rw [if_pos rfl, if_pos (by omega), if_pos ⟨rfl, rfl⟩]
  rfl
 ·rw [if_neg (by omega), if_neg e, ← List.getD_eq_getElem?_getD]
theorem cp2_bit (o s t a c : Nat) : ∀ b, (cp2 o s t a b).testBit c = true ↔ o.testBit c = true ∨ ∃ x, x < b ∧ s.testBit a = true ∧ t.testBit x = true ∧ (tabAt a x).testBit c = true
 | 0 => by simp [cp2]
 | b + 1 => by
  have ih := cp2_bit o s t a c b
  unfold cp2
  by_cases h : s.testBit a = true ∧ t.testBit b = true
  ·rw [if_pos h, Nat.testBit_or, Bool.or_eq_true, ih]
   constructor
   ·rintro ((h1 | ⟨x, h1, h2⟩) | h1)
    ·exact Or.inl h1
    ·exact Or.inr ⟨x, by omega, h2⟩
    ·exact Or.inr ⟨b, by omega, h.1, h.2, h1⟩
   ·rintro (h1 | ⟨x, h1, h2, h3, h4⟩)
    ·exact Or.inl (Or.inl h1)
    ·by_cases e : x = b
     ·subst e; exact Or.inr h4
     ·exact Or.inl (Or.inr ⟨x, by omega, h2, h3, h4⟩)
  ·rw [if_neg h, ih]
   constructor
   ·rintro (h1 | ⟨x, h1, h2⟩)
    ·exact Or.inl h1
    ·exact Or.inr ⟨x, by omega, h2⟩
   ·rintro (h1 | ⟨x, h1, h2, h3, h4⟩)
    ·exact Or.inl h1
    ·by_cases e : x = b
     ·subst e; exact absurd ⟨h2, h3⟩ h
     ·exact Or.inr ⟨x, by omega, h2, h3, h4⟩
theorem cp1_bit (s t c : Nat) : ∀ a, (cp1 s t a).testBit c = true ↔ ∃ y x, y < a ∧ x < 13 ∧ s.testBit y = true ∧ t.testBit x = true ∧ (tabAt y x).testBit c = true
 | 0 => by simp [cp1]
 | a + 1 => by
  rw [cp1, cp2_bit, cp1_bit s t c a]
  constructor
  ·rintro (⟨y, x, h1, h2⟩ | ⟨x, h1, h2⟩)
   ·exact ⟨y, x, by omega, h2⟩
   ·exact ⟨a, x, by omega, h1, h2⟩
  ·rintro ⟨y, x, h1, h2, h3⟩
   by_cases e : y = a
   ·subst e; exact Or.inr ⟨x, h2, h3⟩
   ·exact Or.inl ⟨y, x, by omega, h2, h3⟩
theorem cmpS_bit (s t c : Nat) : (cmpS s t).testBit c = true ↔ ∃ y x, y < 13 ∧ x < 13 ∧ s.testBit y = true ∧ t.testBit x = true ∧ (tabAt y x).testBit c = true := cp1_bit s t c 13
theorem nstep_bit {w : List Nat} (h : w.length = 64) (k i j i' j' c : Nat) (hi : i < 8) (hj : j < 8) (hj' : j' < 8) :
  Bt (nstep k i j w) i' j' c ↔ Bt w i' j' c ∧ (i' = i ∧ j' = j → (cmpS (netAt w i k) (netAt w k j)).testBit c = true) := by
 unfold Bt nstep
 rw [netAt_set h i j _ i' j' hi hj hj']
 by_cases e : i' = i ∧ j' = j
 ·obtain ⟨rfl, rfl⟩ := e
  rw [if_pos ⟨rfl, rfl⟩, Nat.testBit_and, Bool.and_eq_true]
  exact ⟨fun h => ⟨h.1, fun _ => h.2⟩, fun h => ⟨h.1, h.2 ⟨rfl, rfl⟩⟩⟩
 ·rw [if_neg e]
  exact ⟨fun h => ⟨h, fun x => absurd x e⟩, fun h => h.1⟩
def Sub (n : Nat) (S : Nat → Nat → Nat → Prop) (w : List Nat) : Prop := ∀ i j c, i < n → j < n → S i j c → Bt w i j c
def Clo (n : Nat) (S : Nat → Nat → Nat → Prop) : Prop := ∀ i j k c, i < n → j < n → k < n → S i j c → ∃ a b, a < 13 ∧ b < 13 ∧ S i k a ∧ S k j b ∧ (tabAt a b).testBit c = true
theorem nstep_sub {n : Nat} (hn : n ≤ 8) {S : Nat → Nat → Nat → Prop} (hS : Clo n S) {w : List Nat} (h : NetOk w) (k i j : Nat) (hk : k < n) (hi : i < n) (hj : j < n) (hw : Sub n S w) : Sub n S (nstep k i j w) := by
 intro i' j' c hi' hj' hs
 refine (nstep_bit h.1 k i j i' j' c (by omega) (by omega) (by omega)).2 ⟨hw _ _ _ hi' hj' hs, ?_⟩
 rintro ⟨rfl, rfl⟩
 obtain ⟨a, b, ha, hb, h1, h2, h3⟩ := hS _ _ k c hi' hj' hk hs
 exact (cmpS_bit _ _ _).2 ⟨a, b, ha, hb, hw _ _ _ hi' hk h1, hw _ _ _ hk hj' h2, h3⟩
theorem nw3_sub {n : Nat} (hn : n ≤ 8) {S : Nat → Nat → Nat → Prop} (hS : Clo n S) {w : List Nat} (h : NetOk w) (k i : Nat) (hk : k < n) (hi : i < n) (hw : Sub n S w) : ∀ j, j ≤ n → Sub n S (nw3 w k i j)
 | 0, _ => hw
 | j + 1, hj => nstep_sub hn hS (nw3_ok h k i j) k i j hk hi (by omega) (nw3_sub hn hS h k i hk hi hw j (by omega))
theorem nw2_sub {n : Nat} (hn : n ≤ 8) {S : Nat → Nat → Nat → Prop} (hS : Clo n S) {w : List Nat} (h : NetOk w) (k : Nat) (hk : k < n) (hw : Sub n S w) : ∀ i, i ≤ n → Sub n S (nw2 w n k i)
 | 0, _ => hw
 | i + 1, hi => nw3_sub hn hS (nw2_ok h n k i) k i hk (by omega) (nw2_sub hn hS h k hk hw i (by omega)) n (Nat.le_refl _)
theorem nw1_sub {n : Nat} (hn : n ≤ 8) {S : Nat → Nat → Nat → Prop} (hS : Clo n S) {w : List Nat} (h : NetOk w) (hw : Sub n S w) : ∀ k, k ≤ n → Sub n S (nw1 w n k)
 | 0, _ => hw
 | k + 1, hk => nw2_sub hn hS (nw1_ok h n k) k (by omega) (nw1_sub hn hS h hw k (by omega)) n (Nat.le_refl _)
theorem fixW_sub {n : Nat} (hn : n ≤ 8) {S : Nat → Nat → Nat → Prop} (hS : Clo n S) : ∀ (f : Nat) {w : List Nat}, NetOk w → Sub n S w → Sub n S (fixW n f w)
 | 0, w, h, hw => hw
 | f + 1, w, h, hw => by
  unfold fixW
  split
  ·exact hw
  ·exact fixW_sub hn hS f (nwF_ok h n) (nw1_sub hn hS h hw n (Nat.le_refl _))
theorem lim_sub {n : Nat} (hn : n ≤ 8) {S : Nat → Nat → Nat → Prop} (hS : Clo n S) {w : List Nat} (h : NetOk w) (hw : Sub n S w) : Sub n S (lim n w) := fixW_sub hn hS _ h hw
theorem LeN.anti {x y : List Nat} (h : LeN x y) (g : LeN y x) : x = y := by
 refine List.ext_getElem h.1 fun q h1 h2 => ?_
 have a := h.2 q
 have b := g.2 q
 rw [List.getD_eq_getElem?_getD, List.getD_eq_getElem?_getD, List.getElem?_eq_getElem h1, List.getElem?_eq_getElem h2] at a b
 exact Nat.le_antisymm a b
theorem rowF_at {w : List Nat} (h : NetOk w) (i : Nat) (hi : i < 8) (i' j' : Nat) (hj' : j' < 8) : ∀ k, k ≤ 8 → netAt (rowF w i k) i' j' = if i' = i ∧ j' < k then 8191 else netAt w i' j'
 | 0, _ => by rw [if_neg (by omega)]; rfl
 | k + 1, hk => by
  rw [rowF, netAt_set (rowF_ok h i k).1 i k _ i' j' hi (by omega) hj', rowF_at h i hi i' j' hj' k (by omega)]
  by_cases e : i' = i ∧ j' = k
  ·rw [if_pos e, if_pos (by omega)]
  ·rw [if_neg e]
   by_cases e2 : i' = i ∧ j' < k
   ·rw [if_pos e2, if_pos (by omega)]
   ·rw [if_neg e2, if_neg (by omega)]
theorem fillF_at (n : Nat) (hn : n ≤ 8) (i j : Nat) (hj : j < n) : ∀ m, m ≤ n → i < m → netAt (fillF n m) i j = if i = j then 64 else 8191
 | m + 1, hm, hi => by
  rw [fillF, netAt_set (rowF_ok (fillF_ok n m) m n).1 m m _ i j (by omega) (by omega) (by omega), rowF_at (fillF_ok n m) m (by omega) i j (by omega) n hn]
  by_cases e : i = m
  ·subst e
   by_cases e2 : j = i
   ·subst e2
    rw [if_pos ⟨rfl, rfl⟩, if_pos rfl]
   ·rw [if_neg (by omega), if_pos ⟨rfl, hj⟩, if_neg (by omega)]
  ·rw [if_neg (by omega), if_neg (by omega)]
   exact fillF_at n hn i j hj m (by omega) (by omega)
theorem fill_bit (n : Nat) (hn : n ≤ 8) (i j c : Nat) (hi : i < n) (hj : j < n) : Bt (fillF n n) i j c ↔ c < 13 ∧ (i = j → c = 6) := by
 unfold Bt
 rw [fillF_at n hn i j hj n (Nat.le_refl _) hi]
 by_cases e : i = j
 ·rw [if_pos e, show (64 : Nat) = 2 ^ 6 from rfl, Nat.testBit_two_pow, decide_eq_true_eq]
  constructor
  ·rintro rfl; exact ⟨by omega, fun _ => rfl⟩
  ·rintro ⟨_, h⟩; exact (h e).symm
 ·rw [if_neg e, show (8191 : Nat) = 2 ^ 13 - 1 from rfl, Nat.testBit_two_pow_sub_one, decide_eq_true_eq]
  exact ⟨fun h => ⟨h, fun x => absurd x e⟩, fun h => h.1⟩
theorem netAnd_bit {w : List Nat} (h : w.length = 64) (i j v i' j' c : Nat) (hi : i < 8) (hj : j < 8) (hj' : j' < 8) : Bt (netAnd w i j v) i' j' c ↔ Bt w i' j' c ∧ (i' = i ∧ j' = j → v.testBit c = true) := by
 unfold Bt netAnd
 rw [netAt_set h i j _ i' j' hi hj hj']
 by_cases e : i' = i ∧ j' = j
 ·obtain ⟨rfl, rfl⟩ := e
  rw [if_pos ⟨rfl, rfl⟩, Nat.testBit_and, Bool.and_eq_true]
  exact ⟨fun h => ⟨h.1, fun _ => h.2⟩, fun h => ⟨h.1, h.2 ⟨rfl, rfl⟩⟩⟩
 ·rw [if_neg e]
  exact ⟨fun h => ⟨h, fun x => absurd x e⟩, fun h => h.1⟩
def Lets (s : S51) (i j c : Nat) : Prop := ((i : Int) = s.f0 ∧ (j : Int) = s.f1 → (c : Int) ∈ s.f2) ∧ ((i : Int) = s.f1 ∧ (j : Int) = s.f0 → ((12 - c : Nat) : Int) ∈ s.f2)
theorem valid13_mem {l : List Int} (h : valid13 l = true) : ∀ r ∈ l, 0 ≤ r ∧ r < 13 := by
 intro r hr
 have := List.all_eq_true.1 h r hr
 exact of_decide_eq_true this
theorem cstep_bit {w : List Nat} (h : NetOk w) (n : Nat) (hn : n ≤ 8) (s : S51) (hs : cOk n s) (i j c : Nat) (hj : j < 8) (hc : c < 13) : Bt (cstep w s) i j c ↔ Bt w i j c ∧ Lets s i j c := by
 obtain ⟨hv, ha, hb1, hb2⟩ := hs
 have hm := valid13_mem hv
 unfold cstep
 rw [netAnd_bit (h.and _ _ _).1 _ _ _ i j c (by omega) (by omega) hj, netAnd_bit h.1 _ _ _ i j c (by omega) (by omega) hj, invS_bit, ofS_bit _ 0 _ hm, ofS_bit _ 0 _ hm, Nat.zero_testBit, Nat.zero_testBit]
 unfold Lets
 constructor
 ·rintro ⟨⟨h1, h2⟩, h3⟩
  refine ⟨h1, fun e => ?_, fun e => ?_⟩
  ·rcases h2 ⟨by omega, by omega⟩ with h | h
   ·cases h
   ·exact h
  ·rcases (h3 ⟨by omega, by omega⟩).2 with h | h
   ·cases h
   ·exact h
 ·rintro ⟨h1, h2, h3⟩
  refine ⟨⟨h1, fun e => Or.inr (h2 ⟨by omega, by omega⟩)⟩, fun e => ⟨hc, Or.inr (h3 ⟨by omega, by omega⟩)⟩⟩
theorem cstr_some (n : Nat) (hn : n ≤ 8) : ∀ (l : List S51) {w : List Nat}, NetOk w → (∀ s ∈ l, cOk n s) → ∃ v, cstr n l w = some v ∧ NetOk v ∧ ∀ i j c, j < 8 → c < 13 → (Bt v i j c ↔ Bt w i j c ∧ ∀ s ∈ l, Lets s i j c)
 | [], w, h, _ => ⟨w, rfl, h, fun i j c _ _ => ⟨fun x => ⟨x, by simp⟩, fun x => x.1⟩⟩
 | s :: l, w, h, hl => by
  have hs := hl s (by simp)
  obtain ⟨v, h1, h2, h3⟩ := cstr_some n hn l (cstep_ok h s) (fun x hx => hl x (by simp [hx]))
  refine ⟨v, by rw [cstr, if_pos hs]; exact h1, h2, fun i j c hj hc => ?_⟩
  rw [h3 i j c hj hc, cstep_bit h n hn s hs i j c hj hc]
  constructor
  ·rintro ⟨⟨a, b⟩, d⟩
   exact ⟨a, fun x hx => by
    rcases List.mem_cons.1 hx with rfl | hx
    ·exact b
    ·exact d x hx⟩
  ·rintro ⟨a, b⟩
   exact ⟨⟨a, b s (by simp)⟩, fun x hx => b x (by simp [hx])⟩
def Start (l : List S51) (i j c : Nat) : Prop := c < 13 ∧ (i = j → c = 6) ∧ ∀ s ∈ l, Lets s i j c
theorem build_bits (n : Nat) (hn : n ≤ 8) (l : List S51) (hl : ∀ s ∈ l, cOk n s) : ∃ w, buildP n l = some w ∧ NetOk w ∧ ∀ i j c, i < n → j < n → (Bt w i j c ↔ Start l i j c) := by
 obtain ⟨w, h1, h2, h3⟩ := cstr_some n hn l (fillF_ok n n) hl
 refine ⟨w, h1, h2, fun i j c hi hj => ?_⟩
 by_cases hc : c < 13
 ·rw [h3 i j c (by omega) hc, fill_bit n hn i j c hi hj]
  exact ⟨fun x => ⟨x.1.1, x.1.2, x.2⟩, fun x => ⟨⟨x.1, x.2.1⟩, x.2.2⟩⟩
 ·constructor
  ·intro h
   have := Nat.testBit_lt_two_pow (x := netAt w i j) (i := c) (Nat.lt_of_lt_of_le (h2.at i j) (show 8192 ≤ 2 ^ c from Nat.pow_le_pow_right (n := 2) (i := 13) (j := c) (by decide) (by omega)))
   unfold Bt at h
   rw [h] at this
   cases this
  ·intro h; exact absurd h.1 hc
def rowL (m : List Nat) (i n : Nat) : Nat → List S51
 | 0 => []
 | d + 1 => (if i < n - (d + 1) then [⟨(i : Int), ((n - (d + 1) : Nat) : Int), listS (netAt m i (n - (d + 1)))⟩] else []) ++ rowL m i n d
def outL (m : List Nat) (n : Nat) : Nat → List S51
 | 0 => []
 | d + 1 => rowL m (n - (d + 1)) n n ++ outL m n d
theorem rin_ok (m : List Nat) (i n : Nat) : ∀ d out, d ≤ n → (∀ j, n - d ≤ j → j < n → netAt m i j ≠ 0) → rin m i n d out = some (out ++ rowL m i n d)
 | 0, out, _, _ => by rw [rin, rowL, List.append_nil]
 | d + 1, out, hd, h => by
  rw [rin, if_neg (h _ (Nat.le_refl _) (by omega)), rin_ok m i n d _ (by omega) (fun j h1 h2 => h j (by omega) h2), rowL]
  split
  ·rw [List.append_assoc]
  ·rw [List.nil_append]
theorem rout_ok (m : List Nat) (n : Nat) : ∀ d out, d ≤ n → (∀ i j, n - d ≤ i → i < n → j < n → netAt m i j ≠ 0) → rout m n d out = some (out ++ outL m n d)
 | 0, out, _, _ => by rw [rout, outL, List.append_nil]
 | d + 1, out, hd, h => by
  rw [rout, rin_ok m _ n n out (Nat.le_refl _) (fun j _ h2 => h _ j (Nat.le_refl _) (by omega) h2), Option.bind_some, rout_ok m n d _ (by omega) (fun i j h1 => h i j (by omega)), outL, List.append_assoc]
theorem rowL_mem (m : List Nat) (i n : Nat) (s : S51) : ∀ d, d ≤ n → (s ∈ rowL m i n d ↔ ∃ j, n - d ≤ j ∧ j < n ∧ i < j ∧ s = ⟨(i : Int), (j : Int), listS (netAt m i j)⟩)
 | 0, _ => by
  simp only [rowL, List.not_mem_nil, false_iff]
  rintro ⟨j, h1, h2, _⟩
  omega
 | d + 1, hd => by
  rw [rowL, List.mem_append, rowL_mem m i n s d (by omega)]
  constructor
  ·rintro (h | ⟨j, h1, h2⟩)
   ·split at h
    ·rename_i hlt
     exact ⟨_, Nat.le_refl _, by omega, hlt, List.mem_singleton.1 h⟩
    ·simp at h
   ·exact ⟨j, by omega, h2⟩
  ·rintro ⟨j, h1, h2, h3, h4⟩
   by_cases e : j = n - (d + 1)
   ·subst e
    rw [if_pos h3]
    exact Or.inl (List.mem_singleton.2 h4)
   ·exact Or.inr ⟨j, by omega, h2, h3, h4⟩
theorem outL_mem (m : List Nat) (n : Nat) (s : S51) : ∀ d, d ≤ n → (s ∈ outL m n d ↔ ∃ i j, n - d ≤ i ∧ i < j ∧ j < n ∧ s = ⟨(i : Int), (j : Int), listS (netAt m i j)⟩)
 | 0, _ => by
  simp only [outL, List.not_mem_nil, false_iff]
  rintro ⟨i, j, h1, h2, h3, _⟩
  omega
 | d + 1, hd => by
  rw [outL, List.mem_append, outL_mem m n s d (by omega), rowL_mem m _ n s n (Nat.le_refl _)]
  constructor
  ·rintro (⟨j, h1, h2, h3, h4⟩ | ⟨i, j, h1, h2⟩)
   ·exact ⟨_, j, Nat.le_refl _, h3, h2, h4⟩
   ·exact ⟨i, j, by omega, h2⟩
  ·rintro ⟨i, j, h1, h2, h3, h4⟩
   by_cases e : i = n - (d + 1)
   ·subst e; exact Or.inl ⟨j, by omega, h3, h2, h4⟩
   ·exact Or.inr ⟨i, j, by omega, h2, h3, h4⟩
theorem rowL_len (m : List Nat) (i n : Nat) : ∀ d, (rowL m i n d).length ≤ d
 | 0 => Nat.le_refl _
 | d + 1 => by
  have := rowL_len m i n d
  rw [rowL, List.length_append]
  split
  ·rw [List.length_singleton]; omega
  ·rw [List.length_nil]; omega
theorem outL_len (m : List Nat) (n : Nat) : ∀ d, (outL m n d).length ≤ d * n
 | 0 => Nat.zero_le _
 | d + 1 => by
  have := outL_len m n d
  have h2 := rowL_len m (n - (d + 1)) n n
  rw [outL, List.length_append, Nat.add_mul]
  omega
theorem bt_ne {w : List Nat} {i j c : Nat} (h : Bt w i j c) : netAt w i j ≠ 0 := by
 intro e
 unfold Bt at h
 rw [e, Nat.zero_testBit] at h
 cases h
end Go.Proofs.Ytoemcdkopnclbaa.A
