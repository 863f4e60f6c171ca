/-
  The plain law of AllenTighten: both sides end in the greatest closed network below the first one; tightening it again changes nothing.
-/
import Derived.Test.YtoemcdkopnclbaaVLRefT
import Derived.Test.YtoemcdkopnclbaaVAx19
import Derived.Test.YtoemcdkopnclbaaVAx20
namespace Go.Proofs.Ytoemcdkopnclbaa.A
open Go.RowKit Go.Proofs.YtoemcdkopnclbaaW.PrintWords Go.Proofs.YtoemcdkopnclbaaW.PrintLast Go.Proofs.YtoemcdkopnclbaaW.PrintMore
set_option linter.unusedVariables false
set_option linter.unusedSimpArgs false
theorem Ev.useB' {α β : Type} {g : Nat → Option β} {p : Nat → Option α} {f : Nat → Option β} {a : α} {r : β} (hp : Ev p a) (h : ∀ k, p k = some a → g k = f k) (e : Ev f r) : Ev g r := by
 obtain ⟨K1, h1⟩ := hp
 obtain ⟨K2, h2⟩ := e
 refine ⟨K1 + K2, fun k hk => ?_⟩
 rw [h k (h1 k (by omega))]
 exact h2 k (by omega)
theorem tab_inv (a b c : Nat) (ha : a < 13) (hb : b < 13) (hc : c < 13) (h : (tabAt a b).testBit (12 - c) = true) : (tabAt (12 - b) (12 - a)).testBit c = true := by
 have key : ∀ a < 13, ∀ b < 13, ∀ c < 13, (tabAt a b).testBit (12 - c) = true → (tabAt (12 - b) (12 - a)).testBit c = true := by decide +kernel
 exact key a ha b hb c hc h
theorem bt_lt {w : List Nat} (hw : NetOk w) {i j c : Nat} (h : Bt w i j c) : c < 13 := by
 rcases Nat.lt_or_ge c 13 with h1 | h1
 ·exact h1
 ·have := Nat.testBit_lt_two_pow (x := netAt w i j) (i := c) (Nat.lt_of_lt_of_le (hw.at i j) (show 8192 ≤ 2 ^ c from Nat.pow_le_pow_right (n := 2) (i := 13) (j := c) (by decide) (by omega)))
  unfold Bt at h
  rw [h] at this
  cases this
theorem lets_inv {s : S51} {i j c : Nat} (hc : c < 13) (h : Lets s j i (12 - c)) : Lets s i j c := by
 refine ⟨fun e => ?_, fun e => h.1 ⟨e.2, e.1⟩⟩
 have := h.2 ⟨e.2, e.1⟩
 rwa [show 12 - (12 - c) = c by omega] at this
theorem start_inv {l : List S51} {i j c : Nat} (hc : c < 13) (h : Start l j i (12 - c)) : Start l i j c :=
 ⟨hc, fun e => by have := h.2.1 e.symm; omega, fun s hs => lets_inv hc (h.2.2 s hs)⟩
theorem btsEq {x y : List Nat} (i j : Nat) (h : ∀ c, Bt x i j c ↔ Bt y i j c) : netAt x i j = netAt y i j := by
 refine Nat.eq_of_testBit_eq fun c => ?_
 have := h c
 unfold Bt at this
 exact Bool.eq_iff_iff.2 this
theorem row_congr {x y : List Nat} (i n : Nat) (h : ∀ j, j < n → netAt x i j = netAt y i j) : ∀ d, d ≤ n → rowL x i n d = rowL y i n d
 | 0, _ => rfl
 | d + 1, hd => by
  rw [rowL, rowL, h (n - (d + 1)) (by omega), row_congr i n h d (by omega)]
theorem out_congr {x y : List Nat} (n : Nat) (h : ∀ i j, i < n → j < n → netAt x i j = netAt y i j) : ∀ d, d ≤ n → outL x n d = outL y n d
 | 0, _ => rfl
 | d + 1, hd => by
  rw [outL, outL, row_congr _ n (fun j hj => h _ j (by omega) hj) n (Nat.le_refl _), out_congr n h d (by omega)]
theorem lim_sym {n : Nat} (hn : n ≤ 8) {l : List S51} {w : List Nat} (hw : NetOk w) (hb : ∀ i j c, i < n → j < n → (Bt w i j c ↔ Start l i j c)) (i j c : Nat) (hi : i < n) (hj : j < n) (hc : c < 13) (h : Bt (lim n w) i j c) : Bt (lim n w) j i (12 - c) := by
 have hok := lim_ok n hw
 have hcl := lim_clo hw hn
 have hS : Clo n (fun i j c => c < 13 ∧ Bt (lim n w) j i (12 - c)) := by
  rintro i j k c hi hj hk ⟨hc, hx⟩
  obtain ⟨a, b, ha, hb', h1, h2, h3⟩ := hcl j i k (12 - c) hj hi hk hx
  refine ⟨12 - b, 12 - a, by omega, by omega, ⟨by omega, ?_⟩, ⟨by omega, ?_⟩, tab_inv a b c ha hb' hc h3⟩
  ·rw [show 12 - (12 - b) = b by omega]; exact h2
  ·rw [show 12 - (12 - a) = a by omega]; exact h1
 have hsub : Sub n (fun i j c => c < 13 ∧ Bt (lim n w) j i (12 - c)) w := by
  rintro i j c hi hj ⟨hc, hx⟩
  have := lim_leb n hn hw j i (12 - c) (by omega) hx
  exact (hb i j c hi hj).2 (start_inv hc ((hb j i (12 - c) hj hi).1 this))
 refine lim_sub hn hS hw hsub j i (12 - c) hj hi ⟨by omega, ?_⟩
 rw [show 12 - (12 - c) = c by omega]
 exact h
theorem again {n : Nat} (hn : n ≤ 8) {l : List S51} {w : List Nat} (hw : NetOk w) (hb : ∀ i j c, i < n → j < n → (Bt w i j c ↔ Start l i j c)) (hnz : ∀ i j, i < n → j < n → netAt (lim n w) i j ≠ 0) : ∃ w2, buildP n (outL (lim n w) n n) = some w2 ∧ ∀ i j, i < n → j < n → netAt (lim n w2) i j = netAt (lim n w) i j := by
 have hok := lim_ok n hw
 have hcl := lim_clo hw hn
 have hsy := lim_sym hn hw hb
 have hcok : ∀ s ∈ outL (lim n w) n n, cOk n s := by
  intro s hs
  obtain ⟨i, j, _, h1, h2, rfl⟩ := (outL_mem _ n s n (Nat.le_refl _)).1 hs
  refine ⟨List.all_eq_true.2 fun r hr => decide_eq_true ?_, ⟨by show 0 ≤ (i : Int); omega, by show (i : Int) < _; omega⟩, by show 0 ≤ (j : Int); omega, by show (j : Int) < _; omega⟩
  obtain ⟨x, rfl, h3, _⟩ := (listS_mem _ r).1 hr
  omega
 obtain ⟨w2, h1, h2, h3⟩ := build_bits n hn _ hcok
 have hlm : ∀ i j c : Nat, (c : Int) ∈ listS (netAt (lim n w) i j) → Bt (lim n w) i j c := by
  intro i j c h
  obtain ⟨x, hx, _, h5⟩ := (listS_mem _ _).1 h
  obtain rfl : x = c := by omega
  exact h5
 have hml : ∀ i j c : Nat, Bt (lim n w) i j c → (c : Int) ∈ listS (netAt (lim n w) i j) := fun i j c h => (listS_mem _ _).2 ⟨c, rfl, bt_lt hok h, h⟩
 have hdia : ∀ i c, i < n → Bt (lim n w) i i c → c = 6 := fun i c hi h => ((hb i i c hi hi).1 (lim_leb n hn hw i i c (by omega) h)).2.1 rfl
 have hbits : ∀ i j c, i < n → j < n → (Bt w2 i j c ↔ Bt (lim n w) i j c) := by
  intro i j c hi hj
  rw [h3 i j c hi hj]
  constructor
  ·rintro ⟨hc, hd, hs⟩
   rcases Nat.lt_trichotomy i j with e | e | e
   ·have := hs _ ((outL_mem _ n ⟨(i : Int), (j : Int), listS (netAt (lim n w) i j)⟩ n (Nat.le_refl _)).2 ⟨i, j, by omega, e, hj, rfl⟩)
    exact hlm i j c (this.1 ⟨rfl, rfl⟩)
   ·subst e
    obtain ⟨x, hx⟩ : ∃ x, Bt (lim n w) i i x := by
     refine Classical.byContradiction fun hno => hnz i i hi hi ?_
     refine Nat.eq_of_testBit_eq fun c => ?_
     rw [Nat.zero_testBit]
     exact Bool.eq_false_iff.2 fun hx => hno ⟨c, hx⟩
    rw [hd rfl, ← hdia i x hi hx]
    exact hx
   ·have := hs _ ((outL_mem _ n ⟨(j : Int), (i : Int), listS (netAt (lim n w) j i)⟩ n (Nat.le_refl _)).2 ⟨j, i, by omega, e, hi, rfl⟩)
    have := hsy j i (12 - c) hj hi (by omega) (hlm j i (12 - c) (this.2 ⟨rfl, rfl⟩))
    rwa [show 12 - (12 - c) = c by omega] at this
  ·intro h
   have hc := bt_lt hok h
   refine ⟨hc, fun e => by subst e; exact hdia i c hi h, fun s hs => ?_⟩
   obtain ⟨p, q, _, g1, g2, rfl⟩ := (outL_mem _ n s n (Nat.le_refl _)).1 hs
   refine ⟨fun e => ?_, fun e => ?_⟩
   ·have e1 : i = p := by have := e.1; simp only at this; omega
    have e2 : j = q := by have := e.2; simp only at this; omega
    subst e1 e2
    exact hml i j c h
   ·have e1 : i = q := by have := e.1; simp only at this; omega
    have e2 : j = p := by have := e.2; simp only at this; omega
    subst e1 e2
    exact hml j i (12 - c) (hsy i j c hi hj hc h)
 refine ⟨w2, h1, fun i j hi hj => btsEq i j fun c => ⟨fun h => ?_, fun h => ?_⟩⟩
 ·exact (hbits i j c hi hj).1 (lim_leb n hn h2 i j c (by omega) h)
 ·exact lim_sub hn hcl h2 (fun i j c hi hj h => (hbits i j c hi hj).2 h) i j c hi hj h
theorem same_ev (a : List S51) (ha : a.length < 1000000) (hb : ∀ s ∈ a, s.f2.length ≤ 20) : Ev (fun k => bitemporalref02_Same.f k a a) true := by
 have key : ∀ d i : Nat, i + d = a.length → Ev (fun k => bitemporalref02_Same.l0 k a a (i : Int)) true := by
  intro d
  induction d with
  | zero =>
   intro i hi
   refine Ev.step (f := fun _ => some true) (fun k => ?_) (Ev.now _)
   rw [bitemporalref02_Same.l0, if_neg (by omega)]
  | succ d ih =>
   intro i hi
   have hlt : i < a.length := by omega
   have hl := hb a[i] (List.getElem_mem hlt)
   refine Ev.stepB (ints_same a[i].f2 (by omega)) (fun k hp => ?_) (ih (i + 1) (by omega))
   rw [bitemporalref02_Same.l0, if_pos (by omega), if_pos (by omega), if_pos (by omega), rd51 a i hlt, if_pos rfl, if_pos rfl, hp, Option.bind_some, if_pos rfl, w64 i (by omega)]
 refine Ev.congr (fun k => ?_) (key a.length 0 (by omega))
 unfold bitemporalref02_Same.f
 rw [if_pos rfl]
 rfl
theorem tight_law (n : Int) (l : List S51) (hl : l.length < 1000000) (h20 : ∀ s ∈ l, s.f2.length < 1000000) : ∃ a b, tightP n l = (a, b) ∧ Ev (fun k => bitemporalref02_Tighten.f k n l) (a, b) ∧ (b = true → tightP n a = (a, true)) ∧ a.length < 1000000 ∧ ∀ s ∈ a, s.f2.length ≤ 20 := by
 have jt : Ev (fun k => bitemporalref02_Tighten.j0 k n l true) ([], false) := Ev.step (f := fun _ => some ([], false)) (fun k => by rw [bitemporalref02_Tighten.j0, if_pos rfl]) (Ev.now _)
 by_cases h1 : n < 1
 ·refine ⟨[], false, by unfold tightP; rw [if_neg (by omega)], Ev.congr (fun k => ?_) jt, fun h => Bool.noConfusion h, by simp, by simp⟩
  unfold bitemporalref02_Tighten.f
  rw [if_pos h1]
 by_cases h8 : n > 8
 ·refine ⟨[], false, by unfold tightP; rw [if_neg (by omega)], Ev.congr (fun k => ?_) jt, fun h => Bool.noConfusion h, by simp, by simp⟩
  unfold bitemporalref02_Tighten.f
  rw [if_neg h1, if_pos h8]
 obtain ⟨n, rfl⟩ : ∃ m : Nat, n = (m : Int) := ⟨n.toNat, by omega⟩
 have hn : n ≤ 8 := by omega
 have hva := rvalid_ev n l hl h20
 have htp : ∀ x, tightP (n : Int) x = (match buildP n x with | none => ([], false) | some w => pack (rout (lim n w) n n [])) := fun x => by
  unfold tightP
  rw [if_pos (by omega), Int.toNat_natCast]
  rfl
 by_cases hall : ∀ s ∈ l, cOk n s
 ·have ht : l.all (cB n) = true := List.all_eq_true.2 fun s hs => decide_eq_true (hall s hs)
  rw [ht] at hva
  obtain ⟨w, hbw, hok, hbits⟩ := build_bits n hn l hall
  obtain ⟨m0, hm0, hst⟩ := start_ev n hn l h20 hl hall
  have hlok := lim_ok n hok
  have hcl := lim_clo hok hn
  have hsy := lim_sym hn hok hbits
  have hcnet : ∀ M, (∃ r, RedP n m0 r M) → AllP n M → ∀ i j c, i < n → j < n → c < 13 → (aB n M i j c = true ↔ Bt (lim n w) i j c) := by
   rintro M ⟨r, hr⟩ hM i j c hi hj hc
   constructor
   ·intro h
    have hS : Clo n (fun i j c => c < 13 ∧ aB n M i j c = true) := by
     rintro i j k c hi hj hk ⟨hc, hx⟩
     obtain ⟨a, b, ha, hb', y1, y2, y3⟩ := hM i j c k hi hj hc hk hx
     exact ⟨a, b, ha, hb', ⟨ha, y1⟩, ⟨hb', y2⟩, y3⟩
    refine lim_sub hn hS hok ?_ i j c hi hj ⟨hc, h⟩
    rintro i j c hi hj ⟨hc, hx⟩
    exact (hbits i j c hi hj).2 ((hm0.2 i j c hi hj hc).1 (hr.2.2.2 i j c hi hj hc hx))
   ·intro h
    refine hr.2.2.1 (Bt (lim n w)) (fun i j c hx => bt_lt hlok hx) (fun i j c a b d hx => hsy i j c a b d hx) hcl ?_ i j c hi hj hc h
    intro i j c hi hj hc hx
    exact (hm0.2 i j c hi hj hc).2 ((hbits i j c hi hj).1 (lim_leb n hn hok i j c (by omega) hx))
  have fin : ∀ R, (∀ M, (∃ r, RedP n m0 r M) → AllP n M → ∃ Q, Q = R ∧ Ev (fun f => bitemporalref02_Tighten.j2 f (n : Int) M) Q) → Ev (fun k => bitemporalref02_Tighten.f k (n : Int) l) R := by
   intro R hR
   obtain ⟨Q, hQ, e0⟩ := ti_l0 n hn m0 hm0.1 (fun Q => Q = R) hR (13 * (n * n)) 0 m0 0 (by omega) (RedP.refl n m0) (Nat.le_refl _)
   subst hQ
   have e1 : Ev (fun k => bitemporalref02_Tighten.j0 k (n : Int) l false) Q := by
    refine Ev.stepB table_ev (fun k hp => ?_) (Ev.bind (f := fun k m => bitemporalref02_Tighten.l0 k (n : Int) (b3 15) m 0) hst e0)
    rw [bitemporalref02_Tighten.j0, if_neg (by decide), hp, Option.bind_some]
   have e2 := Ev.bind (f := fun k t => bitemporalref02_Tighten.j0 k (n : Int) l (!t)) hva e1
   refine Ev.congr (fun k => ?_) e2
   unfold bitemporalref02_Tighten.f
   rw [if_neg h1, if_neg h8]
  by_cases hz : ∃ i j, i < n ∧ j < n ∧ netAt (lim n w) i j = 0
  ·obtain ⟨i, j, hi, hj, hz⟩ := hz
   have hz2 : ∃ i j, i ≤ j ∧ j < n ∧ netAt (lim n w) i j = 0 := by
    rcases Nat.le_total i j with e | e
    ·exact ⟨i, j, e, hj, hz⟩
    ·refine ⟨j, i, e, hi, ?_⟩
     refine Nat.eq_of_testBit_eq fun c => ?_
     rw [Nat.zero_testBit]
     refine Bool.eq_false_iff.2 fun hx => ?_
     have := hsy j i c hj hi (bt_lt hlok hx) hx
     exact bt_ne this hz
   refine ⟨[], false, ?_, fin _ (fun M hM hA => ⟨_, rfl, to_j2_no n hn M (hM.elim fun r h => h.1.trans hm0.1) (lim n w) hlok (hcnet M hM hA) hz2⟩), fun h => Bool.noConfusion h, by simp, by simp⟩
   rw [htp, hbw]
   show pack (rout (lim n w) n n []) = _
   rw [rout_none _ n n [] (Nat.le_refl _) ⟨i, j, by omega, hi, hj, hz⟩]
   rfl
  ·have hnz : ∀ i j, i < n → j < n → netAt (lim n w) i j ≠ 0 := fun i j hi hj h => hz ⟨i, j, hi, hj, h⟩
   have ho : (outL (lim n w) n n).length < 1000000 ∧ ∀ s ∈ outL (lim n w) n n, s.f2.length ≤ 20 := by
    refine ⟨?_, fun s hs => ?_⟩
    ·have g1 := outL_len (lim n w) n n
     have g2 : n * n ≤ 8 * 8 := Nat.mul_le_mul hn hn
     omega
    ·obtain ⟨i, j, _, _, _, rfl⟩ := (outL_mem _ n s n (Nat.le_refl _)).1 hs
     have : (listS (netAt (lim n w) i j)).length ≤ 13 := listFrom_len _ 13 0
     show (listS (netAt (lim n w) i j)).length ≤ 20
     omega
   refine ⟨outL (lim n w) n n, true, ?_, fin _ (fun M hM hA => ⟨_, rfl, to_j2_ok n hn M (hM.elim fun r h => h.1.trans hm0.1) (lim n w) hlok (hcnet M hM hA) (fun i j e hj => hnz i j (by omega) hj)⟩), fun _ => ?_, ho.1, ho.2⟩
   ·rw [htp, hbw]
    show pack (rout (lim n w) n n []) = _
    rw [rout_ok _ n n [] (Nat.le_refl _) (fun i j _ hi hj => hnz i j hi hj), List.nil_append]
    rfl
   ·obtain ⟨w2, g1, g2⟩ := again hn hok hbits hnz
    rw [htp, g1]
    show pack (rout (lim n w2) n n []) = _
    rw [rout_ok _ n n [] (Nat.le_refl _) (fun i j _ hi hj => by rw [g2 i j hi hj]; exact hnz i j hi hj), List.nil_append, out_congr n g2 n (Nat.le_refl _)]
    rfl
 ·have ht : l.all (cB n) = false := by
   refine Bool.eq_false_iff.2 fun h => hall fun s hs => ?_
   exact of_decide_eq_true (List.all_eq_true.1 h s hs)
  rw [ht] at hva
  refine ⟨[], false, ?_, ?_, fun h => Bool.noConfusion h, by simp, by simp⟩
  ·rw [htp, show buildP n l = none from cstr_none n l _ hall]
  ·refine Ev.congr (fun k => ?_) (Ev.bind (f := fun k t => bitemporalref02_Tighten.j0 k (n : Int) l (!t)) hva jt)
   unfold bitemporalref02_Tighten.f
   rw [if_neg h1, if_neg h8]
theorem awakeC_ev : Ev (fun k => (bitemporallaw02_awake.f k).bind fun t => some t) true := ⟨40, fun k hk => by
 show (if 40 ≤ k then some true else none).bind _ = _
 rw [if_pos hk]
 rfl⟩
theorem largeC_l0 (c : List S51) (hc : c.length < 1000000) : ∀ d i, i + d = c.length → ∃ b, Ev (fun k => bitemporalref02_Large.l0 k c (i : Int)) b ∧ (b = false → ∀ s ∈ c.drop i, s.f2.length ≤ 20)
 | 0, i, hi => by
  refine ⟨false, Ev.step (f := fun _ => some false) (fun k => ?_) (Ev.now _), fun _ s hs => ?_⟩
  ·rw [bitemporalref02_Large.l0, if_neg (by omega)]
  ·rw [List.drop_eq_nil_of_le (by omega)] at hs; simp at hs
 | d + 1, i, hi => by
  have hlt : i < c.length := by omega
  by_cases e : (c[i].f2.length : Int) > 20
  ·refine ⟨true, Ev.step (f := fun _ => some true) (fun k => ?_) (Ev.now _), fun h => by cases h⟩
   rw [bitemporalref02_Large.l0, if_pos (by omega), if_pos (by omega), rd51 c i hlt, if_pos e]
  ·obtain ⟨b, h1, h2⟩ := largeC_l0 c hc d (i + 1) (by omega)
   refine ⟨b, Ev.step (fun k => ?_) h1, fun hb s hs => ?_⟩
   ·rw [bitemporalref02_Large.l0, if_pos (by omega), if_pos (by omega), rd51 c i hlt, if_neg e, w64 i (by omega)]
   ·rw [List.drop_eq_getElem_cons hlt, List.mem_cons] at hs
    rcases hs with rfl | hs
    ·omega
    ·exact h2 hb s hs
theorem largeC_ev (c : List S51) : ∃ b, Ev (fun k => bitemporalref02_Large.f k c) b ∧ (b = false → c.length ≤ 12 ∧ ∀ s ∈ c, s.f2.length ≤ 20) := by
 by_cases e : (c.length : Int) > 12
 ·refine ⟨true, Ev.congr (f := fun _ => some true) (fun k => ?_) (Ev.now _), fun h => by cases h⟩
  unfold bitemporalref02_Large.f
  rw [if_pos e]
 ·obtain ⟨b, h1, h2⟩ := largeC_l0 c (by omega) c.length 0 (by omega)
  refine ⟨b, Ev.congr (fun k => ?_) h1, fun hb => ⟨by omega, h2 hb⟩⟩
  unfold bitemporalref02_Large.f
  rw [if_neg e]
  rfl
theorem tightC_ev (n : Int) (l : List S51) (h1 : l.length < 1000000) (h2 : ∀ s ∈ l, s.f2.length ≤ 20) : Ev (fun k => allen_Tighten.f k n l) (tightP n l) := ⟨40, fun k hk => by
 show (if gd k l = true then some (tightP n l) else none) = _
 refine if_pos ?_
 simp only [gd, Bool.and_eq_true, decide_eq_true_eq, List.all_eq_true]
 exact ⟨⟨by omega, h1⟩, fun s hs => by have := h2 s hs; omega⟩⟩
theorem tighten_ev (n : Int) (l : List S51) : Ev (fun k => bitemporallaw02_AllenTighten.f k n l) true := by
 have jt : Ev (fun k => bitemporallaw02_AllenTighten.j0 k n l true) true := Ev.step (fun k => by rw [bitemporallaw02_AllenTighten.j0, if_pos rfl]) awakeC_ev
 obtain ⟨b, hb, hs⟩ := largeC_ev l
 have key : Ev (fun k => bitemporallaw02_AllenTighten.j0 k n l b) true := by
  cases hbb : b with
  | true => exact jt
  | false =>
   obtain ⟨h12, h20⟩ := hs hbb
   obtain ⟨a, r, t1, t2, t3, t4, t5⟩ := tight_law n l (by omega) (fun s hs => by have := h20 s hs; omega)
   have p1 := tightC_ev n l (by omega) h20
   rw [t1] at p1
   have s1 := same_ev a t4 t5
   have key1 : Ev (fun k => bitemporallaw02_AllenTighten.j1 k n a r false) true := by
    cases hr : r with
    | false =>
     refine Ev.step (fun k => ?_) awakeC_ev
     rw [bitemporallaw02_AllenTighten.j1, if_neg (by decide), if_neg (by decide)]
    | true =>
     have p2 := tightC_ev n a t4 t5
     rw [t3 hr] at p2
     refine Ev.stepB p2 (fun k hp => ?_) (Ev.useB' (g := fun k => (bitemporalref02_Same.f k a a).bind fun t330 => if t330 = true then (bitemporallaw02_awake.f k).bind fun t => some t else some false) s1 (fun k hp => ?_) awakeC_ev)
     ·rw [bitemporallaw02_AllenTighten.j1, if_neg (by decide), if_pos rfl, hp, Option.bind_some, if_pos rfl]
     ·rw [hp, Option.bind_some, if_pos rfl]
   refine Ev.stepB p1 (fun k hp => ?_) (Ev.useB' (g := fun k => (bitemporalref02_Tighten.f k n l).bind fun bt321 => if (r != bt321.2) = true then bitemporallaw02_AllenTighten.j1 k n a r true else (bitemporalref02_Same.f k a bt321.1).bind fun t325 => bitemporallaw02_AllenTighten.j1 k n a r (!t325)) t2 (fun k hp => ?_)
    (Ev.useB' (g := fun k => (bitemporalref02_Same.f k a a).bind fun t325 => bitemporallaw02_AllenTighten.j1 k n a r (!t325)) s1 (fun k hp => ?_) key1))
   ·rw [bitemporallaw02_AllenTighten.j0, if_neg (by decide), hp, Option.bind_some]
   ·rw [hp, Option.bind_some, if_neg (by simp)]
   ·rw [hp, Option.bind_some]
    rfl
 have hb2 := Ev.bind (f := fun k t => bitemporallaw02_AllenTighten.j0 k n l t) hb key
 by_cases e5 : n > 5
 ·by_cases e8 : n ≤ 8
  ·by_cases e2 : (l.length : Int) > 2
   ·refine Ev.congr (fun k => ?_) jt
    unfold bitemporallaw02_AllenTighten.f
    rw [if_pos e5, if_pos e8, if_pos e2]
   ·refine Ev.congr (fun k => ?_) hb2
    unfold bitemporallaw02_AllenTighten.f
    rw [if_pos e5, if_pos e8, if_neg e2]
  ·refine Ev.congr (fun k => ?_) hb2
   unfold bitemporallaw02_AllenTighten.f
   rw [if_pos e5, if_neg e8]
 ·refine Ev.congr (fun k => ?_) hb2
  unfold bitemporallaw02_AllenTighten.f
  rw [if_neg e5]
theorem tighten_row (n : Int) (l : List S51) : ∃ k, bitemporallaw02_AllenTighten.f k n l = some true := (tighten_ev n l).rounds
end Go.Proofs.Ytoemcdkopnclbaa.A
