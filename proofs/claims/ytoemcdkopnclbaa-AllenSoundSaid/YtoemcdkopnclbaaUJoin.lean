/-
  The plain law of AllenSound: the relations of true periods compose as the table says; periods that satisfy constraints satisfy the tightened ones.
-/
import Derived.Test.YtoemcdkopnclbaaULRel
import Derived.Test.YtoemcdkopnclbaaUHTab
import Derived.Test.YtoemcdkopnclbaaULVal
import Derived.Test.YtoemcdkopnclbaaUAx22
section
namespace Go.Proofs.Ytoemcdkopnclbaa.A
open Go.RowKit Go.Proofs.YtoemcdkopnclbaaW.PrintWords Go.Proofs.YtoemcdkopnclbaaW.PrintLast Go.Proofs.YtoemcdkopnclbaaW.PrintMore
theorem comp_0 (a b c d e f : Int) (h1 : a < b) (h2 : c < d) (h3 : e < f) (p : b < c) : (tabAt 0 (relI c d e f).toNat).testBit (relI a b e f).toNat = true := by
 rcases relI_spec c d e f h2 h3 with ⟨q, e2⟩ | ⟨q, e2⟩ | ⟨q, e2⟩ | ⟨q, e2⟩ | ⟨q, e2⟩ | ⟨q, e2⟩ | ⟨q, e2⟩ | ⟨q, e2⟩ | ⟨q, e2⟩ | ⟨q, e2⟩ | ⟨q, e2⟩ | ⟨q, e2⟩ | ⟨q, e2⟩ <;> rw [e2] <;> rcases relI_spec a b e f h1 h3 with ⟨r, e3⟩ | ⟨r, e3⟩ | ⟨r, e3⟩ | ⟨r, e3⟩ | ⟨r, e3⟩ | ⟨r, e3⟩ | ⟨r, e3⟩ | ⟨r, e3⟩ | ⟨r, e3⟩ | ⟨r, e3⟩ | ⟨r, e3⟩ | ⟨r, e3⟩ | ⟨r, e3⟩ <;> rw [e3] <;> first | (exfalso; clear e2 e3; omega) | decide +kernel
theorem comp_1 (a b c d e f : Int) (h1 : a < b) (h2 : c < d) (h3 : e < f) (p : b = c) : (tabAt 1 (relI c d e f).toNat).testBit (relI a b e f).toNat = true := by
 rcases relI_spec c d e f h2 h3 with ⟨q, e2⟩ | ⟨q, e2⟩ | ⟨q, e2⟩ | ⟨q, e2⟩ | ⟨q, e2⟩ | ⟨q, e2⟩ | ⟨q, e2⟩ | ⟨q, e2⟩ | ⟨q, e2⟩ | ⟨q, e2⟩ | ⟨q, e2⟩ | ⟨q, e2⟩ | ⟨q, e2⟩ <;> rw [e2] <;> rcases relI_spec a b e f h1 h3 with ⟨r, e3⟩ | ⟨r, e3⟩ | ⟨r, e3⟩ | ⟨r, e3⟩ | ⟨r, e3⟩ | ⟨r, e3⟩ | ⟨r, e3⟩ | ⟨r, e3⟩ | ⟨r, e3⟩ | ⟨r, e3⟩ | ⟨r, e3⟩ | ⟨r, e3⟩ | ⟨r, e3⟩ <;> rw [e3] <;> first | (exfalso; clear e2 e3; omega) | decide +kernel
theorem comp_2 (a b c d e f : Int) (h1 : a < b) (h2 : c < d) (h3 : e < f) (p : a < c ∧ c < b ∧ b < d) : (tabAt 2 (relI c d e f).toNat).testBit (relI a b e f).toNat = true := by
 rcases relI_spec c d e f h2 h3 with ⟨q, e2⟩ | ⟨q, e2⟩ | ⟨q, e2⟩ | ⟨q, e2⟩ | ⟨q, e2⟩ | ⟨q, e2⟩ | ⟨q, e2⟩ | ⟨q, e2⟩ | ⟨q, e2⟩ | ⟨q, e2⟩ | ⟨q, e2⟩ | ⟨q, e2⟩ | ⟨q, e2⟩ <;> rw [e2] <;> rcases relI_spec a b e f h1 h3 with ⟨r, e3⟩ | ⟨r, e3⟩ | ⟨r, e3⟩ | ⟨r, e3⟩ | ⟨r, e3⟩ | ⟨r, e3⟩ | ⟨r, e3⟩ | ⟨r, e3⟩ | ⟨r, e3⟩ | ⟨r, e3⟩ | ⟨r, e3⟩ | ⟨r, e3⟩ | ⟨r, e3⟩ <;> rw [e3] <;> first | (exfalso; clear e2 e3; omega) | decide +kernel
theorem comp_3 (a b c d e f : Int) (h1 : a < b) (h2 : c < d) (h3 : e < f) (p : a = c ∧ b < d) : (tabAt 3 (relI c d e f).toNat).testBit (relI a b e f).toNat = true := by
 rcases relI_spec c d e f h2 h3 with ⟨q, e2⟩ | ⟨q, e2⟩ | ⟨q, e2⟩ | ⟨q, e2⟩ | ⟨q, e2⟩ | ⟨q, e2⟩ | ⟨q, e2⟩ | ⟨q, e2⟩ | ⟨q, e2⟩ | ⟨q, e2⟩ | ⟨q, e2⟩ | ⟨q, e2⟩ | ⟨q, e2⟩ <;> rw [e2] <;> rcases relI_spec a b e f h1 h3 with ⟨r, e3⟩ | ⟨r, e3⟩ | ⟨r, e3⟩ | ⟨r, e3⟩ | ⟨r, e3⟩ | ⟨r, e3⟩ | ⟨r, e3⟩ | ⟨r, e3⟩ | ⟨r, e3⟩ | ⟨r, e3⟩ | ⟨r, e3⟩ | ⟨r, e3⟩ | ⟨r, e3⟩ <;> rw [e3] <;> first | (exfalso; clear e2 e3; omega) | decide +kernel
theorem comp_4 (a b c d e f : Int) (h1 : a < b) (h2 : c < d) (h3 : e < f) (p : c < a ∧ b < d) : (tabAt 4 (relI c d e f).toNat).testBit (relI a b e f).toNat = true := by
 rcases relI_spec c d e f h2 h3 with ⟨q, e2⟩ | ⟨q, e2⟩ | ⟨q, e2⟩ | ⟨q, e2⟩ | ⟨q, e2⟩ | ⟨q, e2⟩ | ⟨q, e2⟩ | ⟨q, e2⟩ | ⟨q, e2⟩ | ⟨q, e2⟩ | ⟨q, e2⟩ | ⟨q, e2⟩ | ⟨q, e2⟩ <;> rw [e2] <;> rcases relI_spec a b e f h1 h3 with ⟨r, e3⟩ | ⟨r, e3⟩ | ⟨r, e3⟩ | ⟨r, e3⟩ | ⟨r, e3⟩ | ⟨r, e3⟩ | ⟨r, e3⟩ | ⟨r, e3⟩ | ⟨r, e3⟩ | ⟨r, e3⟩ | ⟨r, e3⟩ | ⟨r, e3⟩ | ⟨r, e3⟩ <;> rw [e3] <;> first | (exfalso; clear e2 e3; omega) | decide +kernel
theorem comp_5 (a b c d e f : Int) (h1 : a < b) (h2 : c < d) (h3 : e < f) (p : b = d ∧ c < a) : (tabAt 5 (relI c d e f).toNat).testBit (relI a b e f).toNat = true := by
 rcases relI_spec c d e f h2 h3 with ⟨q, e2⟩ | ⟨q, e2⟩ | ⟨q, e2⟩ | ⟨q, e2⟩ | ⟨q, e2⟩ | ⟨q, e2⟩ | ⟨q, e2⟩ | ⟨q, e2⟩ | ⟨q, e2⟩ | ⟨q, e2⟩ | ⟨q, e2⟩ | ⟨q, e2⟩ | ⟨q, e2⟩ <;> rw [e2] <;> rcases relI_spec a b e f h1 h3 with ⟨r, e3⟩ | ⟨r, e3⟩ | ⟨r, e3⟩ | ⟨r, e3⟩ | ⟨r, e3⟩ | ⟨r, e3⟩ | ⟨r, e3⟩ | ⟨r, e3⟩ | ⟨r, e3⟩ | ⟨r, e3⟩ | ⟨r, e3⟩ | ⟨r, e3⟩ | ⟨r, e3⟩ <;> rw [e3] <;> first | (exfalso; clear e2 e3; omega) | decide +kernel
theorem comp_6 (a b c d e f : Int) (h1 : a < b) (h2 : c < d) (h3 : e < f) (p : a = c ∧ b = d) : (tabAt 6 (relI c d e f).toNat).testBit (relI a b e f).toNat = true := by
 rcases relI_spec c d e f h2 h3 with ⟨q, e2⟩ | ⟨q, e2⟩ | ⟨q, e2⟩ | ⟨q, e2⟩ | ⟨q, e2⟩ | ⟨q, e2⟩ | ⟨q, e2⟩ | ⟨q, e2⟩ | ⟨q, e2⟩ | ⟨q, e2⟩ | ⟨q, e2⟩ | ⟨q, e2⟩ | ⟨q, e2⟩ <;> rw [e2] <;> rcases relI_spec a b e f h1 h3 with ⟨r, e3⟩ | ⟨r, e3⟩ | ⟨r, e3⟩ | ⟨r, e3⟩ | ⟨r, e3⟩ | ⟨r, e3⟩ | ⟨r, e3⟩ | ⟨r, e3⟩ | ⟨r, e3⟩ | ⟨r, e3⟩ | ⟨r, e3⟩ | ⟨r, e3⟩ | ⟨r, e3⟩ <;> rw [e3] <;> first | (exfalso; clear e2 e3; omega) | decide +kernel
theorem comp_7 (a b c d e f : Int) (h1 : a < b) (h2 : c < d) (h3 : e < f) (p : b = d ∧ a < c) : (tabAt 7 (relI c d e f).toNat).testBit (relI a b e f).toNat = true := by
 rcases relI_spec c d e f h2 h3 with ⟨q, e2⟩ | ⟨q, e2⟩ | ⟨q, e2⟩ | ⟨q, e2⟩ | ⟨q, e2⟩ | ⟨q, e2⟩ | ⟨q, e2⟩ | ⟨q, e2⟩ | ⟨q, e2⟩ | ⟨q, e2⟩ | ⟨q, e2⟩ | ⟨q, e2⟩ | ⟨q, e2⟩ <;> rw [e2] <;> rcases relI_spec a b e f h1 h3 with ⟨r, e3⟩ | ⟨r, e3⟩ | ⟨r, e3⟩ | ⟨r, e3⟩ | ⟨r, e3⟩ | ⟨r, e3⟩ | ⟨r, e3⟩ | ⟨r, e3⟩ | ⟨r, e3⟩ | ⟨r, e3⟩ | ⟨r, e3⟩ | ⟨r, e3⟩ | ⟨r, e3⟩ <;> rw [e3] <;> first | (exfalso; clear e2 e3; omega) | decide +kernel
theorem comp_8 (a b c d e f : Int) (h1 : a < b) (h2 : c < d) (h3 : e < f) (p : a < c ∧ d < b) : (tabAt 8 (relI c d e f).toNat).testBit (relI a b e f).toNat = true := by
 rcases relI_spec c d e f h2 h3 with ⟨q, e2⟩ | ⟨q, e2⟩ | ⟨q, e2⟩ | ⟨q, e2⟩ | ⟨q, e2⟩ | ⟨q, e2⟩ | ⟨q, e2⟩ | ⟨q, e2⟩ | ⟨q, e2⟩ | ⟨q, e2⟩ | ⟨q, e2⟩ | ⟨q, e2⟩ | ⟨q, e2⟩ <;> rw [e2] <;> rcases relI_spec a b e f h1 h3 with ⟨r, e3⟩ | ⟨r, e3⟩ | ⟨r, e3⟩ | ⟨r, e3⟩ | ⟨r, e3⟩ | ⟨r, e3⟩ | ⟨r, e3⟩ | ⟨r, e3⟩ | ⟨r, e3⟩ | ⟨r, e3⟩ | ⟨r, e3⟩ | ⟨r, e3⟩ | ⟨r, e3⟩ <;> rw [e3] <;> first | (exfalso; clear e2 e3; omega) | decide +kernel
theorem comp_9 (a b c d e f : Int) (h1 : a < b) (h2 : c < d) (h3 : e < f) (p : a = c ∧ d < b) : (tabAt 9 (relI c d e f).toNat).testBit (relI a b e f).toNat = true := by
 rcases relI_spec c d e f h2 h3 with ⟨q, e2⟩ | ⟨q, e2⟩ | ⟨q, e2⟩ | ⟨q, e2⟩ | ⟨q, e2⟩ | ⟨q, e2⟩ | ⟨q, e2⟩ | ⟨q, e2⟩ | ⟨q, e2⟩ | ⟨q, e2⟩ | ⟨q, e2⟩ | ⟨q, e2⟩ | ⟨q, e2⟩ <;> rw [e2] <;> rcases relI_spec a b e f h1 h3 with ⟨r, e3⟩ | ⟨r, e3⟩ | ⟨r, e3⟩ | ⟨r, e3⟩ | ⟨r, e3⟩ | ⟨r, e3⟩ | ⟨r, e3⟩ | ⟨r, e3⟩ | ⟨r, e3⟩ | ⟨r, e3⟩ | ⟨r, e3⟩ | ⟨r, e3⟩ | ⟨r, e3⟩ <;> rw [e3] <;> first | (exfalso; clear e2 e3; omega) | decide +kernel
theorem comp_10 (a b c d e f : Int) (h1 : a < b) (h2 : c < d) (h3 : e < f) (p : c < a ∧ a < d ∧ d < b) : (tabAt 10 (relI c d e f).toNat).testBit (relI a b e f).toNat = true := by
 rcases relI_spec c d e f h2 h3 with ⟨q, e2⟩ | ⟨q, e2⟩ | ⟨q, e2⟩ | ⟨q, e2⟩ | ⟨q, e2⟩ | ⟨q, e2⟩ | ⟨q, e2⟩ | ⟨q, e2⟩ | ⟨q, e2⟩ | ⟨q, e2⟩ | ⟨q, e2⟩ | ⟨q, e2⟩ | ⟨q, e2⟩ <;> rw [e2] <;> rcases relI_spec a b e f h1 h3 with ⟨r, e3⟩ | ⟨r, e3⟩ | ⟨r, e3⟩ | ⟨r, e3⟩ | ⟨r, e3⟩ | ⟨r, e3⟩ | ⟨r, e3⟩ | ⟨r, e3⟩ | ⟨r, e3⟩ | ⟨r, e3⟩ | ⟨r, e3⟩ | ⟨r, e3⟩ | ⟨r, e3⟩ <;> rw [e3] <;> first | (exfalso; clear e2 e3; omega) | decide +kernel
theorem comp_11 (a b c d e f : Int) (h1 : a < b) (h2 : c < d) (h3 : e < f) (p : d = a) : (tabAt 11 (relI c d e f).toNat).testBit (relI a b e f).toNat = true := by
 rcases relI_spec c d e f h2 h3 with ⟨q, e2⟩ | ⟨q, e2⟩ | ⟨q, e2⟩ | ⟨q, e2⟩ | ⟨q, e2⟩ | ⟨q, e2⟩ | ⟨q, e2⟩ | ⟨q, e2⟩ | ⟨q, e2⟩ | ⟨q, e2⟩ | ⟨q, e2⟩ | ⟨q, e2⟩ | ⟨q, e2⟩ <;> rw [e2] <;> rcases relI_spec a b e f h1 h3 with ⟨r, e3⟩ | ⟨r, e3⟩ | ⟨r, e3⟩ | ⟨r, e3⟩ | ⟨r, e3⟩ | ⟨r, e3⟩ | ⟨r, e3⟩ | ⟨r, e3⟩ | ⟨r, e3⟩ | ⟨r, e3⟩ | ⟨r, e3⟩ | ⟨r, e3⟩ | ⟨r, e3⟩ <;> rw [e3] <;> first | (exfalso; clear e2 e3; omega) | decide +kernel
theorem comp_12 (a b c d e f : Int) (h1 : a < b) (h2 : c < d) (h3 : e < f) (p : d < a) : (tabAt 12 (relI c d e f).toNat).testBit (relI a b e f).toNat = true := by
 rcases relI_spec c d e f h2 h3 with ⟨q, e2⟩ | ⟨q, e2⟩ | ⟨q, e2⟩ | ⟨q, e2⟩ | ⟨q, e2⟩ | ⟨q, e2⟩ | ⟨q, e2⟩ | ⟨q, e2⟩ | ⟨q, e2⟩ | ⟨q, e2⟩ | ⟨q, e2⟩ | ⟨q, e2⟩ | ⟨q, e2⟩ <;> rw [e2] <;> rcases relI_spec a b e f h1 h3 with ⟨r, e3⟩ | ⟨r, e3⟩ | ⟨r, e3⟩ | ⟨r, e3⟩ | ⟨r, e3⟩ | ⟨r, e3⟩ | ⟨r, e3⟩ | ⟨r, e3⟩ | ⟨r, e3⟩ | ⟨r, e3⟩ | ⟨r, e3⟩ | ⟨r, e3⟩ | ⟨r, e3⟩ <;> rw [e3] <;> first | (exfalso; clear e2 e3; omega) | decide +kernel
theorem comp_sound (a b c d e f : Int) (h1 : a < b) (h2 : c < d) (h3 : e < f) : (tabAt (relI a b c d).toNat (relI c d e f).toNat).testBit (relI a b e f).toNat = true := by
 rcases relI_spec a b c d h1 h2 with ⟨p, e1⟩ | ⟨p, e1⟩ | ⟨p, e1⟩ | ⟨p, e1⟩ | ⟨p, e1⟩ | ⟨p, e1⟩ | ⟨p, e1⟩ | ⟨p, e1⟩ | ⟨p, e1⟩ | ⟨p, e1⟩ | ⟨p, e1⟩ | ⟨p, e1⟩ | ⟨p, e1⟩
 ·rw [e1]; exact comp_0 a b c d e f h1 h2 h3 p
 ·rw [e1]; exact comp_1 a b c d e f h1 h2 h3 p
 ·rw [e1]; exact comp_2 a b c d e f h1 h2 h3 p
 ·rw [e1]; exact comp_3 a b c d e f h1 h2 h3 p
 ·rw [e1]; exact comp_4 a b c d e f h1 h2 h3 p
 ·rw [e1]; exact comp_5 a b c d e f h1 h2 h3 p
 ·rw [e1]; exact comp_6 a b c d e f h1 h2 h3 p
 ·rw [e1]; exact comp_7 a b c d e f h1 h2 h3 p
 ·rw [e1]; exact comp_8 a b c d e f h1 h2 h3 p
 ·rw [e1]; exact comp_9 a b c d e f h1 h2 h3 p
 ·rw [e1]; exact comp_10 a b c d e f h1 h2 h3 p
 ·rw [e1]; exact comp_11 a b c d e f h1 h2 h3 p
 ·rw [e1]; exact comp_12 a b c d e f h1 h2 h3 p
end Go.Proofs.Ytoemcdkopnclbaa.A
end
section
namespace Go.Proofs.Ytoemcdkopnclbaa.A
open Go.RowKit Go.Proofs.YtoemcdkopnclbaaW.PrintWords Go.Proofs.YtoemcdkopnclbaaW.PrintLast Go.Proofs.YtoemcdkopnclbaaW.PrintMore
set_option linter.unusedVariables false
set_option linter.unusedSimpArgs false
theorem Ev.useB {α β : Type} {g : Nat → Option β} {p : Nat → Option α} {f : Nat → Option β} {a : α} {r : β} (hp : Ev p a) (h : ∀ k, p k = some a → g k = f k) (e : Ev f r) : Ev g r := by
 obtain ⟨K1, h1⟩ := hp
 obtain ⟨K2, h2⟩ := e
 refine ⟨K1 + K2, fun k hk => ?_⟩
 rw [h k (h1 k (by omega))]
 exact h2 k (by omega)
theorem large_l0 (c : List S51) (hc : c.length < 1000000) : ∀ d i, i + d = c.length → ∃ b, Ev (fun k => bitemporalref02_Large.l0 k c (i : Int)) b ∧ (b = false → ∀ s ∈ c.drop i, s.f2.length ≤ 20)
 | 0, i, hi => by
  refine ⟨false, Ev.step (f := fun _ => some false) (fun k => ?_) (Ev.now _), fun _ s hs => ?_⟩
  ·rw [bitemporalref02_Large.l0, if_neg (by omega)]
  ·rw [List.drop_eq_nil_of_le (by omega)] at hs; simp at hs
 | d + 1, i, hi => by
  have hlt : i < c.length := by omega
  by_cases e : (c[i].f2.length : Int) > 20
  ·refine ⟨true, Ev.step (f := fun _ => some true) (fun k => ?_) (Ev.now _), fun h => by cases h⟩
   rw [bitemporalref02_Large.l0, if_pos (by omega), if_pos (by omega), rd51 c i hlt, if_pos e]
  ·obtain ⟨b, h1, h2⟩ := large_l0 c hc d (i + 1) (by omega)
   refine ⟨b, Ev.step (fun k => ?_) h1, fun hb s hs => ?_⟩
   ·rw [bitemporalref02_Large.l0, if_pos (by omega), if_pos (by omega), rd51 c i hlt, if_neg e, w64 i (by omega)]
   ·rw [List.drop_eq_getElem_cons hlt, List.mem_cons] at hs
    rcases hs with rfl | hs
    ·omega
    ·exact h2 hb s hs
theorem large_ev (c : List S51) : ∃ b, Ev (fun k => bitemporalref02_Large.f k c) b ∧ (b = false → c.length ≤ 12 ∧ ∀ s ∈ c, s.f2.length ≤ 20) := by
 by_cases e : (c.length : Int) > 12
 ·refine ⟨true, Ev.congr (f := fun _ => some true) (fun k => ?_) (Ev.now _), fun h => by cases h⟩
  unfold bitemporalref02_Large.f
  rw [if_pos e]
 ·obtain ⟨b, h1, h2⟩ := large_l0 c (by omega) c.length 0 (by omega)
  refine ⟨b, Ev.congr (fun k => ?_) h1, fun hb => ⟨by omega, h2 hb⟩⟩
  unfold bitemporalref02_Large.f
  rw [if_neg e]
  rfl
theorem awakeB_ev : Ev (fun k => (bitemporallaw02_awake.f k).bind fun t => some t) true := ⟨40, fun k hk => by
 show (if 40 ≤ k then some true else none).bind _ = _
 rw [if_pos hk]
 rfl⟩
theorem gd_small (l : List S51) (h1 : l.length < 1000000) (h2 : ∀ s ∈ l, s.f2.length ≤ 20) (k : Nat) (hk : 40 ≤ k) : gd k l = true := by
 simp only [gd, Bool.and_eq_true, decide_eq_true_eq, List.all_eq_true]
 exact ⟨⟨by omega, h1⟩, fun s hs => by have := h2 s hs; omega⟩
theorem tight_ev (n : Int) (l : List S51) (h1 : l.length < 1000000) (h2 : ∀ s ∈ l, s.f2.length ≤ 20) : Ev (fun k => allen_Tighten.f k n l) (tightP n l) := ⟨40, fun k hk => by
 show (if gd k l = true then some (tightP n l) else none) = _
 rw [if_pos (gd_small l h1 h2 k hk)]⟩
theorem out_small (m : List Nat) (n : Nat) (hn : n ≤ 8) : (outL m n n).length < 1000000 ∧ ∀ s ∈ outL m n n, s.f2.length ≤ 20 := by
 refine ⟨?_, fun s hs => ?_⟩
 ·have h1 := outL_len m n n
  have h2 : n * n ≤ 8 * 8 := Nat.mul_le_mul hn hn
  omega
 ·obtain ⟨i, j, _, _, _, rfl⟩ := (outL_mem m n s n (Nat.le_refl _)).1 hs
  have : (listS (netAt m i j)).length ≤ 13 := listFrom_len _ 13 0
  show (listS (netAt m i j)).length ≤ 20
  omega
def Rr (ps : List S23) (i j : Nat) : Nat := (relI (rd_T23 ps (i : Int)).f0 (rd_T23 ps (i : Int)).f1 (rd_T23 ps (j : Int)).f0 (rd_T23 ps (j : Int)).f1).toNat
theorem sound_net (ps : List S23) (c : List S51) (h5 : ps.length ≤ 8) (h0 : 0 < ps.length) (hs : SatB ps c = true) : ∃ d, tightP (ps.length : Int) c = (d, true) ∧ SatB ps d = true ∧ d.length < 1000000 ∧ ∀ s ∈ d, s.f2.length ≤ 20 := by
 obtain ⟨n, hn⟩ : ∃ n, n = ps.length := ⟨_, rfl⟩
 have hs2 : ps.all vB = true ∧ c.all (RB ps) = true := by simpa [SatB] using hs
 obtain ⟨hv, hc⟩ := hs2
 have hvp : ∀ i : Nat, i < n → VP (rd_T23 ps (i : Int)).f0 (rd_T23 ps (i : Int)).f1 := fun i hi => vp_at ps hv (i : Int) (by omega) (by omega)
 have hrb : ∀ s ∈ c, cOk n s ∧ relP ps s ∈ s.f2 := fun s hs => by rw [hn]; exact of_decide_eq_true (List.all_eq_true.1 hc s hs)
 obtain ⟨w, hb, hok, hbits⟩ := build_bits n (by omega) c (fun s hs => (hrb s hs).1)
 have hR : ∀ i j : Nat, relI (rd_T23 ps (i : Int)).f0 (rd_T23 ps (i : Int)).f1 (rd_T23 ps (j : Int)).f0 (rd_T23 ps (j : Int)).f1 = (Rr ps i j : Int) ∧ Rr ps i j < 13 := fun i j => by
  have := relI_range (rd_T23 ps (i : Int)).f0 (rd_T23 ps (i : Int)).f1 (rd_T23 ps (j : Int)).f0 (rd_T23 ps (j : Int)).f1
  unfold Rr
  omega
 have hclo : Clo n (fun i j x => x = Rr ps i j) := by
  intro i j k x hi hj hk hx
  refine ⟨Rr ps i k, Rr ps k j, (hR i k).2, (hR k j).2, rfl, rfl, ?_⟩
  rw [hx]
  exact comp_sound _ _ _ _ _ _ (hvp i hi).2.1 (hvp k hk).2.1 (hvp j hj).2.1
 have hsub : Sub n (fun i j x => x = Rr ps i j) w := by
  intro i j x hi hj hx
  subst hx
  refine (hbits i j _ hi hj).2 ⟨(hR i j).2, fun e => ?_, fun s hs => ⟨fun e => ?_, fun e => ?_⟩⟩
  ·subst e
   have := (relI_6 _ _ _ _ (hvp i hi).2.1 (hvp i hi).2.1).2 ⟨rfl, rfl⟩
   have h2 := (hR i i).1
   omega
  ·have := (hrb s hs).2
   unfold relP at this
   rw [← e.1, ← e.2, (hR i j).1] at this
   exact this
  ·have := (hrb s hs).2
   unfold relP at this
   rw [← e.1, ← e.2, rel_inv _ _ _ _ (hvp i hi) (hvp j hj), (hR i j).1] at this
   have h3 := (hR i j).2
   rw [show ((12 - Rr ps i j : Nat) : Int) = 12 - (Rr ps i j : Int) by omega]
   exact this
 have hlim := lim_sub (n := n) (by omega) hclo hok hsub
 have hbt : ∀ i j, i < n → j < n → Bt (lim n w) i j (Rr ps i j) := fun i j hi hj => hlim i j _ hi hj rfl
 have ho := out_small (lim n w) n (by omega)
 refine ⟨outL (lim n w) n n, ?_, ?_, ho.1, ho.2⟩
 ·unfold tightP
  rw [if_pos (by omega), Int.toNat_natCast, ← hn, hb]
  show pack (rout (lim n w) n n []) = _
  rw [rout_ok _ n n [] (Nat.le_refl _) (fun i j _ h1 h2 => bt_ne (hbt i j h1 h2)), List.nil_append]
  rfl
 ·unfold SatB
  rw [hv, Bool.true_and]
  refine List.all_eq_true.2 fun s hs => decide_eq_true ?_
  obtain ⟨i, j, _, h1, h2, rfl⟩ := (outL_mem _ n s n (Nat.le_refl _)).1 hs
  refine ⟨⟨List.all_eq_true.2 fun r hr => decide_eq_true ?_, ⟨by show 0 ≤ (i : Int); omega, by show (i : Int) < _; omega⟩, by show 0 ≤ (j : Int); omega, by show (j : Int) < _; omega⟩, ?_⟩
  ·obtain ⟨x, rfl, h3, _⟩ := (listS_mem _ r).1 hr
   omega
  ·refine (listS_mem _ _).2 ⟨Rr ps i j, (hR i j).1, (hR i j).2, hbt i j (by omega) h2⟩
theorem sound_ev (ps : List S23) (c : List S51) : Ev (fun k => bitemporallaw02_AllenSound.f k ps c) true := by
 have jt : Ev (fun k => bitemporallaw02_AllenSound.j0 k ps c true) true := Ev.step (fun k => by rw [bitemporallaw02_AllenSound.j0, if_pos rfl]) awakeB_ev
 have it : Ev (fun k => bitemporallaw02_AllenSound.j1 k ps c true) true := Ev.step (fun k => by rw [bitemporallaw02_AllenSound.j1, if_pos rfl]) awakeB_ev
 by_cases e5 : (ps.length : Int) > 5
 ·refine Ev.congr (fun k => ?_) jt
  unfold bitemporallaw02_AllenSound.f
  rw [if_pos e5]
 ·obtain ⟨b, hb, hs⟩ := large_ev c
  have key : Ev (fun k => bitemporallaw02_AllenSound.j0 k ps c b) true := by
   cases hbb : b with
   | true => exact jt
   | false =>
    obtain ⟨h12, h20⟩ := hs hbb
    have hl : ∀ s ∈ c, s.f2.length < 1000000 := fun s hs => by have := h20 s hs; omega
    have s1 := sat_ev ps c (by omega) (by omega) hl
    have s2 := rsat_ev ps c (by omega) (by omega) hl
    have key2 : Ev (fun k => bitemporallaw02_AllenSound.j1 k ps c (if SatB ps c = true then ((ps.length : Int) == 0) else true)) true := by
     by_cases hsat : SatB ps c = true
     ·rw [if_pos hsat]
      by_cases h0 : ps.length = 0
      ·rw [h0]; exact it
      ·rw [show ((ps.length : Int) == 0) = false from beq_eq_false_iff_ne.2 (by omega)]
       obtain ⟨d, hd, hsd, hd1, hd2⟩ := sound_net ps c (by omega) (by omega) hsat
       have t1 := tight_ev (ps.length : Int) c (by omega) h20
       rw [hd] at t1
       have s3 := sat_ev ps d (by omega) hd1 (fun s hs => by have := hd2 s hs; omega)
       rw [hsd] at s3
       refine Ev.stepB t1 (fun k hp => ?_) (Ev.useB (g := fun k => (allen_Satisfied.f k ps d).bind fun t353 => if t353 = true then (bitemporallaw02_awake.f k).bind fun t => some t else some false) s3 (fun k hp => ?_) awakeB_ev)
       ·rw [bitemporallaw02_AllenSound.j1, if_neg (by decide), hp, Option.bind_some, if_pos rfl]
       ·rw [hp, Option.bind_some, if_pos rfl]
     ·rw [if_neg hsat]; exact it
    refine Ev.stepB s1 (fun k hp => ?_) (Ev.useB (g := fun k => (bitemporalref02_Satisfied.f k ps c).bind fun t347 => if (SatB ps c != t347) = true then some false else if SatB ps c = true then bitemporallaw02_AllenSound.j1 k ps c ((ps.length : Int) == 0) else bitemporallaw02_AllenSound.j1 k ps c true) s2 (fun k hp => ?_) key2)
    ·rw [bitemporallaw02_AllenSound.j0, if_neg (by decide), hp, Option.bind_some]
    ·rw [hp, Option.bind_some, if_neg (by simp)]
     split <;> rfl
  refine Ev.useB hb (fun k hp => ?_) key
  unfold bitemporallaw02_AllenSound.f
  rw [if_neg e5, hp, Option.bind_some]
theorem sound_row (ps : List S23) (c : List S51) : ∃ k, bitemporallaw02_AllenSound.f k ps c = some true := (sound_ev ps c).rounds
end Go.Proofs.Ytoemcdkopnclbaa.A
end
