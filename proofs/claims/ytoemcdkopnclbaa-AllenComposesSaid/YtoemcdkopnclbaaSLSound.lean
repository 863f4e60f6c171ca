/-
  The relation of p to r is among the compositions of those of p to q and of q to r.
-/
import Derived.Test.YtoemcdkopnclbaaSLRel
import Derived.Test.YtoemcdkopnclbaaSHTab
namespace Go.Proofs.Ytoemcdkopnclbaa.A
open Go.RowKit Go.Proofs.YtoemcdkopnclbaaW.PrintWords Go.Proofs.YtoemcdkopnclbaaW.PrintLast Go.Proofs.YtoemcdkopnclbaaW.PrintMore
theorem comp_0 (a b c d e f : Int) (h1 : a < b) (h2 : c < d) (h3 : e < f) (p : b < c) : (tabAt 0 (relI c d e f).toNat).testBit (relI a b e f).toNat = true := by
  rcases relI_spec c d e f h2 h3 with ⟨q, e2⟩ | ⟨q, e2⟩ | ⟨q, e2⟩ | ⟨q, e2⟩ | ⟨q, e2⟩ | ⟨q, e2⟩ | ⟨q, e2⟩ | ⟨q, e2⟩ | ⟨q, e2⟩ | ⟨q, e2⟩ | ⟨q, e2⟩ | ⟨q, e2⟩ | ⟨q, e2⟩ <;> rw [e2] <;> rcases relI_spec a b e f h1 h3 with ⟨r, e3⟩ | ⟨r, e3⟩ | ⟨r, e3⟩ | ⟨r, e3⟩ | ⟨r, e3⟩ | ⟨r, e3⟩ | ⟨r, e3⟩ | ⟨r, e3⟩ | ⟨r, e3⟩ | ⟨r, e3⟩ | ⟨r, e3⟩ | ⟨r, e3⟩ | ⟨r, e3⟩ <;> rw [e3] <;> first | (exfalso; clear e2 e3; omega) | decide +kernel
theorem comp_1 (a b c d e f : Int) (h1 : a < b) (h2 : c < d) (h3 : e < f) (p : b = c) : (tabAt 1 (relI c d e f).toNat).testBit (relI a b e f).toNat = true := by
  rcases relI_spec c d e f h2 h3 with ⟨q, e2⟩ | ⟨q, e2⟩ | ⟨q, e2⟩ | ⟨q, e2⟩ | ⟨q, e2⟩ | ⟨q, e2⟩ | ⟨q, e2⟩ | ⟨q, e2⟩ | ⟨q, e2⟩ | ⟨q, e2⟩ | ⟨q, e2⟩ | ⟨q, e2⟩ | ⟨q, e2⟩ <;> rw [e2] <;> rcases relI_spec a b e f h1 h3 with ⟨r, e3⟩ | ⟨r, e3⟩ | ⟨r, e3⟩ | ⟨r, e3⟩ | ⟨r, e3⟩ | ⟨r, e3⟩ | ⟨r, e3⟩ | ⟨r, e3⟩ | ⟨r, e3⟩ | ⟨r, e3⟩ | ⟨r, e3⟩ | ⟨r, e3⟩ | ⟨r, e3⟩ <;> rw [e3] <;> first | (exfalso; clear e2 e3; omega) | decide +kernel
theorem comp_2 (a b c d e f : Int) (h1 : a < b) (h2 : c < d) (h3 : e < f) (p : a < c ∧ c < b ∧ b < d) : (tabAt 2 (relI c d e f).toNat).testBit (relI a b e f).toNat = true := by
  rcases relI_spec c d e f h2 h3 with ⟨q, e2⟩ | ⟨q, e2⟩ | ⟨q, e2⟩ | ⟨q, e2⟩ | ⟨q, e2⟩ | ⟨q, e2⟩ | ⟨q, e2⟩ | ⟨q, e2⟩ | ⟨q, e2⟩ | ⟨q, e2⟩ | ⟨q, e2⟩ | ⟨q, e2⟩ | ⟨q, e2⟩ <;> rw [e2] <;> rcases relI_spec a b e f h1 h3 with ⟨r, e3⟩ | ⟨r, e3⟩ | ⟨r, e3⟩ | ⟨r, e3⟩ | ⟨r, e3⟩ | ⟨r, e3⟩ | ⟨r, e3⟩ | ⟨r, e3⟩ | ⟨r, e3⟩ | ⟨r, e3⟩ | ⟨r, e3⟩ | ⟨r, e3⟩ | ⟨r, e3⟩ <;> rw [e3] <;> first | (exfalso; clear e2 e3; omega) | decide +kernel
theorem comp_3 (a b c d e f : Int) (h1 : a < b) (h2 : c < d) (h3 : e < f) (p : a = c ∧ b < d) : (tabAt 3 (relI c d e f).toNat).testBit (relI a b e f).toNat = true := by
  rcases relI_spec c d e f h2 h3 with ⟨q, e2⟩ | ⟨q, e2⟩ | ⟨q, e2⟩ | ⟨q, e2⟩ | ⟨q, e2⟩ | ⟨q, e2⟩ | ⟨q, e2⟩ | ⟨q, e2⟩ | ⟨q, e2⟩ | ⟨q, e2⟩ | ⟨q, e2⟩ | ⟨q, e2⟩ | ⟨q, e2⟩ <;> rw [e2] <;> rcases relI_spec a b e f h1 h3 with ⟨r, e3⟩ | ⟨r, e3⟩ | ⟨r, e3⟩ | ⟨r, e3⟩ | ⟨r, e3⟩ | ⟨r, e3⟩ | ⟨r, e3⟩ | ⟨r, e3⟩ | ⟨r, e3⟩ | ⟨r, e3⟩ | ⟨r, e3⟩ | ⟨r, e3⟩ | ⟨r, e3⟩ <;> rw [e3] <;> first | (exfalso; clear e2 e3; omega) | decide +kernel
theorem comp_4 (a b c d e f : Int) (h1 : a < b) (h2 : c < d) (h3 : e < f) (p : c < a ∧ b < d) : (tabAt 4 (relI c d e f).toNat).testBit (relI a b e f).toNat = true := by
  rcases relI_spec c d e f h2 h3 with ⟨q, e2⟩ | ⟨q, e2⟩ | ⟨q, e2⟩ | ⟨q, e2⟩ | ⟨q, e2⟩ | ⟨q, e2⟩ | ⟨q, e2⟩ | ⟨q, e2⟩ | ⟨q, e2⟩ | ⟨q, e2⟩ | ⟨q, e2⟩ | ⟨q, e2⟩ | ⟨q, e2⟩ <;> rw [e2] <;> rcases relI_spec a b e f h1 h3 with ⟨r, e3⟩ | ⟨r, e3⟩ | ⟨r, e3⟩ | ⟨r, e3⟩ | ⟨r, e3⟩ | ⟨r, e3⟩ | ⟨r, e3⟩ | ⟨r, e3⟩ | ⟨r, e3⟩ | ⟨r, e3⟩ | ⟨r, e3⟩ | ⟨r, e3⟩ | ⟨r, e3⟩ <;> rw [e3] <;> first | (exfalso; clear e2 e3; omega) | decide +kernel
theorem comp_5 (a b c d e f : Int) (h1 : a < b) (h2 : c < d) (h3 : e < f) (p : b = d ∧ c < a) : (tabAt 5 (relI c d e f).toNat).testBit (relI a b e f).toNat = true := by
  rcases relI_spec c d e f h2 h3 with ⟨q, e2⟩ | ⟨q, e2⟩ | ⟨q, e2⟩ | ⟨q, e2⟩ | ⟨q, e2⟩ | ⟨q, e2⟩ | ⟨q, e2⟩ | ⟨q, e2⟩ | ⟨q, e2⟩ | ⟨q, e2⟩ | ⟨q, e2⟩ | ⟨q, e2⟩ | ⟨q, e2⟩ <;> rw [e2] <;> rcases relI_spec a b e f h1 h3 with ⟨r, e3⟩ | ⟨r, e3⟩ | ⟨r, e3⟩ | ⟨r, e3⟩ | ⟨r, e3⟩ | ⟨r, e3⟩ | ⟨r, e3⟩ | ⟨r, e3⟩ | ⟨r, e3⟩ | ⟨r, e3⟩ | ⟨r, e3⟩ | ⟨r, e3⟩ | ⟨r, e3⟩ <;> rw [e3] <;> first | (exfalso; clear e2 e3; omega) | decide +kernel
theorem comp_6 (a b c d e f : Int) (h1 : a < b) (h2 : c < d) (h3 : e < f) (p : a = c ∧ b = d) : (tabAt 6 (relI c d e f).toNat).testBit (relI a b e f).toNat = true := by
  rcases relI_spec c d e f h2 h3 with ⟨q, e2⟩ | ⟨q, e2⟩ | ⟨q, e2⟩ | ⟨q, e2⟩ | ⟨q, e2⟩ | ⟨q, e2⟩ | ⟨q, e2⟩ | ⟨q, e2⟩ | ⟨q, e2⟩ | ⟨q, e2⟩ | ⟨q, e2⟩ | ⟨q, e2⟩ | ⟨q, e2⟩ <;> rw [e2] <;> rcases relI_spec a b e f h1 h3 with ⟨r, e3⟩ | ⟨r, e3⟩ | ⟨r, e3⟩ | ⟨r, e3⟩ | ⟨r, e3⟩ | ⟨r, e3⟩ | ⟨r, e3⟩ | ⟨r, e3⟩ | ⟨r, e3⟩ | ⟨r, e3⟩ | ⟨r, e3⟩ | ⟨r, e3⟩ | ⟨r, e3⟩ <;> rw [e3] <;> first | (exfalso; clear e2 e3; omega) | decide +kernel
theorem comp_7 (a b c d e f : Int) (h1 : a < b) (h2 : c < d) (h3 : e < f) (p : b = d ∧ a < c) : (tabAt 7 (relI c d e f).toNat).testBit (relI a b e f).toNat = true := by
  rcases relI_spec c d e f h2 h3 with ⟨q, e2⟩ | ⟨q, e2⟩ | ⟨q, e2⟩ | ⟨q, e2⟩ | ⟨q, e2⟩ | ⟨q, e2⟩ | ⟨q, e2⟩ | ⟨q, e2⟩ | ⟨q, e2⟩ | ⟨q, e2⟩ | ⟨q, e2⟩ | ⟨q, e2⟩ | ⟨q, e2⟩ <;> rw [e2] <;> rcases relI_spec a b e f h1 h3 with ⟨r, e3⟩ | ⟨r, e3⟩ | ⟨r, e3⟩ | ⟨r, e3⟩ | ⟨r, e3⟩ | ⟨r, e3⟩ | ⟨r, e3⟩ | ⟨r, e3⟩ | ⟨r, e3⟩ | ⟨r, e3⟩ | ⟨r, e3⟩ | ⟨r, e3⟩ | ⟨r, e3⟩ <;> rw [e3] <;> first | (exfalso; clear e2 e3; omega) | decide +kernel
theorem comp_8 (a b c d e f : Int) (h1 : a < b) (h2 : c < d) (h3 : e < f) (p : a < c ∧ d < b) : (tabAt 8 (relI c d e f).toNat).testBit (relI a b e f).toNat = true := by
  rcases relI_spec c d e f h2 h3 with ⟨q, e2⟩ | ⟨q, e2⟩ | ⟨q, e2⟩ | ⟨q, e2⟩ | ⟨q, e2⟩ | ⟨q, e2⟩ | ⟨q, e2⟩ | ⟨q, e2⟩ | ⟨q, e2⟩ | ⟨q, e2⟩ | ⟨q, e2⟩ | ⟨q, e2⟩ | ⟨q, e2⟩ <;> rw [e2] <;> rcases relI_spec a b e f h1 h3 with ⟨r, e3⟩ | ⟨r, e3⟩ | ⟨r, e3⟩ | ⟨r, e3⟩ | ⟨r, e3⟩ | ⟨r, e3⟩ | ⟨r, e3⟩ | ⟨r, e3⟩ | ⟨r, e3⟩ | ⟨r, e3⟩ | ⟨r, e3⟩ | ⟨r, e3⟩ | ⟨r, e3⟩ <;> rw [e3] <;> first | (exfalso; clear e2 e3; omega) | decide +kernel
theorem comp_9 (a b c d e f : Int) (h1 : a < b) (h2 : c < d) (h3 : e < f) (p : a = c ∧ d < b) : (tabAt 9 (relI c d e f).toNat).testBit (relI a b e f).toNat = true := by
  rcases relI_spec c d e f h2 h3 with ⟨q, e2⟩ | ⟨q, e2⟩ | ⟨q, e2⟩ | ⟨q, e2⟩ | ⟨q, e2⟩ | ⟨q, e2⟩ | ⟨q, e2⟩ | ⟨q, e2⟩ | ⟨q, e2⟩ | ⟨q, e2⟩ | ⟨q, e2⟩ | ⟨q, e2⟩ | ⟨q, e2⟩ <;> rw [e2] <;> rcases relI_spec a b e f h1 h3 with ⟨r, e3⟩ | ⟨r, e3⟩ | ⟨r, e3⟩ | ⟨r, e3⟩ | ⟨r, e3⟩ | ⟨r, e3⟩ | ⟨r, e3⟩ | ⟨r, e3⟩ | ⟨r, e3⟩ | ⟨r, e3⟩ | ⟨r, e3⟩ | ⟨r, e3⟩ | ⟨r, e3⟩ <;> rw [e3] <;> first | (exfalso; clear e2 e3; omega) | decide +kernel
theorem comp_10 (a b c d e f : Int) (h1 : a < b) (h2 : c < d) (h3 : e < f) (p : c < a ∧ a < d ∧ d < b) : (tabAt 10 (relI c d e f).toNat).testBit (relI a b e f).toNat = true := by
  rcases relI_spec c d e f h2 h3 with ⟨q, e2⟩ | ⟨q, e2⟩ | ⟨q, e2⟩ | ⟨q, e2⟩ | ⟨q, e2⟩ | ⟨q, e2⟩ | ⟨q, e2⟩ | ⟨q, e2⟩ | ⟨q, e2⟩ | ⟨q, e2⟩ | ⟨q, e2⟩ | ⟨q, e2⟩ | ⟨q, e2⟩ <;> rw [e2] <;> rcases relI_spec a b e f h1 h3 with ⟨r, e3⟩ | ⟨r, e3⟩ | ⟨r, e3⟩ | ⟨r, e3⟩ | ⟨r, e3⟩ | ⟨r, e3⟩ | ⟨r, e3⟩ | ⟨r, e3⟩ | ⟨r, e3⟩ | ⟨r, e3⟩ | ⟨r, e3⟩ | ⟨r, e3⟩ | ⟨r, e3⟩ <;> rw [e3] <;> first | (exfalso; clear e2 e3; omega) | decide +kernel
theorem comp_11 (a b c d e f : Int) (h1 : a < b) (h2 : c < d) (h3 : e < f) (p : d = a) : (tabAt 11 (relI c d e f).toNat).testBit (relI a b e f).toNat = true := by
  rcases relI_spec c d e f h2 h3 with ⟨q, e2⟩ | ⟨q, e2⟩ | ⟨q, e2⟩ | ⟨q, e2⟩ | ⟨q, e2⟩ | ⟨q, e2⟩ | ⟨q, e2⟩ | ⟨q, e2⟩ | ⟨q, e2⟩ | ⟨q, e2⟩ | ⟨q, e2⟩ | ⟨q, e2⟩ | ⟨q, e2⟩ <;> rw [e2] <;> rcases relI_spec a b e f h1 h3 with ⟨r, e3⟩ | ⟨r, e3⟩ | ⟨r, e3⟩ | ⟨r, e3⟩ | ⟨r, e3⟩ | ⟨r, e3⟩ | ⟨r, e3⟩ | ⟨r, e3⟩ | ⟨r, e3⟩ | ⟨r, e3⟩ | ⟨r, e3⟩ | ⟨r, e3⟩ | ⟨r, e3⟩ <;> rw [e3] <;> first | (exfalso; clear e2 e3; omega) | decide +kernel
theorem comp_12 (a b c d e f : Int) (h1 : a < b) (h2 : c < d) (h3 : e < f) (p : d < a) : (tabAt 12 (relI c d e f).toNat).testBit (relI a b e f).toNat = true := by
  rcases relI_spec c d e f h2 h3 with ⟨q, e2⟩ | ⟨q, e2⟩ | ⟨q, e2⟩ | ⟨q, e2⟩ | ⟨q, e2⟩ | ⟨q, e2⟩ | ⟨q, e2⟩ | ⟨q, e2⟩ | ⟨q, e2⟩ | ⟨q, e2⟩ | ⟨q, e2⟩ | ⟨q, e2⟩ | ⟨q, e2⟩ <;> rw [e2] <;> rcases relI_spec a b e f h1 h3 with ⟨r, e3⟩ | ⟨r, e3⟩ | ⟨r, e3⟩ | ⟨r, e3⟩ | ⟨r, e3⟩ | ⟨r, e3⟩ | ⟨r, e3⟩ | ⟨r, e3⟩ | ⟨r, e3⟩ | ⟨r, e3⟩ | ⟨r, e3⟩ | ⟨r, e3⟩ | ⟨r, e3⟩ <;> rw [e3] <;> first | (exfalso; clear e2 e3; omega) | decide +kernel
theorem comp_sound (a b c d e f : Int) (h1 : a < b) (h2 : c < d) (h3 : e < f) : (tabAt (relI a b c d).toNat (relI c d e f).toNat).testBit (relI a b e f).toNat = true := by
  rcases relI_spec a b c d h1 h2 with ⟨p, e1⟩ | ⟨p, e1⟩ | ⟨p, e1⟩ | ⟨p, e1⟩ | ⟨p, e1⟩ | ⟨p, e1⟩ | ⟨p, e1⟩ | ⟨p, e1⟩ | ⟨p, e1⟩ | ⟨p, e1⟩ | ⟨p, e1⟩ | ⟨p, e1⟩ | ⟨p, e1⟩
  · rw [e1]; exact comp_0 a b c d e f h1 h2 h3 p
  · rw [e1]; exact comp_1 a b c d e f h1 h2 h3 p
  · rw [e1]; exact comp_2 a b c d e f h1 h2 h3 p
  · rw [e1]; exact comp_3 a b c d e f h1 h2 h3 p
  · rw [e1]; exact comp_4 a b c d e f h1 h2 h3 p
  · rw [e1]; exact comp_5 a b c d e f h1 h2 h3 p
  · rw [e1]; exact comp_6 a b c d e f h1 h2 h3 p
  · rw [e1]; exact comp_7 a b c d e f h1 h2 h3 p
  · rw [e1]; exact comp_8 a b c d e f h1 h2 h3 p
  · rw [e1]; exact comp_9 a b c d e f h1 h2 h3 p
  · rw [e1]; exact comp_10 a b c d e f h1 h2 h3 p
  · rw [e1]; exact comp_11 a b c d e f h1 h2 h3 p
  · rw [e1]; exact comp_12 a b c d e f h1 h2 h3 p
end Go.Proofs.Ytoemcdkopnclbaa.A
