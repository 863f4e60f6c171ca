/-
  What allen's 'compositions' answers: the table TAB.
-/
import Derived.Test.YtoemcdkopnclbaaUHNarrow
import Derived.Test.YtoemcdkopnclbaaUAx3
namespace Go.Proofs.Ytoemcdkopnclbaa.A
open Go.RowKit Go.Proofs.YtoemcdkopnclbaaW.PrintWords Go.Proofs.YtoemcdkopnclbaaW.PrintLast Go.Proofs.YtoemcdkopnclbaaW.PrintMore
attribute [local go_sem] max2_int min2_int max_two min_two max_three min_three max_four min_four
set_option linter.unusedVariables false
set_option linter.unusedSimpArgs false
def P21 : List S23 := [⟨0, 1⟩, ⟨0, 2⟩, ⟨0, 3⟩, ⟨0, 4⟩, ⟨0, 5⟩, ⟨0, 6⟩, ⟨1, 2⟩, ⟨1, 3⟩, ⟨1, 4⟩, ⟨1, 5⟩, ⟨1, 6⟩, ⟨2, 3⟩, ⟨2, 4⟩, ⟨2, 5⟩, ⟨2, 6⟩, ⟨3, 4⟩, ⟨3, 5⟩, ⟨3, 6⟩, ⟨4, 5⟩, ⟨4, 6⟩, ⟨5, 6⟩]
def pb (l : List S23) (i : Nat) : Nat → List S23
 | 0 => l
 | m + 1 => pb l i m ++ [⟨(i : Int), ((i + 1 + m : Nat) : Int)⟩]
def pa : Nat → List S23
 | 0 => []
 | i + 1 => pb (pa i) i (6 - i)
theorem pa_all : pa 6 = P21 := rfl
theorem pb_len (l : List S23) (i : Nat) : ∀ m, (pb l i m).length = l.length + m
 | 0 => rfl
 | m + 1 => by rw [pb, List.length_append, pb_len l i m]; simp; omega
theorem pa_len : ∀ i, (pa i).length ≤ 6 * i
 | 0 => by decide
 | i + 1 => by rw [pa, pb_len]; have := pa_len i; omega
theorem P21_len : P21.length = 21 := rfl
def RBIG : Nat := 413081396167401439754151372087877454106052842804736623450276196873241390884559766115013709704324490455878314888770579945797136605086090377586370424387420631772628917144489399796514242062194266639397986429290449909063905423492043049147713258228844898806668954432821092284314393597633076037491375866591699778157825157601312420220652834397684844096156293309054663410568180370526283001559741824826811656377641380460802211558229495078957927693455442386235645672978967964291571941344542139039666571040527015626321236513451337907283637046
def r21 (i j : Nat) : Nat := (RBIG >>> (4 * (21 * i + j))) % 16
theorem r21_lt (i j : Nat) (hi : i < 21) (hj : j < 21) : r21 i j < 13 := by
 have h : ∀ i < 21, ∀ j < 21, r21 i j < 13 := by decide +kernel
 exact h i hi j hj
theorem r21_rel (i j : Nat) (hi : i < 21) (hj : j < 21) : allen_Relation.f 10 (rd_T23 P21 (i : Int)).f0 (rd_T23 P21 (i : Int)).f1 (rd_T23 P21 (j : Int)).f0 (rd_T23 P21 (j : Int)).f1 = some ((r21 i j : Int), true) := by
 have h : ∀ i < 21, ∀ j < 21, allen_Relation.f 10 (rd_T23 P21 ((i : Nat) : Int)).f0 (rd_T23 P21 ((i : Nat) : Int)).f1 (rd_T23 P21 ((j : Nat) : Int)).f0 (rd_T23 P21 ((j : Nat) : Int)).f1 = some (((r21 i j : Nat) : Int), true) := by decide +kernel
 exact h i hi j hj
def tstp (i j m : Nat) (x : List Nat) : List Nat := x.set (r21 i j * 13 + r21 j m) (x.getD (r21 i j * 13 + r21 j m) 0 ||| 2 ^ r21 i m)
def tab5 (x : List Nat) (i j : Nat) : Nat → List Nat
 | 0 => x
 | m + 1 => tstp i j m (tab5 x i j m)
def tab4 (x : List Nat) (i : Nat) : Nat → List Nat
 | 0 => x
 | j + 1 => tab5 (tab4 x i j) i j 21
def tab3 : Nat → List Nat
 | 0 => List.replicate 169 0
 | i + 1 => tab4 (tab3 i) i 21
def ac5 (x i j : Nat) : Nat → Nat
 | 0 => x
 | m + 1 => ac5 x i j m ||| 2 ^ (13 * (r21 i j * 13 + r21 j m) + r21 i m)
def ac4 (x i : Nat) : Nat → Nat
 | 0 => x
 | j + 1 => ac5 (ac4 x i j) i j 21
def ac3 : Nat → Nat
 | 0 => 0
 | i + 1 => ac4 (ac3 i) i 21
def TBIG : Nat := 11532500863595108661388537645610545565999198224314442701894555880523860162744410459226021931844887418815160608858319592843697687662021021360276084242642007018883276405889114085177290533134741121609665130619049270358408784775713534961648146554646073031952451716479155781349912614651353520058769592308218169059668756793856247183543877569728520811842172405323072743852736918201846976435705774359245949326552468443054851365429248925319115965374390638582252021137861798345743841250241029063026847369029120329055180985801802468671542335529534542507262816162038587225981581613032254467221080995861830949674618842566825166040007874987850210060833382311944241283105562625
set_option maxRecDepth 100000 in
theorem ac_all : ac3 21 = TBIG := by decide +kernel
def TabOk (x : List Nat) : Prop := x.length = 169 ∧ ∀ q, x.getD q 0 < 8192
def Agree (x : List Nat) (a : Nat) : Prop := ∀ q c, q < 169 → c < 13 → (x.getD q 0).testBit c = a.testBit (13 * q + c)
theorem tstp_ok {x : List Nat} (h : TabOk x) (i j m : Nat) (hi : i < 21) (hm : m < 21) : TabOk (tstp i j m x) := by
 refine ⟨by rw [tstp, List.length_set]; exact h.1, fun q => ?_⟩
 unfold tstp
 rw [List.getD_eq_getElem?_getD, List.getElem?_set]
 split
 ·split
  ·refine Nat.or_lt_two_pow (n := 13) (h.2 _) (Nat.pow_lt_pow_right (by decide) (r21_lt i m hi hm))
  ·decide
 ·have := h.2 q
  rwa [List.getD_eq_getElem?_getD] at this
theorem tstp_agree {x : List Nat} {a : Nat} (h : TabOk x) (g : Agree x a) (i j m : Nat) (hi : i < 21) (hj : j < 21) (hm : m < 21) : Agree (tstp i j m x) (a ||| 2 ^ (13 * (r21 i j * 13 + r21 j m) + r21 i m)) := by
 intro q c hq hc
 have h1 := r21_lt i j hi hj
 have h2 := r21_lt j m hj hm
 have h3 := r21_lt i m hi hm
 unfold tstp
 obtain ⟨u, hu⟩ : ∃ u, u = r21 i j * 13 + r21 j m := ⟨_, rfl⟩
 rw [← hu]
 have hu169 : u < 169 := by omega
 rw [Nat.testBit_or, Nat.testBit_two_pow, List.getD_eq_getElem?_getD, List.getElem?_set]
 by_cases e : u = q
 ·subst e
  rw [if_pos rfl, if_pos (by rw [h.1]; exact hu169), Option.getD_some, Nat.testBit_or, Nat.testBit_two_pow, g u c hq hc]
  congr 1
  apply decide_eq_decide.2
  omega
 ·rw [if_neg e]
  have := g q c hq hc
  rw [List.getD_eq_getElem?_getD] at this
  rw [this, show decide (13 * u + r21 i m = 13 * q + c) = false from decide_eq_false (by omega), Bool.or_false]
theorem tab5_ok {x : List Nat} {a : Nat} (h : TabOk x) (g : Agree x a) (i j : Nat) (hi : i < 21) (hj : j < 21) : ∀ m, m ≤ 21 → TabOk (tab5 x i j m) ∧ Agree (tab5 x i j m) (ac5 a i j m)
 | 0, _ => ⟨h, g⟩
 | m + 1, hm => by
  obtain ⟨h1, g1⟩ := tab5_ok h g i j hi hj m (by omega)
  exact ⟨tstp_ok h1 i j m hi (by omega), tstp_agree h1 g1 i j m hi hj (by omega)⟩
theorem tab4_ok {x : List Nat} {a : Nat} (h : TabOk x) (g : Agree x a) (i : Nat) (hi : i < 21) : ∀ j, j ≤ 21 → TabOk (tab4 x i j) ∧ Agree (tab4 x i j) (ac4 a i j)
 | 0, _ => ⟨h, g⟩
 | j + 1, hj => by
  obtain ⟨h1, g1⟩ := tab4_ok h g i hi j (by omega)
  exact tab5_ok h1 g1 i j hi (by omega) 21 (by omega)
theorem tab3_ok : ∀ i, i ≤ 21 → TabOk (tab3 i) ∧ Agree (tab3 i) (ac3 i)
 | 0, _ => by
  have hz : ∀ q, (List.replicate 169 0).getD q 0 = 0 := by
   intro q
   rw [List.getD_eq_getElem?_getD, List.getElem?_replicate]
   split <;> rfl
  refine ⟨⟨by rw [tab3, List.length_replicate], fun q => by rw [tab3, hz]; decide⟩, fun q c hq hc => ?_⟩
  rw [tab3, hz, ac3, Nat.zero_testBit, Nat.zero_testBit]
 | i + 1, hi => by
  obtain ⟨h1, g1⟩ := tab3_ok i (by omega)
  exact tab4_ok h1 g1 i (by omega) 21 (by omega)
theorem bits_eq {a b : Nat} (ha : a < 8192) (hb : b < 8192) (h : ∀ c < 13, a.testBit c = b.testBit c) : a = b := by
 apply Nat.eq_of_testBit_eq
 intro c
 by_cases hc : c < 13
 ·exact h c hc
 ·rw [Nat.testBit_lt_two_pow (Nat.lt_of_lt_of_le ha (show 2 ^ 13 ≤ 2 ^ c from Nat.pow_le_pow_right (by decide) (by omega))), Nat.testBit_lt_two_pow (Nat.lt_of_lt_of_le hb (show 2 ^ 13 ≤ 2 ^ c from Nat.pow_le_pow_right (by decide) (by omega)))]
theorem get_getD (l : List Nat) (q : Nat) (h : q < l.length) : l[q] = l.getD q 0 := by rw [List.getD_eq_getElem?_getD, List.getElem?_eq_getElem h, Option.getD_some]
theorem tab_all : tab3 21 = TAB := by
 obtain ⟨h1, g1⟩ := tab3_ok 21 (by omega)
 rw [ac_all] at g1
 have hT : ∀ q < 169, TAB.getD q 0 = (TBIG >>> (13 * q)) % 2 ^ 13 := by decide +kernel
 apply List.ext_getElem (by rw [h1.1, TAB_len])
 intro q hq hq2
 have hq1 : q < 169 := by rw [h1.1] at hq; exact hq
 refine (get_getD _ q hq).trans (Eq.trans ?_ (get_getD _ q hq2).symm)
 have hlt := hT q hq1
 refine bits_eq (h1.2 q) (by rw [hlt]; exact Nat.mod_lt _ (by decide)) (fun c hc => ?_)
 rw [g1 q c hq1 hc, hlt, Nat.testBit_mod_two_pow, Nat.testBit_shiftRight, decide_eq_true hc, Bool.true_and]
end Go.Proofs.Ytoemcdkopnclbaa.A
