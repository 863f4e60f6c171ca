/-
  Sets of relations as natural numbers: what 'has', 'or', 'and', 'one', 'full' answer there; blocks of sets.
-/
import Derived.Test.YtoemcdkopnclbaaUAx6
import Derived.Test.YtoemcdkopnclbaaUAx7
import Derived.Test.YtoemcdkopnclbaaUBlk
namespace Go.Proofs.Ytoemcdkopnclbaa.A
open Go.RowKit Go.Proofs.YtoemcdkopnclbaaW.PrintWords Go.Proofs.YtoemcdkopnclbaaW.PrintLast Go.Proofs.YtoemcdkopnclbaaW.PrintMore
set_option linter.unusedVariables false
set_option linter.unusedSimpArgs false
def encs16 (xs : List Nat) : Array Value := (xs.map fun n : Nat => Value.int .u16 (n : Int)).toArray
theorem encs16_get (xs : List Nat) (i : Nat) (h : i < xs.length) : (encs16 xs)[i]? = some (.int .u16 ((xs.getD i 0 : Nat) : Int)) := by
 simp [encs16, List.getElem?_eq_getElem h, List.getD_eq_getElem?_getD]
theorem encs16_set (xs : List Nat) (i v : Nat) : (encs16 xs).setIfInBounds i (.int .u16 (v : Int)) = encs16 (xs.set i v) := by
 simp [encs16, List.map_set]
theorem encs16_size (xs : List Nat) : (encs16 xs).size = xs.length := by simp [encs16]
theorem encs16_one (xs : List Nat) : ∀ q ∈ (encs16 xs).toList, q.oneCell' = true := by
 intro q hq
 simp only [encs16, List.mem_map] at hq
 obtain ⟨n, _, rfl⟩ := hq
 rfl
theorem wrap16 (n : Nat) (h : n < 65536) : IntKind.u16.wrap (n : Int) = n := by
 unfold IntKind.wrap
 simp [IntKind.bits, IntKind.signed]
 omega
theorem wrap64u (n : Nat) (h : n < 65536) : IntKind.u64.wrap (n : Int) = n := by
 unfold IntKind.wrap
 simp [IntKind.bits, IntKind.signed]
 omega
theorem or_f (s t : Nat) (hs : s < 65536) (ht : t < 65536) : allen_set_or.f (s : Int) (t : Int) = some ((s ||| t : Nat) : Int) := by
 have h : s ||| t < 65536 := Nat.or_lt_two_pow (n := 16) hs ht
 have key : (BitVec.ofInt 16 (s : Int) ||| BitVec.ofInt 16 (t : Int)).toNat = s ||| t := by
  rw [BitVec.ofInt_natCast, BitVec.ofInt_natCast, BitVec.toNat_or, BitVec.toNat_ofNat, BitVec.toNat_ofNat, Nat.mod_eq_of_lt hs, Nat.mod_eq_of_lt ht]
 show some (IntKind.u16.wrap (((BitVec.ofInt 16 (s : Int) ||| BitVec.ofInt 16 (t : Int)).toNat : Nat) : Int)) = _
 rw [key, wrap16 _ h]
theorem and_f (s t : Nat) (hs : s < 65536) (ht : t < 65536) : allen_set_and.f (s : Int) (t : Int) = some ((s &&& t : Nat) : Int) := by
 have h : s &&& t < 65536 := Nat.lt_of_le_of_lt Nat.and_le_left hs
 have key : (BitVec.ofInt 16 (s : Int) &&& BitVec.ofInt 16 (t : Int)).toNat = s &&& t := by
  rw [BitVec.ofInt_natCast, BitVec.ofInt_natCast, BitVec.toNat_and, BitVec.toNat_ofNat, BitVec.toNat_ofNat, Nat.mod_eq_of_lt hs, Nat.mod_eq_of_lt ht]
 show some (IntKind.u16.wrap (((BitVec.ofInt 16 (s : Int) &&& BitVec.ofInt 16 (t : Int)).toNat : Nat) : Int)) = _
 rw [key, wrap16 _ h]
theorem one_f (a : Nat) (ha : a < 13) : allen_one.f (a : Int) = some ((2 ^ a : Nat) : Int) := by
 have h : ∀ a < 13, allen_one.f ((a : Nat) : Int) = some ((2 ^ a : Nat) : Int) := by decide +kernel
 exact h a ha
theorem has_f (s a : Nat) (hs : s < 65536) (ha : a < 13) : allen_set_has.f (s : Int) (a : Int) = some (s.testBit a) := by
 have h1 : IntKind.u64.wrap (a : Int) = a := wrap64u a (by omega)
 unfold allen_set_has.f
 rw [h1, if_pos (by omega)]
 congr 1
 have h2 : shr .u16 (s : Int) (a : Int) = ((s >>> a : Nat) : Int) := by
  show (s : Int) / 2 ^ min ((a : Int).toNat) 16 = _
  rw [Int.toNat_natCast, Nat.min_eq_left (by omega), Nat.shiftRight_eq_div_pow]
  norm_cast
 have h3 : s >>> a < 65536 := by rw [Nat.shiftRight_eq_div_pow]; exact Nat.lt_of_le_of_lt (Nat.div_le_self _ _) hs
 have h5 : s >>> a &&& 1 < 65536 := Nat.lt_of_le_of_lt Nat.and_le_left h3
 have key : (BitVec.ofInt 16 ((s >>> a : Nat) : Int) &&& BitVec.ofInt 16 1).toNat = (s >>> a) &&& 1 := by
  rw [BitVec.ofInt_natCast, BitVec.toNat_and, BitVec.toNat_ofNat, Nat.mod_eq_of_lt h3, show (BitVec.ofInt 16 1).toNat = 1 by decide]
 rw [h2]
 show (IntKind.u16.wrap (((BitVec.ofInt 16 ((s >>> a : Nat) : Int) &&& BitVec.ofInt 16 1).toNat : Nat) : Int) == 1) = _
 rw [key, wrap16 _ h5, Nat.and_one_is_mod, Nat.testBit_eq_decide_div_mod_eq, ← Nat.shiftRight_eq_div_pow]
 have : s >>> a % 2 = 0 ∨ s >>> a % 2 = 1 := by omega
 rcases this with h | h <;> rw [h] <;> rfl
end Go.Proofs.Ytoemcdkopnclbaa.A
