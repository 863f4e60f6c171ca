/-
  Parameters that are slices of periods or of constraints, opened: the lists that they read as.
-/
import Derived.Test.YtoemcdkopnclbaaVAx0
import Derived.Deep.Slices
import Derived.ChangeSame
import Derived.SizedLaws
import Derived.ProofKit
import Derived.ChangeSlices
import Derived.Deep.Strs
namespace Go.Proofs.Ytoemcdkopnclbaa.A
open Go.RowKit Go.ChangeShapes Go.WideShapes Go.Deep Go.Proofs.YtoemcdkopnclbaaW.PrintWords Go.Proofs.YtoemcdkopnclbaaW.PrintLast Go.Proofs.YtoemcdkopnclbaaW.PrintMore
set_option linter.unusedVariables false
section
variable {H : Type} {enc : TypeId × Value → H} {P : Program} {w : World} {base : Nat} {spare : Nat → Bool} {held : Bool}
end
section
variable {H : Type} {enc : TypeId × Value → H} {w : World} {base : Nat} {spare : Nat → Bool} {held : Bool}
theorem ints_row {fuel : Nat} {cs : List Value} {x : DataW H × List MemPlace} (h : DataW.trod enc Try.prog w base spare held fuel 35 cs = some x) :
  ∃ (A : Option Addr) (c : Nat) (zs : List Int), cs = [.slice A zs.length c] ∧ zs.length ≤ c ∧ (Kd.int .i64).C w A zs.length zs := by
 rcases open_ints Try.underlying35 Try.underlying3 (by kernel_rfl) h with ⟨rfl, _⟩ | ⟨a, len, cap, zs, rfl, _, hl, hm, hzl, _, hcell, _⟩
 ·exact ⟨none, 0, [], rfl, Nat.le_refl _, rfl, by decide, fun h => absurd h (by simp)⟩
 ·have hle : len ≤ zs.length := by rw [hzl]; split <;> omega
  have ht : (zs.take len).length = len := by rw [List.length_take]; omega
  refine ⟨some a, cap, zs.take len, by rw [ht], by omega, rfl, by unfold maxLen at hm; omega, fun _ => ⟨a, rfl, fun j p hp => ?_⟩⟩
  have hj : j < len := by
   have := (List.getElem?_eq_some_iff.1 hp).1
   omega
  have hv := hcell j (by omega)
  rw [List.getElem?_take_of_lt hj] at hp
  rw [List.getD_eq_getElem?_getD, hp] at hv
  refine ⟨[.int .i64 p], rfl, rfl, fun i u hu => ?_⟩
  match i, hu with
  | 0, hu => simp at hu; subst hu; show w.cell? (a.add (j * 1 + 0)) = _; rw [Nat.mul_one, Nat.add_zero]; exact hv
  | i + 1, hu => simp at hu
theorem con_cells {fuel : Nat} {cs : List Value} {x : DataW H × List MemPlace} (h : DataW.trod enc Try.prog w base spare held fuel 51 cs = some x) :
  ∃ (s : S51), k51.K w s cs ∧ cs.length = 3 := by
 obtain ⟨y0, y1, y2, m, _, hl, h0, h1, h2⟩ := Go.Deep.trod_struct3 Try.underlying51 h
 have hl3 : cs.length = 3 := hl
 match cs, hl3 with
 | [c0, c1, c2], _ =>
  obtain ⟨a, ha, _, wa⟩ := DataW.trod_int Try.underlying3 (show DataW.trod enc Try.prog w base spare held m 3 [c0] = some y0 from h0)
  obtain ⟨b, hb, _, wb⟩ := DataW.trod_int Try.underlying3 (show DataW.trod enc Try.prog w base spare held m 3 [c1] = some y1 from h1)
  obtain ⟨A, c, zs, hz, hc, hr⟩ := ints_row (show DataW.trod enc Try.prog w base spare held m 35 [c2] = some y2 from h2)
  simp at ha hb hz
  refine ⟨⟨a, b, zs⟩, ?_, rfl⟩
  rw [ha, hb, hz]
  exact k51_mk w ⟨a, b, zs⟩ hc hr
theorem rows_51 {A : Option Addr} {len cap : Nat} {d : DataW H} {p : List MemPlace} (h : DataW.Trod enc Try.prog w base spare held 40 (.slice A len cap) d p) :
  ∃ l : List S51, len = l.length ∧ Kd.C k51 w A l.length l ∧ l.length ≤ cap := by
 obtain ⟨fuel, hf⟩ := h
 rcases open_slice Try.underlying40 hf with ⟨hcs, _⟩ | ⟨a, l, c, m, n, D, Pl, hcs, _, hl, hm, hmm, hx, hat⟩
 ·simp [Value.cells] at hcs
  obtain ⟨rfl, rfl, rfl⟩ := hcs
  exact ⟨[], rfl, ⟨rfl, by decide, fun h => absurd h (by simp)⟩, Nat.le_refl _⟩
 ·simp [Value.cells] at hcs
  obtain ⟨rfl, rfl, rfl⟩ := hcs
  have hlm : len ≤ m := by rw [hmm]; split <;> omega
  have hc3 : Try.prog.cellsOf 51 = 3 := by kernel_rfl
  have key : ∀ j, j < len → ∃ s : S51, ∃ cs : List Value, cs.length = 3 ∧ k51.K w s cs ∧ ∀ i u, cs[i]? = some u → w.cell? (a.add (j * 3 + i)) = some u := by
   intro j hj
   obtain ⟨cs', h1, h2⟩ := hat j (by omega)
   obtain ⟨s, hk, hl'⟩ := con_cells h2
   rw [hc3] at h1
   obtain ⟨_, _, hcell⟩ := World.cells?_some h1
   refine ⟨s, cs', hl', hk, fun i u hu => ?_⟩
   have hi : i < 3 := by
    have := (List.getElem?_eq_some_iff.1 hu).1
    omega
   have c0 := hcell i hi
   rw [Go.Deep.add_add] at c0
   rw [c0]
   exact hu
  have kF : ∀ j, ∃ s : S51, j < len → ∃ cs : List Value, cs.length = 3 ∧ k51.K w s cs ∧ ∀ i u, cs[i]? = some u → w.cell? (a.add (j * 3 + i)) = some u := fun j => by
   by_cases hj : j < len
   ·obtain ⟨s, h⟩ := key j hj
    exact ⟨s, fun _ => h⟩
   ·exact ⟨z51, fun h => absurd h hj⟩
  have hn : ((List.range len).map fun j => (kF j).choose).length = len := by simp
  refine ⟨(List.range len).map fun j => (kF j).choose, hn.symm, ?_, by omega⟩
  rw [hn]
  refine ⟨hn, by unfold maxLen at hm; omega, fun _ => ⟨a, rfl, fun j x hx => ?_⟩⟩
  have hj : j < len := by
   have := (List.getElem?_eq_some_iff.1 hx).1
   omega
  have hxe : x = (kF j).choose := by
   rw [List.getElem?_map, List.getElem?_range hj] at hx
   exact (Option.some.inj hx).symm
  subst hxe
  obtain ⟨cs, h1, h2, h3⟩ := (kF j).choose_spec hj
  exact ⟨cs, h1, h2, h3⟩
end
end Go.Proofs.Ytoemcdkopnclbaa.A
