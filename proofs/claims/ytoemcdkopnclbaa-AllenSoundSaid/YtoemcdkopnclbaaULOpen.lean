/-
  Parameters that are slices of periods or of constraints, opened: the lists that they read as.
-/
import Derived.Test.YtoemcdkopnclbaaUAx0
import Derived.Deep.Slices
import Derived.ChangeSame
import Derived.SizedLaws
import Derived.ProofKit
import Derived.ChangeSlices
import Derived.Deep.Strs
namespace Go.Proofs.Ytoemcdkopnclbaa.A
open Go.RowKit Go.ChangeShapes Go.WideShapes Go.Deep Go.Proofs.YtoemcdkopnclbaaW.PrintWords Go.Proofs.YtoemcdkopnclbaaW.PrintLast Go.Proofs.YtoemcdkopnclbaaW.PrintMore
set_option linter.unusedVariables false
section
variable {H : Type} {enc : TypeId × Value → H} {P : Program} {w : World} {base : Nat} {spare : Nat → Bool} {held : Bool}
theorem pair_cells {e i : TypeId} {f0 f1 : Field} {n : Nat} {cs : List Value} {x : DataW H × List MemPlace} (hs : P.underlying e = some (.struct #[f0, f1])) (hc : P.cellsOf e = 2) (t0 : f0.type = i) (t1 : f1.type = i) (o0 : f0.offset = 0) (o1 : f1.offset = 1) (hi : P.underlying i = some (.int .i64)) (hic : P.cellsOf i = 1)
  (h : DataW.trod enc P w base spare held n e cs = some x) : ∃ a b : Int, cs = [.int .i64 a, .int .i64 b] ∧ (Lit.int .i64 a).wf = true ∧ (Lit.int .i64 b).wf = true := by
 obtain ⟨y0, y1, m, _, hl, h0, h1⟩ := trod_struct2 hs h
 rw [t0, o0, hic] at h0
 rw [t1, o1, hic] at h1
 obtain ⟨a, ha, _, wa⟩ := DataW.trod_int hi h0
 obtain ⟨b, hb, _, wb⟩ := DataW.trod_int hi h1
 rw [hc] at hl
 match cs, hl with
 | [c0, c1], _ =>
  simp at ha hb
  exact ⟨a, b, by rw [ha, hb], wa, wb⟩
theorem pairs_open {t e i : TypeId} {f0 f1 : Field} {A : Option Addr} {len cap : Nat} {d : DataW H} {p : List MemPlace} (hu : P.underlying t = some (.slice e)) (hs : P.underlying e = some (.struct #[f0, f1])) (hc : P.cellsOf e = 2)
  (t0 : f0.type = i) (t1 : f1.type = i) (o0 : f0.offset = 0) (o1 : f1.offset = 1) (hi : P.underlying i = some (.int .i64)) (hic : P.cellsOf i = 1) (h : DataW.Trod enc P w base spare held t (.slice A len cap) d p) :
  ∃ F G : Nat → Int, len ≤ cap ∧ cap ≤ maxLen ∧ (0 < len → ∃ ad, A = some ad ∧ ∀ j, j < len → w.cell? (ad.add (j * 2)) = some (.int .i64 (F j)) ∧ w.cell? (ad.add (j * 2 + 1)) = some (.int .i64 (G j))) ∧
   (∀ j, j < len → (Lit.int .i64 (F j)).wf = true ∧ (Lit.int .i64 (G j)).wf = true) ∧ ∃ elems spare' : List (DataW H), (len = 0 ∨ d = .slice elems spare') ∧ (d = .slice elems spare' → len ≤ elems.length + spare'.length) := by
 obtain ⟨fuel, hf⟩ := h
 rcases open_slice hu hf with ⟨hcs, _⟩ | ⟨a, l, c, m, n, D, Pl, hcs, _, hl, hm, hmm, hx, hat⟩
 ·simp [Value.cells] at hcs
  obtain ⟨rfl, rfl, rfl⟩ := hcs
  exact ⟨fun _ => 0, fun _ => 0, Nat.le_refl _, by unfold maxLen; omega, fun h => absurd h (by omega), fun j h => absurd h (by omega), [], [], .inl rfl, fun _ => by simp⟩
 ·simp [Value.cells] at hcs
  obtain ⟨rfl, rfl, rfl⟩ := hcs
  have hlm : len ≤ m := by rw [hmm]; split <;> omega
  have key : ∀ j, j < len → ∃ x y : Int, w.cell? (a.add (j * 2)) = some (.int .i64 x) ∧ w.cell? (a.add (j * 2 + 1)) = some (.int .i64 y) ∧ (Lit.int .i64 x).wf = true ∧ (Lit.int .i64 y).wf = true := by
   intro j hj
   obtain ⟨cs', h1, h2⟩ := hat j (by omega)
   obtain ⟨x, y, hxy, wx, wy⟩ := pair_cells hs hc t0 t1 o0 o1 hi hic h2
   rw [hc] at h1
   obtain ⟨_, _, hcell⟩ := World.cells?_some h1
   subst hxy
   have c0 := hcell 0 (by omega)
   have c1 := hcell 1 (by omega)
   rw [Go.Deep.add_add] at c0 c1
   exact ⟨x, y, c0, c1, wx, wy⟩
  have kF : ∀ j, ∃ x y : Int, j < len → w.cell? (a.add (j * 2)) = some (.int .i64 x) ∧ w.cell? (a.add (j * 2 + 1)) = some (.int .i64 y) ∧ (Lit.int .i64 x).wf = true ∧ (Lit.int .i64 y).wf = true := fun j => by
   by_cases hj : j < len
   ·obtain ⟨x, y, h⟩ := key j hj
    exact ⟨x, y, fun _ => h⟩
   ·exact ⟨0, 0, fun h => absurd h hj⟩
  refine ⟨fun j => (kF j).choose, fun j => (kF j).choose_spec.choose, hl, hm, fun _ => ⟨a, rfl, fun j hj => ?_⟩, fun j hj => ?_, (List.range len).map D, (List.range (m - len)).map fun j => D (len + j), .inr ?_, fun _ => by simp⟩
  ·have := (kF j).choose_spec.choose_spec hj
   exact ⟨this.1, this.2.1⟩
  ·have := (kF j).choose_spec.choose_spec hj
   exact this.2.2
  ·simp only [Prod.mk.injEq] at hx
   exact hx.1
end
theorem rows_23 {H : Type} {enc : TypeId × Value → H} {W : World} {base : Nat} {spare : Nat → Bool} {held : Bool} {A : Option Addr} {len cap : Nat} {d : DataW H} {p : List MemPlace} (h : DataW.Trod enc Try.prog W base spare held 46 (.slice A len cap) d p) :
  ∃ l : List S23, len = l.length ∧ Kd.C k23 W A l.length l ∧ l.length ≤ cap ∧ ∀ s ∈ l, (Lit.int .i64 s.f0).wf = true ∧ (Lit.int .i64 s.f1).wf = true := by
 obtain ⟨F, G, hl, hm, hc, hw, _⟩ := pairs_open (i := 3) Try.underlying46 Try.underlying23 (by kernel_rfl) rfl rfl rfl rfl Try.underlying3 (by kernel_rfl) h
 have hn : ((List.range len).map fun j => (⟨F j, G j⟩ : S23)).length = len := by simp
 refine ⟨(List.range len).map fun j => (⟨F j, G j⟩ : S23), hn.symm, ?_, by omega, fun s hs => ?_⟩
 ·rw [hn]
  refine ⟨hn, by unfold maxLen at hm; omega, fun h0 => ?_⟩
  obtain ⟨ad, e, hcell⟩ := hc h0
  refine ⟨ad, e, fun j x hx => ?_⟩
  have hj : j < len := by
   have := (List.getElem?_eq_some_iff.1 hx).1
   omega
  have hxe : x = ⟨F j, G j⟩ := by
   rw [List.getElem?_map, List.getElem?_range hj] at hx
   exact (Option.some.inj hx).symm
  subst hxe
  refine ⟨[.int .i64 (F j), .int .i64 (G j)], rfl, k23_mk W ⟨F j, G j⟩, fun i u hu => ?_⟩
  obtain ⟨c0, c1⟩ := hcell j hj
  match i, hu with
  | 0, hu => simp at hu; subst hu; exact c0
  | 1, hu => simp at hu; subst hu; exact c1
  | i + 2, hu => simp at hu
 ·obtain ⟨j, hj, rfl⟩ := List.mem_map.1 hs
  exact hw j (List.mem_range.1 hj)
section
variable {H : Type} {enc : TypeId × Value → H} {w : World} {base : Nat} {spare : Nat → Bool} {held : Bool}
theorem ints_row {fuel : Nat} {cs : List Value} {x : DataW H × List MemPlace} (h : DataW.trod enc Try.prog w base spare held fuel 35 cs = some x) :
  ∃ (A : Option Addr) (c : Nat) (zs : List Int), cs = [.slice A zs.length c] ∧ zs.length ≤ c ∧ (Kd.int .i64).C w A zs.length zs := by
 rcases open_ints Try.underlying35 Try.underlying3 (by kernel_rfl) h with ⟨rfl, _⟩ | ⟨a, len, cap, zs, rfl, _, hl, hm, hzl, _, hcell, _⟩
 ·exact ⟨none, 0, [], rfl, Nat.le_refl _, rfl, by decide, fun h => absurd h (by simp)⟩
 ·have hle : len ≤ zs.length := by rw [hzl]; split <;> omega
  have ht : (zs.take len).length = len := by rw [List.length_take]; omega
  refine ⟨some a, cap, zs.take len, by rw [ht], by omega, rfl, by unfold maxLen at hm; omega, fun _ => ⟨a, rfl, fun j p hp => ?_⟩⟩
  have hj : j < len := by
   have := (List.getElem?_eq_some_iff.1 hp).1
   omega
  have hv := hcell j (by omega)
  rw [List.getElem?_take_of_lt hj] at hp
  rw [List.getD_eq_getElem?_getD, hp] at hv
  refine ⟨[.int .i64 p], rfl, rfl, fun i u hu => ?_⟩
  match i, hu with
  | 0, hu => simp at hu; subst hu; show w.cell? (a.add (j * 1 + 0)) = _; rw [Nat.mul_one, Nat.add_zero]; exact hv
  | i + 1, hu => simp at hu
theorem con_cells {fuel : Nat} {cs : List Value} {x : DataW H × List MemPlace} (h : DataW.trod enc Try.prog w base spare held fuel 51 cs = some x) :
  ∃ (s : S51), k51.K w s cs ∧ cs.length = 3 := by
 obtain ⟨y0, y1, y2, m, _, hl, h0, h1, h2⟩ := Go.Deep.trod_struct3 Try.underlying51 h
 have hl3 : cs.length = 3 := hl
 match cs, hl3 with
 | [c0, c1, c2], _ =>
  obtain ⟨a, ha, _, wa⟩ := DataW.trod_int Try.underlying3 (show DataW.trod enc Try.prog w base spare held m 3 [c0] = some y0 from h0)
  obtain ⟨b, hb, _, wb⟩ := DataW.trod_int Try.underlying3 (show DataW.trod enc Try.prog w base spare held m 3 [c1] = some y1 from h1)
  obtain ⟨A, c, zs, hz, hc, hr⟩ := ints_row (show DataW.trod enc Try.prog w base spare held m 35 [c2] = some y2 from h2)
  simp at ha hb hz
  refine ⟨⟨a, b, zs⟩, ?_, rfl⟩
  rw [ha, hb, hz]
  exact k51_mk w ⟨a, b, zs⟩ hc hr
theorem rows_51 {A : Option Addr} {len cap : Nat} {d : DataW H} {p : List MemPlace} (h : DataW.Trod enc Try.prog w base spare held 40 (.slice A len cap) d p) :
  ∃ l : List S51, len = l.length ∧ Kd.C k51 w A l.length l ∧ l.length ≤ cap := by
 obtain ⟨fuel, hf⟩ := h
 rcases open_slice Try.underlying40 hf with ⟨hcs, _⟩ | ⟨a, l, c, m, n, D, Pl, hcs, _, hl, hm, hmm, hx, hat⟩
 ·simp [Value.cells] at hcs
  obtain ⟨rfl, rfl, rfl⟩ := hcs
  exact ⟨[], rfl, ⟨rfl, by decide, fun h => absurd h (by simp)⟩, Nat.le_refl _⟩
 ·simp [Value.cells] at hcs
  obtain ⟨rfl, rfl, rfl⟩ := hcs
  have hlm : len ≤ m := by rw [hmm]; split <;> omega
  have hc3 : Try.prog.cellsOf 51 = 3 := by kernel_rfl
  have key : ∀ j, j < len → ∃ s : S51, ∃ cs : List Value, cs.length = 3 ∧ k51.K w s cs ∧ ∀ i u, cs[i]? = some u → w.cell? (a.add (j * 3 + i)) = some u := by
   intro j hj
   obtain ⟨cs', h1, h2⟩ := hat j (by omega)
   obtain ⟨s, hk, hl'⟩ := con_cells h2
   rw [hc3] at h1
   obtain ⟨_, _, hcell⟩ := World.cells?_some h1
   refine ⟨s, cs', hl', hk, fun i u hu => ?_⟩
   have hi : i < 3 := by
    have := (List.getElem?_eq_some_iff.1 hu).1
    omega
   have c0 := hcell i hi
   rw [Go.Deep.add_add] at c0
   rw [c0]
   exact hu
  have kF : ∀ j, ∃ s : S51, j < len → ∃ cs : List Value, cs.length = 3 ∧ k51.K w s cs ∧ ∀ i u, cs[i]? = some u → w.cell? (a.add (j * 3 + i)) = some u := fun j => by
   by_cases hj : j < len
   ·obtain ⟨s, h⟩ := key j hj
    exact ⟨s, fun _ => h⟩
   ·exact ⟨z51, fun h => absurd h hj⟩
  have hn : ((List.range len).map fun j => (kF j).choose).length = len := by simp
  refine ⟨(List.range len).map fun j => (kF j).choose, hn.symm, ?_, by omega⟩
  rw [hn]
  refine ⟨hn, by unfold maxLen at hm; omega, fun _ => ⟨a, rfl, fun j x hx => ?_⟩⟩
  have hj : j < len := by
   have := (List.getElem?_eq_some_iff.1 hx).1
   omega
  have hxe : x = (kF j).choose := by
   rw [List.getElem?_map, List.getElem?_range hj] at hx
   exact (Option.some.inj hx).symm
  subst hxe
  obtain ⟨cs, h1, h2, h3⟩ := (kF j).choose_spec hj
  exact ⟨cs, h1, h2, h3⟩
end
end Go.Proofs.Ytoemcdkopnclbaa.A
