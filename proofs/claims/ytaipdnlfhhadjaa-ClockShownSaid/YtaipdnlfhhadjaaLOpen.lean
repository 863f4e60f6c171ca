/-
  A parameter that is a slice of structs of two whole numbers, opened: the list that it reads as, its bounds.
-/
import Derived.Test.YtaipdnlfhhadjaaCx0
import Derived.Deep.Slices
import Derived.ChangeSame
import Derived.SizedLaws
import Derived.ProofKit
namespace Go.Proofs.Ytaipdnlfhhadjaa.C
open Go.RowKit Go.ChangeShapes Go.WideShapes Go.Deep Go.Proofs.YtaipdnlfhhadjaaW.PrintWords Go.Proofs.YtaipdnlfhhadjaaW.PrintLast Go.Proofs.YtaipdnlfhhadjaaW.PrintMore
set_option linter.unusedVariables false

section
variable {H : Type} {enc : TypeId × Value → H} {P : Program} {w : World} {base : Nat} {spare : Nat → Bool} {held : Bool}
theorem pair_cells {e i : TypeId} {f0 f1 : Field} {n : Nat} {cs : List Value} {x : DataW H × List MemPlace} (hs : P.underlying e = some (.struct #[f0, f1])) (hc : P.cellsOf e = 2) (t0 : f0.type = i) (t1 : f1.type = i) (o0 : f0.offset = 0) (o1 : f1.offset = 1) (hi : P.underlying i = some (.int .i64)) (hic : P.cellsOf i = 1)
    (h : DataW.trod enc P w base spare held n e cs = some x) : ∃ a b : Int, cs = [.int .i64 a, .int .i64 b] ∧ (Lit.int .i64 a).wf = true ∧ (Lit.int .i64 b).wf = true := by
  obtain ⟨y0, y1, m, _, hl, h0, h1⟩ := trod_struct2 hs h
  rw [t0, o0, hic] at h0
  rw [t1, o1, hic] at h1
  obtain ⟨a, ha, _, wa⟩ := DataW.trod_int hi h0
  obtain ⟨b, hb, _, wb⟩ := DataW.trod_int hi h1
  rw [hc] at hl
  match cs, hl with
  | [c0, c1], _ =>
    simp at ha hb
    exact ⟨a, b, by rw [ha, hb], wa, wb⟩
theorem pairs_open {t e i : TypeId} {f0 f1 : Field} {A : Option Addr} {len cap : Nat} {d : DataW H} {p : List MemPlace} (hu : P.underlying t = some (.slice e)) (hs : P.underlying e = some (.struct #[f0, f1])) (hc : P.cellsOf e = 2)
    (t0 : f0.type = i) (t1 : f1.type = i) (o0 : f0.offset = 0) (o1 : f1.offset = 1) (hi : P.underlying i = some (.int .i64)) (hic : P.cellsOf i = 1) (h : DataW.Trod enc P w base spare held t (.slice A len cap) d p) :
    ∃ F G : Nat → Int, len ≤ cap ∧ cap ≤ maxLen ∧ (0 < len → ∃ ad, A = some ad ∧ ∀ j, j < len → w.cell? (ad.add (j * 2)) = some (.int .i64 (F j)) ∧ w.cell? (ad.add (j * 2 + 1)) = some (.int .i64 (G j))) ∧
      (∀ j, j < len → (Lit.int .i64 (F j)).wf = true ∧ (Lit.int .i64 (G j)).wf = true) ∧ ∃ elems spare' : List (DataW H), (len = 0 ∨ d = .slice elems spare') ∧ (d = .slice elems spare' → len ≤ elems.length + spare'.length) := by
  obtain ⟨fuel, hf⟩ := h
  rcases open_slice hu hf with ⟨hcs, _⟩ | ⟨a, l, c, m, n, D, Pl, hcs, _, hl, hm, hmm, hx, hat⟩
  · simp [Value.cells] at hcs
    obtain ⟨rfl, rfl, rfl⟩ := hcs
    exact ⟨fun _ => 0, fun _ => 0, Nat.le_refl _, by unfold maxLen; omega, fun h => absurd h (by omega), fun j h => absurd h (by omega), [], [], .inl rfl, fun _ => by simp⟩
  · simp [Value.cells] at hcs
    obtain ⟨rfl, rfl, rfl⟩ := hcs
    have hlm : len ≤ m := by rw [hmm]; split <;> omega
    have key : ∀ j, j < len → ∃ x y : Int, w.cell? (a.add (j * 2)) = some (.int .i64 x) ∧ w.cell? (a.add (j * 2 + 1)) = some (.int .i64 y) ∧ (Lit.int .i64 x).wf = true ∧ (Lit.int .i64 y).wf = true := by
      intro j hj
      obtain ⟨cs', h1, h2⟩ := hat j (by omega)
      obtain ⟨x, y, hxy, wx, wy⟩ := pair_cells hs hc t0 t1 o0 o1 hi hic h2
      rw [hc] at h1
      obtain ⟨_, _, hcell⟩ := World.cells?_some h1
      subst hxy
      have c0 := hcell 0 (by omega)
      have c1 := hcell 1 (by omega)
      rw [Go.Deep.add_add] at c0 c1
      exact ⟨x, y, c0, c1, wx, wy⟩
    have kF : ∀ j, ∃ x y : Int, j < len → w.cell? (a.add (j * 2)) = some (.int .i64 x) ∧ w.cell? (a.add (j * 2 + 1)) = some (.int .i64 y) ∧ (Lit.int .i64 x).wf = true ∧ (Lit.int .i64 y).wf = true := fun j => by
      by_cases hj : j < len
      · obtain ⟨x, y, h⟩ := key j hj
        exact ⟨x, y, fun _ => h⟩
      · exact ⟨0, 0, fun h => absurd h hj⟩
    refine ⟨fun j => (kF j).choose, fun j => (kF j).choose_spec.choose, hl, hm, fun _ => ⟨a, rfl, fun j hj => ?_⟩, fun j hj => ?_, (List.range len).map D, (List.range (m - len)).map fun j => D (len + j), .inr ?_, fun _ => by simp⟩
    · have := (kF j).choose_spec.choose_spec hj
      exact ⟨this.1, this.2.1⟩
    · have := (kF j).choose_spec.choose_spec hj
      exact this.2.2
    · simp only [Prod.mk.injEq] at hx
      exact hx.1
end


theorem rows_34 {H : Type} {enc : TypeId × Value → H} {W : World} {base : Nat} {spare : Nat → Bool} {held : Bool} {A : Option Addr} {len cap : Nat} {d : DataW H} {p : List MemPlace} (h : DataW.Trod enc Try.prog W base spare held 30 (.slice A len cap) d p) :
    ∃ l : List S34, len = l.length ∧ Kd.C k34 W A l.length l ∧ l.length ≤ cap ∧ ∀ s ∈ l, (Lit.int .i64 s.f0).wf = true ∧ (Lit.int .i64 s.f1).wf = true := by
  obtain ⟨F, G, hl, hm, hc, hw, _⟩ := pairs_open (i := 3) Try.underlying30 Try.underlying34 (by kernel_rfl) rfl rfl rfl rfl Try.underlying3 (by kernel_rfl) h
  have hn : ((List.range len).map fun j => (⟨F j, G j⟩ : S34)).length = len := by simp
  refine ⟨(List.range len).map fun j => (⟨F j, G j⟩ : S34), hn.symm, ?_, by omega, fun s hs => ?_⟩
  · rw [hn]
    refine ⟨hn, by unfold maxLen at hm; omega, fun h0 => ?_⟩
    obtain ⟨ad, e, hcell⟩ := hc h0
    refine ⟨ad, e, fun j x hx => ?_⟩
    have hj : j < len := by
      have := (List.getElem?_eq_some_iff.1 hx).1
      omega
    have hxe : x = ⟨F j, G j⟩ := by
      rw [List.getElem?_map, List.getElem?_range hj] at hx
      exact (Option.some.inj hx).symm
    subst hxe
    refine ⟨[.int .i64 (F j), .int .i64 (G j)], rfl, k34_mk W ⟨F j, G j⟩, fun i u hu => ?_⟩
    obtain ⟨c0, c1⟩ := hcell j hj
    match i, hu with
    | 0, hu => simp at hu; subst hu; exact c0
    | 1, hu => simp at hu; subst hu; exact c1
    | i + 2, hu => simp at hu
  · obtain ⟨j, hj, rfl⟩ := List.mem_map.1 hs
    exact hw j (List.mem_range.1 hj)
theorem size_34 {H : Type} {enc : TypeId × Value → H} {W : World} {base : Nat} {spare : Nat → Bool} {held : Bool} {l : List S34} {A : Option Addr} {cap : Nat} {d : DataW H} {p : List MemPlace} {ts : List TypeId} {ds : List (DataW H)} {j : Nat}
    (hsz : (DataW.weightsEach Try.prog ts ds).all (· ≤ reachBytes) = true) (ht : ts[j]? = some 30) (hd : ds[j]? = some d) (h : DataW.Trod enc Try.prog W base spare held 30 (.slice A l.length cap) d p) : l.length * 16 ≤ 140737488351232 := by
  obtain ⟨_, _, _, _, _, _, elems, sp, hcase, hle⟩ := pairs_open (i := 3) Try.underlying30 Try.underlying34 (by kernel_rfl) rfl rfl rfl rfl Try.underlying3 (by kernel_rfl) h
  rcases hcase with h0 | h0
  · rw [h0]; omega
  · subst h0
    have z := sized_slice hsz ht hd Try.underlying30
    rw [show Try.prog.bytesOf 34 = 16 from by kernel_rfl] at z
    have := hle rfl
    have z2 : (elems.length + sp.length) * 16 ≤ 140737488351232 := z
    omega

end Go.Proofs.Ytaipdnlfhhadjaa.C
