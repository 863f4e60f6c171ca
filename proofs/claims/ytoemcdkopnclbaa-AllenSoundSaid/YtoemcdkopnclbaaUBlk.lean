/-
  Laws of my own on blocks that are known whole: a store over a whole block, a store into a part of it.
-/
import Derived.Test.YtoemcdkopnclbaaWWords
import Derived.Test.YtoemcdkopnclbaaWLast
import Derived.Test.YtoemcdkopnclbaaWMore
namespace Go.Proofs.Ytoemcdkopnclbaa.Blk
open Go.RowKit Go.Proofs.YtoemcdkopnclbaaW.PrintWords Go.Proofs.YtoemcdkopnclbaaW.PrintLast Go.Proofs.YtoemcdkopnclbaaW.PrintMore
set_option linter.unusedVariables false
section
variable {P : Program} {ops : Array Oper} {rest : List Oper} {o : Oper} {a : Act} {Q : Exit → Act → World → Prop} {W : World}
theorem store_part (hN : o.dst = none) (hgd : o.guard = none) (t : TypeId) (p x : Operand) (ho : o.op = .store t p x) {g off : Nat} {cs : Array Value} {e : TypeId} {u : Value} (seg : List Value)
  (haddr : a.eval p = .pointer (some ⟨g, off, none⟩)) (hx : a.eval x = u) (hu : u.cells.toList = seg) (ht : (P.info? t).map (·.size) = some seg.length) (h1 : ∀ q ∈ seg, q.oneCell' = true)
  (hb : W.heap[g]? = some (.cells cs e (0, 0))) (hfit : off + seg.length ≤ cs.size)
  (h : ∀ w1 cs1, w1.heap[g]? = some (.cells cs1 e (0, 0)) → cs1.size = cs.size → cs1.toList = cs.toList.take off ++ seg ++ cs.toList.drop (off + seg.length) → W.grownBy w1 (some g) → wpList P ops Q rest a w1) :
  wpList P ops Q (o :: rest) a W := by
 refine wpList_plain hgd fun K hK => ?_
 have hrun := run_store_run (P := P) (w := W) (g := g) (o := off) t u seg hb hu ht hfit h1
 obtain ⟨cs1, hb1, hs1, hl1⟩ := setCells_row seg off W cs hb hfit
 obtain ⟨e1, e2, e3, e4⟩ := setCells_same g seg off W
 unfold Oper.wp execOp
 simp only [ho, haddr, hx, Sem.run_bind, Sem.run_pure, Result.andThen_ok, hrun]
 show K (a.put o.dst undef) _
 rw [hN]
 exact hK a _ (h _ _ hb1 hs1 hl1 ⟨e1, e2, e3, by omega, fun k hk hne => setCells_far seg off k (fun e => hne (by rw [e]))⟩)
theorem store_whole (hN : o.dst = none) (hgd : o.guard = none) (t : TypeId) (p x : Operand) (ho : o.op = .store t p x) {g : Nat} {cs : Array Value} {e : TypeId} {u : Value} (cs1 : Array Value)
  (haddr : a.eval p = .pointer (some ⟨g, 0, none⟩)) (hx : a.eval x = u) (hu : u.cells = cs1) (ht : (P.info? t).map (·.size) = some cs1.size) (h1 : ∀ q ∈ cs1.toList, q.oneCell' = true)
  (hb : W.heap[g]? = some (.cells cs e (0, 0))) (hsz : cs.size = cs1.size)
  (h : ∀ w1, w1.heap[g]? = some (.cells cs1 e (0, 0)) → W.grownBy w1 (some g) → wpList P ops Q rest a w1) :
  wpList P ops Q (o :: rest) a W := by
 refine store_part hN hgd t p x ho cs1.toList haddr hx (by rw [hu]) (by simpa using ht) h1 hb (by rw [Array.length_toList]; omega) ?_
 intro w1 cs2 hb2 hs2 hl2 hg2
 have : cs2 = cs1 := by
  apply Array.ext'
  rw [hl2, List.take_zero, List.nil_append, List.drop_eq_nil_of_le (by rw [Array.length_toList, Array.length_toList]; omega), List.append_nil]
 subst this
 exact h w1 hb2 hg2
end
theorem below_wrote {B g : Nat} {w W w1 : World} (h : Below B w W) (hg : W.grownBy w1 (some g)) (hB : B ≤ g) (hs : B ≤ W.heap.size) : Below B w w1 := h.grown hg hs (fun k hk => by injection hk with hk; omega)
end Go.Proofs.Ytoemcdkopnclbaa.Blk
