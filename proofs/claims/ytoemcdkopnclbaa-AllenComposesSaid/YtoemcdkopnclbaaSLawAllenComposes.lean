/-
  The row of the law AllenComposes: for every input the call returns true, and each argument reads behind it as before.
-/
import Derived.Test.YtoemcdkopnclbaaRows
import Derived.Test.YtoemcdkopnclbaaSAx11
import Derived.Test.YtoemcdkopnclbaaSLComposes
import Derived.WalkKit
import Derived.ProofKit
import Derived.OpenShut
import Derived.ShutString
import Derived.ChangeOld
import Derived.Below
import Derived.SizedLaws
import Derived.Lib.SmallJoins
import Derived.Deep.Slices
import Derived.Deep.Fields
import Derived.ChangeSame
namespace Go.Proofs.Ytoemcdkopnclbaa.allenComposes
open Go.ChangeShapes Go.WideShapes Go.ChangeAt Go.RowKit
set_option linter.unusedVariables false
theorem own : ownKnob Try.prog.godebug = none := by kernel_rfl
theorem laidOut : laidOutB Try.prog = true := by kernel_rfl
set_option maxRecDepth 100000 in
theorem lifted (os : Os) (started : os.Started) (H : Type) (enc : TypeId × Value → H) :
    ReturnsInHanded {} Try.checked os 6 .any (Rows.allenComposesSpec.pre6 enc Try.prog Try.f6 Rows.allenComposesRow.domain false) (Rows.allenComposesSpec.post enc Try.prog Try.f6 false true false false) := by
  refine returnsInHanded_of_change_sized (C := Try.checked) own started (by kernel_rfl) Try.func6
    (ChangeSpec.witness6 (enc := enc) (C := Try.checked) false ⟨#[], #[.agg #[.int .i64 0, .int .i64 0], .agg #[.int .i64 0, .int .i64 0], .agg #[.int .i64 0, .int .i64 0]], []⟩ 8 (by kernel_rfl) (by kernel_rfl) (by kernel_rfl) (by kernel_rfl)) ?_
  intro W base args ds gs before hval0 hW hcnd hsz0 _
  have hsz : (DataW.weightsEach Try.prog (Try.f6.params.toList ++ Rows.allenComposesSpec.plain.varTypes Try.prog) (ds ++ gs)).all (· ≤ reachBytes) = true := hsz0
  have hval : ∀ (j : Nat) t v, Try.f6.params[j]? = some t → args[j]? = some v → Value.okWide Try.prog W .any base t v := hval0
  have hW' := hW
  obtain ⟨p, q, hA0, hV, rfl, hfz, hnd⟩ := hW
  have hA : DataW.TrodAll enc Try.prog W 0 (fun _ => true) true Try.f6.params.toList args.toList ds p := hA0
  rw [Try.params6] at hA hval hsz
  obtain ⟨v0, vs0, d0, ds0, p0, q0, hargs, rfl, rfl, h0, r0⟩ := trodAll_cons hA
  obtain ⟨v1, vs1, d1, ds1, p1, q1, rfl, rfl, rfl, h1, r1⟩ := trodAll_cons r0
  obtain ⟨v2, vs2, d2, ds2, p2, q2, rfl, rfl, rfl, h2, r2⟩ := trodAll_cons r1
  obtain ⟨rfl, rfl, rfl⟩ := trodAll_nil r2
  obtain rfl : args = #[v0, v1, v2] := by cases args; simp_all
  obtain ⟨rfl, rfl⟩ := trodVars_none hV
  have k0 := h0
  have lt0 : ∀ x ∈ p0, x.block < W.heap.size := by obtain ⟨m, hm⟩ := k0; exact DataW.trod_lt m _ _ _ hm
  obtain ⟨x0a, x0b, y0a, y0b, m0, rfl, rfl, rfl, t0a, t0b⟩ := Joins.open_agg2 Try.underlying23 (by kernel_rfl) (by kernel_rfl) (hval 0 23 v0 rfl rfl) h0
  obtain ⟨a0a, e0a, rfl, w0a⟩ := DataW.trod_int Try.underlying3 t0a
  obtain rfl : x0a = .int .i64 a0a := by injection e0a
  obtain ⟨a0b, e0b, rfl, w0b⟩ := DataW.trod_int Try.underlying3 t0b
  obtain rfl : x0b = .int .i64 a0b := by injection e0b
  have k1 := h1
  have lt1 : ∀ x ∈ p1, x.block < W.heap.size := by obtain ⟨m, hm⟩ := k1; exact DataW.trod_lt m _ _ _ hm
  obtain ⟨x1a, x1b, y1a, y1b, m1, rfl, rfl, rfl, t1a, t1b⟩ := Joins.open_agg2 Try.underlying23 (by kernel_rfl) (by kernel_rfl) (hval 1 23 v1 rfl rfl) h1
  obtain ⟨a1a, e1a, rfl, w1a⟩ := DataW.trod_int Try.underlying3 t1a
  obtain rfl : x1a = .int .i64 a1a := by injection e1a
  obtain ⟨a1b, e1b, rfl, w1b⟩ := DataW.trod_int Try.underlying3 t1b
  obtain rfl : x1b = .int .i64 a1b := by injection e1b
  have k2 := h2
  have lt2 : ∀ x ∈ p2, x.block < W.heap.size := by obtain ⟨m, hm⟩ := k2; exact DataW.trod_lt m _ _ _ hm
  obtain ⟨x2a, x2b, y2a, y2b, m2, rfl, rfl, rfl, t2a, t2b⟩ := Joins.open_agg2 Try.underlying23 (by kernel_rfl) (by kernel_rfl) (hval 2 23 v2 rfl rfl) h2
  obtain ⟨a2a, e2a, rfl, w2a⟩ := DataW.trod_int Try.underlying3 t2a
  obtain rfl : x2a = .int .i64 a2a := by injection e2a
  obtain ⟨a2b, e2b, rfl, w2b⟩ := DataW.trod_int Try.underlying3 t2b
  obtain rfl : x2b = .int .i64 a2b := by injection e2b
  clear hA0 hval0 hsz0 hsz
  obtain ⟨k, h⟩ := A.composes_row a0a a0b a1a a1b a2a a2b w0a w0b w1a w1b w2a w2b
  refine (A.bitemporallaw02_AllenComposes.calls k a0a a0b a1a a1b a2a a2b true W  h).mono fun e W' ⟨he, bel⟩ => ?_
  subst he
  exact ⟨_, rfl, _, _, _, [], _, [], hW', trodAll_mk1 (shut_bool Try.underlying4 _), (trodAll_cons_mk (Below.trod laidOut (by kernel_rfl) (of_decide_eq_true (by kernel_rfl)) k0 bel lt0) (trodAll_cons_mk (Below.trod laidOut (by kernel_rfl) (of_decide_eq_true (by kernel_rfl)) k1 bel lt1) (trodAll_cons_mk (Below.trod laidOut (by kernel_rfl) (of_decide_eq_true (by kernel_rfl)) k2 bel lt2) trodAll_mk0))), rfl, bel.frame _, fun h => by cases h⟩
theorem over : Rows.allenComposesRow.holds Try.pinned (OpenSpec.ofChange Rows.allenComposesSpec) :=
  OpenClaim.holds_of_wide 6 Try.f6 rfl rfl rfl rfl rfl rfl rfl ⟨rfl, rfl, rfl, rfl, rfl⟩ rfl rfl rfl rfl rfl (by kernel_rfl) Try.func6 (by kernel_rfl)
    (of_decide_eq_true (by kernel_rfl)) (by unfold Func.isWrapper; first | (rw [if_pos (by decide +kernel)]; kernel_rfl) | (rw [if_neg (by decide +kernel)]; exact ⟨rfl, rfl⟩))
    (fun os started H enc _ => lifted os started H enc)
end Go.Proofs.Ytoemcdkopnclbaa.allenComposes
namespace Go.Proofs.Ytoemcdkopnclbaa
theorem allenComposes_holds : Rows.AllenComposesSaid := allenComposes.over
end Go.Proofs.Ytoemcdkopnclbaa
