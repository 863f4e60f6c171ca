/-
  '==' of two arrays, and of two networks of sets.
-/
import Derived.Test.YtoemcdkopnclbaaUHNarrow
namespace Go.Proofs.Ytoemcdkopnclbaa.A
open Go.RowKit Go.Proofs.YtoemcdkopnclbaaW.PrintWords Go.Proofs.YtoemcdkopnclbaaW.PrintLast Go.Proofs.YtoemcdkopnclbaaW.PrintMore
set_option linter.unusedVariables false
set_option linter.unusedSimpArgs false
theorem run_size {P : Program} {t : TypeId} {n : Nat} (h : (P.info? t).map (·.size) = some n) (w : World) : (sizeOf t).run P w = .ok n w := by
 cases hi : P.info? t with
 | none => rw [hi] at h; simp at h
 | some i =>
  rw [hi] at h
  simp only [Option.map_some, Option.some.injEq] at h
  subst h
  simp [sizeOf, typeInfo, hi, Sem.run_bind]
theorem run_equalIn_array {P : Program} {w : World} {d t len elem n : Nat} {xs ys : Array Value} (ht : P.underlying t = some (.array len elem)) (hs : (P.info? elem).map (·.size) = some n) (r : Nat → Bool)
  (h : ∀ i, i < len → ∃ a b, (part elem xs (i * n)).run P w = .ok a w ∧ (part elem ys (i * n)).run P w = .ok b w ∧ (Op.equalIn d elem a b).run P w = .ok (r i) w) :
  (Op.equalIn (d + 1) t (.agg xs) (.agg ys)).run P w = .ok ((List.range len).all r) w := by
 simp only [Op.equalIn, Sem.run_bind, run_underlying ht, Result.andThen_ok, run_size hs, Std.Legacy.Range.forIn_eq_forIn_range', Std.Legacy.Range.size, Nat.sub_zero, Nat.add_sub_cancel, Nat.div_one, ← List.range_eq_range']
 have key : ∀ l : List Nat, (∀ i ∈ l, i < len) → (Sem.run P
     (forIn l ((none, ()) : Option Bool × Unit) fun i __s => do
      let __do_lift ← part elem xs (i * n)
      let __do_lift_1 ← part elem ys (i * n)
      let __do_lift ← Op.equalIn d elem __do_lift __do_lift_1
      if (!__do_lift) = true then pure (ForInStep.done (some false, ())) else pure (ForInStep.yield (none, ())))
     w) = Result.ok (if l.all r = true then none else some false, ()) w := by
  intro l
  induction l with
  | nil => intro _; simp
  | cons i l ih =>
   intro hl
   obtain ⟨a, b, h1, h2, h3⟩ := h i (hl i (by simp))
   simp only [List.forIn_cons, Sem.run_bind, h1, h2, h3, Result.andThen_ok, Sem.run_ite]
   cases hr : r i
   ·simp [hr, Sem.run_pure]
   ·simp only [Bool.not_true, Bool.false_eq_true, if_false, Sem.run_pure, Result.andThen_ok, List.all_cons, hr, Bool.true_and]
    exact ih (fun j hj => hl j (by simp [hj]))
 have hk := key (List.range len) (fun i hi => List.mem_range.1 hi)
 rw [hk]
 simp only [Result.andThen_ok]
 cases (List.range len).all r <;> simp
theorem run_part_agg {P : Program} {w : World} {t n off : Nat} {d : TypeDesc} {cs : Array Value} (hu : P.underlying t = some d) (hd : (match d with | .struct _ => true | .array _ _ => true | _ => false) = true) (hs : (P.info? t).map (·.size) = some n) :
  (part t cs off).run P w = .ok (.agg (cs.extract off (off + n))) w := by
 have h1 : (isAgg t).run P w = .ok true w := by
  unfold isAgg
  simp only [Sem.run_bind, run_underlying hu, Result.andThen_ok]
  cases d <;> first | rfl | simp_all
 simp only [part, Sem.run_bind, h1, Result.andThen_ok, if_true, Sem.run_ite, run_size hs, Sem.run_pure]
theorem enc_extract (xs : List Nat) (s n : Nat) : (encs16 xs).extract s (s + n) = encs16 ((xs.drop s).take n) := by
 simp [encs16, List.map_take, List.map_drop, List.extract_toArray, List.extract_eq_take_drop]
theorem enc_single (xs : List Nat) (j : Nat) (h : j < xs.length) : encs16 ((xs.drop j).take 1) = #[.int .u16 (xs.getD j 0 : Nat)] := by
 show (((xs.drop j).take 1).map _).toArray = _
 rw [List.drop_eq_getElem_cons h, List.take_succ_cons, List.take_zero]
 simp [List.getD_eq_getElem?_getD, List.getElem?_eq_getElem h]
theorem set_eq (d : Nat) (W : World) (x y : Int) : (Op.equalIn (d + 2) 57 (.agg #[.int .u16 x]) (.agg #[.int .u16 y])).run Try.prog W = .ok (x == y) W := by
 have hu57 := Try.underlying57
 refine eqA_of Try.underlying57 (by kernel_rfl) ?_
 exact eqf_last (by rfl) (by go_simp; rfl) (by go_simp; rfl) (by go_simp)
theorem net_eq (a b : List Nat) (ha : a.length = 64) (hb : b.length = 64) (W : World) :
  (Op.equalIn 10000 67 (.agg (encs16 a)) (.agg (encs16 b))).run Try.prog W = .ok (decide (a = b)) W := by
 have hrow : ∀ i, i < 8 → (Op.equalIn 9999 65 (.agg (encs16 ((a.drop (i * 8)).take 8))) (.agg (encs16 ((b.drop (i * 8)).take 8)))).run Try.prog W = .ok ((List.range 8).all fun j => netAt a i j == netAt b i j) W := by
  intro i hi
  refine run_equalIn_array (d := 9998) Try.underlying65 (n := 1) (by kernel_rfl) _ (fun j hj => ?_)
  have hcell : ∀ x : List Nat, x.length = 64 → (encs16 ((x.drop (i * 8)).take 8)).extract (j * 1) (j * 1 + 1) = #[.int .u16 (netAt x i j : Nat)] := by
   intro x hx
   rw [enc_extract, Nat.mul_one, enc_single _ j (by rw [List.length_take, List.length_drop]; omega)]
   congr 4
   rw [netAt, List.getD_eq_getElem?_getD, List.getD_eq_getElem?_getD, List.getElem?_take, if_pos hj, List.getElem?_drop]
  refine ⟨_, _, run_part_agg Try.underlying57 rfl (n := 1) (by kernel_rfl), run_part_agg Try.underlying57 rfl (n := 1) (by kernel_rfl), ?_⟩
  rw [hcell a ha, hcell b hb, set_eq 9996]
  congr 1
  by_cases h : netAt a i j = netAt b i j
  ·rw [h]; simp
  ·rw [beq_eq_false_iff_ne.2 h, beq_eq_false_iff_ne.2 (by omega)]
 have h := run_equalIn_array (P := Try.prog) (w := W) (d := 9999) (t := 67) (xs := encs16 a) (ys := encs16 b) Try.underlying67 (n := 8) (by kernel_rfl) (fun i => (List.range 8).all fun j => netAt a i j == netAt b i j) (fun i hi =>
  ⟨_, _, run_part_agg Try.underlying65 rfl (n := 8) (by kernel_rfl), run_part_agg Try.underlying65 rfl (n := 8) (by kernel_rfl), by rw [enc_extract, enc_extract]; exact hrow i hi⟩)
 rw [h]
 congr 1
 by_cases e : a = b
 ·subst e
  rw [decide_eq_true rfl]
  simp
 ·rw [decide_eq_false e, ← Bool.not_eq_true, List.all_eq_true]
  intro hall
  apply e
  apply List.ext_getElem (by rw [ha, hb])
  intro q hq hq2
  have h1 := hall (q / 8) (List.mem_range.2 (by omega))
  rw [List.all_eq_true] at h1
  have h2 := eq_of_beq (h1 (q % 8) (List.mem_range.2 (by omega)))
  unfold netAt at h2
  rw [show q / 8 * 8 + q % 8 = q by omega, List.getD_eq_getElem?_getD, List.getD_eq_getElem?_getD, List.getElem?_eq_getElem hq, List.getElem?_eq_getElem hq2] at h2
  exact h2
end Go.Proofs.Ytoemcdkopnclbaa.A
