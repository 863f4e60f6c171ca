/-
  What allen's Name and Find answer.
-/
import Derived.Test.YtoemcdkopnclbaaUHInverse
namespace Go.Proofs.Ytoemcdkopnclbaa.A
open Go.RowKit Go.Proofs.YtoemcdkopnclbaaW.PrintWords Go.Proofs.YtoemcdkopnclbaaW.PrintLast Go.Proofs.YtoemcdkopnclbaaW.PrintMore
attribute [local go_sem] max2_int min2_int max_two min_two max_three min_three max_four min_four
set_option linter.unusedVariables false
set_option linter.unusedSimpArgs false
def NM : List ByteArray := [(⟨#[66, 69, 70, 79, 82, 69]⟩ : ByteArray), (⟨#[77, 69, 69, 84, 83]⟩ : ByteArray), (⟨#[79, 86, 69, 82, 76, 65, 80, 83]⟩ : ByteArray), (⟨#[83, 84, 65, 82, 84, 83]⟩ : ByteArray), (⟨#[68, 85, 82, 73, 78, 71]⟩ : ByteArray), (⟨#[70, 73, 78, 73, 83, 72, 69, 83]⟩ : ByteArray), (⟨#[69, 81, 85, 65, 76, 83]⟩ : ByteArray), (⟨#[70, 73, 78, 73, 83, 72, 69, 68, 66, 89]⟩ : ByteArray), (⟨#[67, 79, 78, 84, 65, 73, 78, 83]⟩ : ByteArray), (⟨#[83, 84, 65, 82, 84, 69, 68, 66, 89]⟩ : ByteArray), (⟨#[79, 86, 69, 82, 76, 65, 80, 80, 69, 68, 66, 89]⟩ : ByteArray), (⟨#[77, 69, 84, 66, 89]⟩ : ByteArray), (⟨#[65, 70, 84, 69, 82]⟩ : ByteArray)]
def nm (i : Nat) : ByteArray := NM.getD i ⟨#[]⟩
def NMV : Array Value := #[.string (⟨#[66, 69, 70, 79, 82, 69]⟩ : ByteArray), .string (⟨#[77, 69, 69, 84, 83]⟩ : ByteArray), .string (⟨#[79, 86, 69, 82, 76, 65, 80, 83]⟩ : ByteArray), .string (⟨#[83, 84, 65, 82, 84, 83]⟩ : ByteArray), .string (⟨#[68, 85, 82, 73, 78, 71]⟩ : ByteArray), .string (⟨#[70, 73, 78, 73, 83, 72, 69, 83]⟩ : ByteArray), .string (⟨#[69, 81, 85, 65, 76, 83]⟩ : ByteArray), .string (⟨#[70, 73, 78, 73, 83, 72, 69, 68, 66, 89]⟩ : ByteArray), .string (⟨#[67, 79, 78, 84, 65, 73, 78, 83]⟩ : ByteArray), .string (⟨#[83, 84, 65, 82, 84, 69, 68, 66, 89]⟩ : ByteArray), .string (⟨#[79, 86, 69, 82, 76, 65, 80, 80, 69, 68, 66, 89]⟩ : ByteArray), .string (⟨#[77, 69, 84, 66, 89]⟩ : ByteArray), .string (⟨#[65, 70, 84, 69, 82]⟩ : ByteArray)]
def allen_Name.f (a0 : Int) : Option ByteArray := some (if 0 ≤ a0 ∧ a0 < 13 then nm a0.toNat else ⟨#[]⟩)
theorem nm_index (i : Nat) (h : i < 13) (W : World) : (Instr.index 52 (.agg NMV) (.int .i64 (i : Int))).run Try.prog W = .ok (.string (nm i)) W := by
 have hi : i = 0 ∨ i = 1 ∨ i = 2 ∨ i = 3 ∨ i = 4 ∨ i = 5 ∨ i = 6 ∨ i = 7 ∨ i = 8 ∨ i = 9 ∨ i = 10 ∨ i = 11 ∨ i = 12 := by omega
 rcases hi with rfl | rfl | rfl | rfl | rfl | rfl | rfl | rfl | rfl | rfl | rfl | rfl | rfl <;> (show _ = _; kernel_rfl)
set_option maxHeartbeats 8000000 in
set_option maxRecDepth 100000 in
theorem allen_names_calls (w : World) : Calls Try.prog 33 #[] w fun e w' => e = .returned (.agg NMV) ∧ Below w.heap.size w w' := by
 have HB := Aside0.mk (Below.refl w.heap.size w)
 go_enter Try.func33, Try.ntmps33
 go_wp2_with (first | ((with_reducible refine gate_dst (N := 0) rfl ?_); refine box_event ?hg (N := 0) ?hd (cs := #[.string (⟨#[]⟩ : ByteArray), .string (⟨#[]⟩ : ByteArray), .string (⟨#[]⟩ : ByteArray), .string (⟨#[]⟩ : ByteArray), .string (⟨#[]⟩ : ByteArray), .string (⟨#[]⟩ : ByteArray), .string (⟨#[]⟩ : ByteArray), .string (⟨#[]⟩ : ByteArray), .string (⟨#[]⟩ : ByteArray), .string (⟨#[]⟩ : ByteArray), .string (⟨#[]⟩ : ByteArray), .string (⟨#[]⟩ : ByteArray), .string (⟨#[]⟩ : ByteArray)]) (t := 52) ?hr ?_; (case hd => rfl); (case hg => rfl); (case hr => first | (go_simp; done) | (go_simp; rfl) | (go_simp; kernel_rfl) | kernel_rfl); intro g0 hg w2 hbox hb; have BK0 := Aside0.mk hbox; have GBK0 := Aside0.mk (show w.heap.size ≤ g0 by rw [hg]; exact HB.out.size); have n0_ := Aside0.mk (below_step HB.out hb); clear HB; have HB := n0_; clear n0_; clear hbox hb hg) | ((with_reducible refine gate_store (t := 52) (p := 0) (v := .tmp 1) rfl ?_); refine Blk.store_whole rfl rfl 52 (.tmp 0) (.tmp 1) rfl NMV rfl rfl rfl (by kernel_rfl) (by decide) BK0.out rfl ?_; intro w3 hb3 hg3; have n0_ := Aside0.mk (Blk.below_wrote HB.out hg3 GBK0.out HB.out.size); clear HB BK0; have HB := n0_; have BK0 := Aside0.mk hb3; clear n0_ hb3 hg3))
 refine bodyPost_ret (results_cell_row rfl _ _ g0 52 NMV (0, 0) _ rfl BK0.out Try.underlying52 rfl (by kernel_rfl)) rfl ?_
 exact ⟨rfl, HB.out⟩
set_option maxHeartbeats 8000000 in
set_option maxRecDepth 100000 in
theorem allen_Name.calls (a0 : Int) (r : ByteArray) (w : World) (h : allen_Name.f a0 = some r) :
  Calls Try.prog 16 #[.int .i64 a0] w fun e w' => e = .returned (.string r) ∧ Below w.heap.size w w' := by
 have HB := Aside0.mk (Below.refl w.heap.size w)
 have HE0 := Aside0.mk (exists_f a0)
 have H : (if 0 ≤ a0 ∧ a0 < 13 then nm a0.toNat else ⟨#[]⟩) = r := Option.some.inj h
 clear h
 by_cases h0 : 0 ≤ a0 ∧ a0 < 13
 ·rw [if_pos h0] at H
  rw [decide_eq_true h0] at HE0
  obtain ⟨a, rfl⟩ : ∃ a : Nat, a0 = (a : Int) := ⟨a0.toNat, by omega⟩
  have hx := nm_index a (by omega)
  rw [Int.toNat_natCast] at H
  subst H
  clear h0
  go_enter Try.func16, Try.ntmps16
  go_wp2_with (first | (go_at_call 32; (with_reducible refine (allen_exists.calls (a : Int) true _ HE0.out).mono ?_); rintro e_ w' ⟨rfl, ⟨nd, rfl⟩⟩; have n0_ := Aside0.mk (pw_below_drewN HB.out nd); clear HB; have HB := n0_; clear n0_; generalize w.drewN nd = wd at *) | (go_at_call 33; (with_reducible refine (allen_names_calls _).mono ?_); rintro e_ w9 ⟨rfl, hb⟩; have n0_ := Aside0.mk (below_step HB.out hb); clear HB; have HB := n0_; clear n0_ hb))
  go_ret
  exact ⟨rfl, HB.out⟩
 ·rw [if_neg h0] at H
  rw [decide_eq_false h0] at HE0
  subst H
  clear h0
  go_enter Try.func16, Try.ntmps16
  go_wp2_with (first | (go_at_call 32; (with_reducible refine (allen_exists.calls a0 false _ HE0.out).mono ?_); rintro e_ w' ⟨rfl, ⟨nd, rfl⟩⟩; have n0_ := Aside0.mk (pw_below_drewN HB.out nd); clear HB; have HB := n0_; clear n0_; generalize w.drewN nd = wd at *))
  go_ret
  exact ⟨rfl, HB.out⟩
end Go.Proofs.Ytoemcdkopnclbaa.A
