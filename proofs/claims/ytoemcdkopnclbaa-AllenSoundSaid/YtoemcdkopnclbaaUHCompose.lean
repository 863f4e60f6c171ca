/-
  What allen's Compose answers: the members of the table's set at a and b.
-/
import Derived.Test.YtoemcdkopnclbaaUHComps
import Derived.Test.YtoemcdkopnclbaaUHInverse
namespace Go.Proofs.Ytoemcdkopnclbaa.A
open Go.RowKit Go.Proofs.YtoemcdkopnclbaaW.PrintWords Go.Proofs.YtoemcdkopnclbaaW.PrintLast Go.Proofs.YtoemcdkopnclbaaW.PrintMore
attribute [local go_sem] max2_int min2_int max_two min_two max_three min_three max_four min_four
set_option linter.unusedVariables false
set_option linter.unusedSimpArgs false
def allen_Compose.f (a0 a1 : Int) : Option (List Int) :=
 if 0 ≤ a0 ∧ a0 < 13 then (if 0 ≤ a1 ∧ a1 < 13 then allen_set_list.f 20 (tabAt a0.toNat a1.toNat : Int) else some []) else some []
set_option maxHeartbeats 8000000 in
set_option maxRecDepth 100000 in
theorem allen_Compose.calls (a0 a1 : Int) (r : List Int) (w : World) (h : allen_Compose.f a0 a1 = some r) :
  Calls Try.prog 21 #[.int .i64 a0, .int .i64 a1] w fun e w' => ∃ v0_ : Value, e = .returned v0_ ∧ Kd.R (Kd.int .i64) 3 w' w.heap.size (fun _ => True) v0_ r ∧ Below w.heap.size w w' := by
 have hu57 := Try.underlying57
 have hu58 := Try.underlying58
 have hu60 := Try.underlying60
 have HB := Aside0.mk (Below.refl w.heap.size w)
 have HE0 := Aside0.mk (exists_f a0)
 have HE1 := Aside0.mk (exists_f a1)
 unfold allen_Compose.f at h
 by_cases h0 : 0 ≤ a0 ∧ a0 < 13
 ·rw [if_pos h0] at h
  rw [decide_eq_true h0] at HE0
  by_cases h1 : 0 ≤ a1 ∧ a1 < 13
  ·rw [if_pos h1] at h
   rw [decide_eq_true h1] at HE1
   obtain ⟨a, rfl⟩ : ∃ a : Nat, a0 = (a : Int) := ⟨a0.toNat, by omega⟩
   obtain ⟨b, rfl⟩ : ∃ b : Nat, a1 = (b : Int) := ⟨a1.toNat, by omega⟩
   rw [Int.toNat_natCast, Int.toNat_natCast] at h
   have HLIST := Aside0.mk h
   have HCELL : Aside0 ((encs16 TAB)[a * 13 + b]? = some (.int .u16 (tabAt a b : Int))) := ⟨by rw [encs16_get TAB _ (by rw [TAB_len]; omega)]; rfl⟩
   have p0 : (0 ≤ (a : Int)) = True := eq_true h0.1
   have p1 : ((a : Int) < 13) = True := eq_true h0.2
   have p2 : (0 ≤ (b : Int)) = True := eq_true h1.1
   have p3 : ((b : Int) < 13) = True := eq_true h1.2
   clear h h0 h1
   go_enter Try.func21, Try.ntmps21
   go_wp2_with (first | (go_at_call 32; (with_reducible refine (allen_exists.calls (a : Int) true _ HE0.out).mono ?_); rintro e_ w' ⟨rfl, ⟨nd, rfl⟩⟩; have n0_ := Aside0.mk (pw_below_drewN HB.out nd); clear HB; have HB := n0_; clear n0_; generalize w.drewN nd = wd at *) | (go_at_call 32; (with_reducible refine (allen_exists.calls (b : Int) true _ HE1.out).mono ?_); rintro e_ w' ⟨rfl, ⟨nd, rfl⟩⟩; have n0_ := Aside0.mk (pw_below_drewN HB.out nd); clear HB; have HB := n0_; clear n0_; generalize wd.drewN nd = we at *) | (go_at_call 34; (with_reducible refine (allen_compositions_calls _).mono ?_); rintro e_ w9 ⟨rfl, hb⟩; have n0_ := Aside0.mk (below_step HB.out hb); clear HB; have HB := n0_; clear n0_ hb) | ((with_reducible refine gate_dst (N := 5) rfl ?_); refine box_event ?hg (N := 5) ?hd (cs := encs16 (List.replicate 169 0)) (t := 60) ?hr ?_; (case hd => rfl); (case hg => rfl); (case hr => first | (go_simp; done) | (go_simp; rfl) | (go_simp; kernel_rfl) | kernel_rfl); intro g5 hg w2 hbox hb; have BK5 := Aside0.mk hbox; have GBK5 := Aside0.mk (show w.heap.size ≤ g5 by rw [hg]; exact HB.out.size); have n0_ := Aside0.mk (below_step HB.out hb); clear HB; have HB := n0_; clear n0_; clear hbox hb hg) | ((with_reducible refine gate_store (t := 60) (p := 5) (v := .tmp 14) rfl ?_); refine Blk.store_whole rfl rfl 60 (.tmp 5) (.tmp 14) rfl (encs16 TAB) rfl rfl rfl (by first | kernel_rfl | (rw [encs16_size]; kernel_rfl)) (by first | exact encs16_one _ | simp [Value.oneCell']) BK5.out (by first | rfl | (rw [encs16_size, encs16_size]; kernel_rfl)) ?_; intro w3 hb3 hg3; have n0_ := Aside0.mk (Blk.below_wrote HB.out hg3 GBK5.out HB.out.size); clear BK5; have BK5 := Aside0.mk hb3; clear HB; have HB := n0_; clear n0_; clear hb3 hg3; have hl5 := (blk_cell BK5.out (a * 13 + b)).trans HCELL.out) | (go_at_call 35; (with_reducible refine (allen_set_list.calls 20 _ r _ HLIST.out).mono ?_); rintro e_ w9 ⟨v_, rfl, ho, hb⟩; have HO := Aside0.mk (Kd.R_lower ho (below_size HB.out)); have n0_ := Aside0.mk (below_step HB.out hb); clear HB; have HB := n0_; clear n0_ hb ho))
   go_ret
   exact ⟨_, rfl, HO.out, HB.out⟩
  ·rw [if_neg h1] at h
   rw [decide_eq_false h1] at HE1
   obtain rfl : [] = r := Option.some.inj h
   clear h h0 h1
   go_enter Try.func21, Try.ntmps21
   go_wp2_with (first | (go_at_call 32; (with_reducible refine (allen_exists.calls a0 true _ HE0.out).mono ?_); rintro e_ w' ⟨rfl, ⟨nd, rfl⟩⟩; have n0_ := Aside0.mk (pw_below_drewN HB.out nd); clear HB; have HB := n0_; clear n0_; generalize w.drewN nd = wd at *) | (go_at_call 32; (with_reducible refine (allen_exists.calls a1 false _ HE1.out).mono ?_); rintro e_ w' ⟨rfl, ⟨nd, rfl⟩⟩; have n0_ := Aside0.mk (pw_below_drewN HB.out nd); clear HB; have HB := n0_; clear n0_; generalize wd.drewN nd = we at *))
   go_ret
   exact ⟨_, rfl, Kd.R_nil _ _ _ _ _, HB.out⟩
 ·rw [if_neg h0] at h
  rw [decide_eq_false h0] at HE0
  obtain rfl : [] = r := Option.some.inj h
  clear h h0
  go_enter Try.func21, Try.ntmps21
  go_wp2_with (first | (go_at_call 32; (with_reducible refine (allen_exists.calls a0 false _ HE0.out).mono ?_); rintro e_ w' ⟨rfl, ⟨nd, rfl⟩⟩; have n0_ := Aside0.mk (pw_below_drewN HB.out nd); clear HB; have HB := n0_; clear n0_; generalize w.drewN nd = wd at *))
  go_ret
  exact ⟨_, rfl, Kd.R_nil _ _ _ _ _, HB.out⟩
end Go.Proofs.Ytoemcdkopnclbaa.A
