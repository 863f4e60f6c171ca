/-
  The walk through allen's 'compositions': it answers the table TAB.
-/
import Derived.Test.YtoemcdkopnclbaaUHCompsP
namespace Go.Proofs.Ytoemcdkopnclbaa.A
open Go.RowKit Go.Proofs.YtoemcdkopnclbaaW.PrintWords Go.Proofs.YtoemcdkopnclbaaW.PrintLast Go.Proofs.YtoemcdkopnclbaaW.PrintMore
attribute [local go_sem] max2_int min2_int max_two min_two max_three min_three max_four min_four
set_option linter.unusedVariables false
set_option linter.unusedSimpArgs false
set_option maxHeartbeats 8000000 in
set_option maxRecDepth 100000 in
theorem allen_compositions_calls (w : World) :
  Calls Try.prog 34 #[] w fun e w' => e = .returned (.agg (encs16 TAB)) ∧ Below w.heap.size w w' := by
 have hu57 := Try.underlying57
 have hu58 := Try.underlying58
 have hu60 := Try.underlying60
 have hu23 := Try.underlying23
 have HB := Aside0.mk (Below.refl w.heap.size w)
 go_enter Try.func34, Try.ntmps34
 go_wp2_with (first | ((with_reducible refine gate_dst (N := 0) rfl ?_); refine box_event ?hg (N := 0) ?hd (cs := encs16 (List.replicate 169 0)) (t := 60) ?hr ?_; (case hd => rfl); (case hg => rfl); (case hr => first | (go_simp; done) | (go_simp; rfl) | (go_simp; kernel_rfl) | kernel_rfl); intro g0 hg w2 hbox hb; have BK0 := Aside0.mk hbox; have GBK0 := Aside0.mk (show w.heap.size ≤ g0 by rw [hg]; exact HB.out.size); have n0_ := Aside0.mk (below_step HB.out hb); clear HB; have HB := n0_; clear n0_; clear hbox hb hg))
 go_loopg [1, 17] 6 (fun kq v1 v17 w' => ∃ i : Nat, v17 = .int .i64 i ∧ Aside0 (kq + i = 6) ∧ Aside0 (Kd.R k23 23 w' w.heap.size (fun _ => True) v1 (pa i)) ∧ Aside0 (w'.heap[g0]? = some (.cells (encs16 (List.replicate 169 0)) 60 (0, 0))) ∧ Aside0 (Below w.heap.size w w'))
 case atStart => exact ⟨0, rfl, ⟨rfl⟩, ⟨Kd.R_nil _ _ _ _ _⟩, BK0, HB⟩
 case round =>
  clear HB BK0
  obtain ⟨i, rfl, HK1, HO, BK0, HB⟩ := hrel
  by_cases hi : i < 6
  ·have HI := Aside0.mk hi
   have ci : decide ((i : Int) < 6) = true := decide_eq_true (by omega)
   obtain ⟨k1, rfl⟩ : ∃ m, gk = m + 1 := ⟨gk - 1, by have := HK1.out; omega⟩
   have hwi : IntKind.i64.wrap ((i : Int) + 1) = ((i + 1 : Nat) : Int) := i64_succ i (by omega)
   clear hi
   go_wp2
   go_loopg [1, 3] (6 - i) (fun kq v1 v3 w' => ∃ tt : Nat, v3 = .int .i64 tt ∧ Aside0 (kq + tt = 7) ∧ Aside0 (i < tt) ∧ Aside0 (Kd.R k23 23 w' w.heap.size (fun _ => True) v1 (pb (pa i) i (tt - (i + 1)))) ∧ Aside0 (w'.heap[g0]? = some (.cells (encs16 (List.replicate 169 0)) 60 (0, 0))) ∧ Aside0 (Below w.heap.size w w'))
   case atStart => exact ⟨i + 1, rfl, ⟨by have := HI.out; omega⟩, ⟨by omega⟩, ⟨by rw [Nat.sub_self]; exact HO.out⟩, BK0, HB⟩
   case round =>
    clear HB BK0 HO
    obtain ⟨tt, rfl, HK2, HIT, HO, BK0, HB⟩ := hrel
    by_cases ht : tt ≤ 6
    ·have HT := Aside0.mk ht
     have ct : decide ((tt : Int) ≤ 6) = true := decide_eq_true (by omega)
     obtain ⟨k2, rfl⟩ : ∃ m, gk = m + 1 := ⟨gk - 1, by have := HK2.out; omega⟩
     have hwt : IntKind.i64.wrap ((tt : Int) + 1) = ((tt + 1 : Nat) : Int) := i64_succ tt (by omega)
     obtain ⟨m, hm⟩ : ∃ m, m = tt - (i + 1) := ⟨_, rfl⟩
     rw [← hm] at HO
     have HNX := Aside0.mk (show pb (pa i) i (tt + 1 - (i + 1)) = pb (pa i) i m ++ [(⟨(i : Int), (tt : Int)⟩ : S23)] by
      rw [show tt + 1 - (i + 1) = m + 1 by have := HIT.out; omega, pb, show i + 1 + m = tt by have := HIT.out; omega])
     have HLEN := Aside0.mk (show (pb (pa i) i m).length < 1000 by rw [pb_len]; have := pa_len i; have := HI.out; have := HIT.out; omega)
     clear ht hm
     go_wp2_with (first | ((with_reducible refine gate_builtin (b := .append) (xs := #[.tmp 26, .tmp 30]) rfl ?_); at_builtin; refine Kd.R_append k23 (w0 := w) w.heap.size rfl (.tmp 26) (.tmp 30) 46 23 (.agg #[(.int .i64 0), (.int .i64 0)]) 16 rfl Try.underlying46 info23 rfl (by decide) (by omega) u1 (pb (pa i) i m) (⟨(i : Int), (tt : Int)⟩ : S23) [.int .i64 (i : Int), .int .i64 (tt : Int)] (fun _ => True) (fun _ => False) rfl rfl ?aP (fun _ hk => hk.elim) ?aF ?aO ?aB ?aS ?aL ?_; (case aP => exact k23_mkM _ _ _ (⟨(i : Int), (tt : Int)⟩ : S23)); (case aB => exact HB.out); (case aF => exact (fun _ _ => trivial)); (case aO => exact HO.out); (case aS => exact (below_size HB.out)); (case aL => have := HLEN.out; omega); intro v9 w4 ho hb hg hat; have n0_ := Aside0.mk hb; have n1_ := Aside0.mk ho; have n2_ := Aside0.mk (blk_grown BK0.out hg (Kd.R_ne HO.out BK0.out (by decide))); clear HB HO BK0; have HB := n0_; have HO := n1_; have BK0 := n2_; clear n0_ n1_ n2_ ho hb hg hat))
     go_roundg k2
     case measure => omega
     case rel => exact ⟨tt + 1, rfl, ⟨by have := HK2.out; omega⟩, ⟨by have := HIT.out; omega⟩, ⟨by rw [HNX.out]; exact HO.out⟩, BK0, HB⟩
    ·have ct : decide ((tt : Int) ≤ 6) = false := decide_eq_false (by omega)
     have HE : Aside0 (tt = 7) := ⟨by have := HK2.out; omega⟩
     clear ht
     go_wp2
     go_roundg k1
     case measure => omega
     case rel => exact ⟨i + 1, rfl, ⟨by have := HK1.out; omega⟩, ⟨by have h0 := HO.out; rw [HE.out, show 7 - (i + 1) = 6 - i by omega] at h0; exact h0⟩, BK0, HB⟩
  ·have ci : decide ((i : Int) < 6) = false := decide_eq_false (by omega)
   obtain rfl : i = 6 := by have := HK1.out; omega
   clear hi
   rw [pa_all] at HO
   obtain ⟨Ao, co, eo⟩ := Kd.R_slice HO.out
   subst eo
   obtain ⟨ad, eA, _, _⟩ := at_T23 (Kd.R_reads' HO.out).2.2 0 (by decide) (by rw [P21_len]; decide)
   subst eA
   go_wp2_with (first | ((with_reducible refine gate_dst (N := 4) rfl ?_); refine box_event ?hg (N := 4) ?hd (cs := encs16 (List.replicate 169 0)) (t := 60) ?hr ?_; (case hd => rfl); (case hg => rfl); (case hr => first | (go_simp; done) | (go_simp; rfl) | (go_simp; kernel_rfl) | kernel_rfl); intro g4 hg w2 hbox hb; have BK4 := Aside0.mk hbox; have GBK4 := Aside0.mk (show w.heap.size ≤ g4 by rw [hg]; exact HB.out.size); have NBK0BK4 := Aside0.mk (show g0 ≠ g4 by rw [hg]; exact Nat.ne_of_lt (blk_lt BK0.out)); have NBK4BK0 := Aside0.mk (show g4 ≠ g0 by rw [hg]; exact Nat.ne_of_gt (blk_lt BK0.out)); have NOBK4HO := Aside0.mk (show some g4 ≠ (Value.slice (some ad) P21.length co).ownBlock by rw [hg]; exact Kd.R_ne_new HO.out 0); have n0_ := Aside0.mk (below_step HB.out hb); have n1_ := Aside0.mk (blk_below BK0.out hb); have n2_ := Aside0.mk (Kd.R_below HO.out hb); clear HB BK0 HO; have HB := n0_; have BK0 := n1_; have HO := n2_; clear n0_ n1_ n2_; clear hbox hb hg))
   go_loopg [35] 21 (fun kq v35 w' => ∃ i : Nat, v35 = .int .i64 i ∧ Aside0 (kq + i = 21) ∧ Aside0 (Kd.R k23 23 w' w.heap.size (fun _ => True) (Value.slice (some ad) P21.length co) P21) ∧ Aside0 (w'.heap[g0]? = some (.cells (encs16 (List.replicate 169 0)) 60 (0, 0))) ∧ Aside0 (w'.heap[g4]? = some (.cells (encs16 (tab3 i)) 60 (0, 0))) ∧ Aside0 (Below w.heap.size w w'))
   case atStart => exact ⟨0, rfl, ⟨rfl⟩, HO, BK0, BK4, HB⟩
   case round =>
    clear HB HO BK0 BK4
    obtain ⟨i, rfl, HK3, HO, BK0, BK4, HB⟩ := hrel
    by_cases hi : i < 21
    ·have HIi := Aside0.mk hi
     have ci : decide ((i : Int) < (P21.length : Int)) = true := decide_eq_true (by rw [P21_len]; omega)
     have cci : decide (i < P21.length) = true := decide_eq_true (by rw [P21_len]; omega)
     obtain ⟨k3, rfl⟩ : ∃ m, gk = m + 1 := ⟨gk - 1, by have := HK3.out; omega⟩
     have hwi : IntKind.i64.wrap ((i : Int) + 1) = ((i + 1 : Nat) : Int) := i64_succ i (by omega)
     have pi : 0 ≤ (i : Int) := by omega
     have qi : (i : Int) < (P21.length : Int) := by rw [P21_len]; omega
     obtain ⟨adi, ei, hxi0, hxi1⟩ := at_T23 (Kd.R_reads' HO.out).2.2 (i : Int) pi qi
     rw [show adi = ad by injection ei with ei; exact ei.symm] at hxi0 hxi1
     clear ei
     replace pi := eq_true pi
     simp only [Int.toNat_natCast] at hxi0 hxi1
     replace qi := eq_true qi
     clear hi
     go_wp2_with (first | ((with_reducible refine gate_dst (N := 6) rfl ?_); refine box_event ?hg (N := 6) ?hd (cs := #[.int .i64 0, .int .i64 0]) (t := 23) ?hr ?_; (case hd => rfl); (case hg => rfl); (case hr => first | (go_simp; done) | (go_simp; rfl) | (go_simp; kernel_rfl) | kernel_rfl); intro g6 hg w2 hbox hb; have BK6 := Aside0.mk hbox; have GBK6 := Aside0.mk (show w.heap.size ≤ g6 by rw [hg]; exact HB.out.size); have NBK0BK6 := Aside0.mk (show g0 ≠ g6 by rw [hg]; exact Nat.ne_of_lt (blk_lt BK0.out)); have NBK6BK0 := Aside0.mk (show g6 ≠ g0 by rw [hg]; exact Nat.ne_of_gt (blk_lt BK0.out)); have NBK4BK6 := Aside0.mk (show g4 ≠ g6 by rw [hg]; exact Nat.ne_of_lt (blk_lt BK4.out)); have NBK6BK4 := Aside0.mk (show g6 ≠ g4 by rw [hg]; exact Nat.ne_of_gt (blk_lt BK4.out)); have NOBK6HO := Aside0.mk (show some g6 ≠ (Value.slice (some ad) P21.length co).ownBlock by rw [hg]; exact Kd.R_ne_new HO.out 0); have n0_ := Aside0.mk (below_step HB.out hb); have n1_ := Aside0.mk (blk_below BK0.out hb); have n2_ := Aside0.mk (blk_below BK4.out hb); have n3_ := Aside0.mk (Kd.R_below HO.out hb); clear HB BK0 BK4 HO; have HB := n0_; have BK0 := n1_; have BK4 := n2_; have HO := n3_; clear n0_ n1_ n2_ n3_; clear hbox hb hg) | ((with_reducible refine gate_store (t := 23) (p := 6) (v := .tmp 38) rfl ?_); refine Blk.store_whole rfl rfl 23 (.tmp 6) (.tmp 38) rfl (#[.int .i64 (rd_T23 P21 (i : Int)).f0, .int .i64 (rd_T23 P21 (i : Int)).f1]) rfl rfl rfl (by first | kernel_rfl | (rw [encs16_size]; kernel_rfl)) (by first | exact encs16_one _ | simp [Value.oneCell']) BK6.out (by first | rfl | (rw [encs16_size, encs16_size]; kernel_rfl)) ?_; intro w3 hb3 hg3; have n0_ := Aside0.mk (Blk.below_wrote HB.out hg3 GBK6.out HB.out.size); have n1_ := Aside0.mk (blk_grown BK0.out hg3 (by intro he; injection he with he; exact NBK0BK6.out he)); have n2_ := Aside0.mk (blk_grown BK4.out hg3 (by intro he; injection he with he; exact NBK4BK6.out he)); have n3_ := Aside0.mk (Kd.R_grown1 HO.out rfl hg3 NOBK6HO.out); clear BK6; have BK6 := Aside0.mk hb3; clear HB BK0 BK4 HO; have HB := n0_; have BK0 := n1_; have BK4 := n2_; have HO := n3_; clear n0_ n1_ n2_ n3_; clear hb3 hg3; have hl60 := (blk_cell BK6.out 0).trans rfl; have hl61 := (blk_cell BK6.out 1).trans rfl))
     go_loopg [41] 21 (fun kq v41 w' => ∃ j : Nat, v41 = .int .i64 j ∧ Aside0 (kq + j = 21) ∧ Aside0 (Kd.R k23 23 w' w.heap.size (fun _ => True) (Value.slice (some ad) P21.length co) P21) ∧ Aside0 (w'.heap[g0]? = some (.cells (encs16 (List.replicate 169 0)) 60 (0, 0))) ∧ Aside0 (w'.heap[g4]? = some (.cells (encs16 (tab4 (tab3 i) i j)) 60 (0, 0))) ∧ Aside0 (w'.heap[g6]? = some (.cells (#[.int .i64 (rd_T23 P21 (i : Int)).f0, .int .i64 (rd_T23 P21 (i : Int)).f1]) 23 (0, 0))) ∧ Aside0 (Below w.heap.size w w'))
     case atStart => exact ⟨0, rfl, ⟨rfl⟩, HO, BK0, BK4, BK6, HB⟩
     case round =>
      clear HB HO BK0 BK4 BK6
      obtain ⟨j, rfl, HK4, HO, BK0, BK4, BK6, HB⟩ := hrel
      by_cases hj : j < 21
      ·have HIj := Aside0.mk hj
       have cj : decide ((j : Int) < (P21.length : Int)) = true := decide_eq_true (by rw [P21_len]; omega)
       have ccj : decide (j < P21.length) = true := decide_eq_true (by rw [P21_len]; omega)
       obtain ⟨k4, rfl⟩ : ∃ m, gk = m + 1 := ⟨gk - 1, by have := HK4.out; omega⟩
       have hwj : IntKind.i64.wrap ((j : Int) + 1) = ((j + 1 : Nat) : Int) := i64_succ j (by omega)
       have pj : 0 ≤ (j : Int) := by omega
       have qj : (j : Int) < (P21.length : Int) := by rw [P21_len]; omega
       obtain ⟨adj, ej, hxj0, hxj1⟩ := at_T23 (Kd.R_reads' HO.out).2.2 (j : Int) pj qj
       rw [show adj = ad by injection ej with ej; exact ej.symm] at hxj0 hxj1
       clear ej
       replace pj := eq_true pj
       simp only [Int.toNat_natCast] at hxj0 hxj1
       replace qj := eq_true qj
       clear hj
       go_wp2_with (first | ((with_reducible refine gate_dst (N := 8) rfl ?_); refine box_event ?hg (N := 8) ?hd (cs := #[.int .i64 0, .int .i64 0]) (t := 23) ?hr ?_; (case hd => rfl); (case hg => rfl); (case hr => first | (go_simp; done) | (go_simp; rfl) | (go_simp; kernel_rfl) | kernel_rfl); intro g8 hg w2 hbox hb; have BK8 := Aside0.mk hbox; have GBK8 := Aside0.mk (show w.heap.size ≤ g8 by rw [hg]; exact HB.out.size); have NBK0BK8 := Aside0.mk (show g0 ≠ g8 by rw [hg]; exact Nat.ne_of_lt (blk_lt BK0.out)); have NBK8BK0 := Aside0.mk (show g8 ≠ g0 by rw [hg]; exact Nat.ne_of_gt (blk_lt BK0.out)); have NBK4BK8 := Aside0.mk (show g4 ≠ g8 by rw [hg]; exact Nat.ne_of_lt (blk_lt BK4.out)); have NBK8BK4 := Aside0.mk (show g8 ≠ g4 by rw [hg]; exact Nat.ne_of_gt (blk_lt BK4.out)); have NBK6BK8 := Aside0.mk (show g6 ≠ g8 by rw [hg]; exact Nat.ne_of_lt (blk_lt BK6.out)); have NBK8BK6 := Aside0.mk (show g8 ≠ g6 by rw [hg]; exact Nat.ne_of_gt (blk_lt BK6.out)); have NOBK8HO := Aside0.mk (show some g8 ≠ (Value.slice (some ad) P21.length co).ownBlock by rw [hg]; exact Kd.R_ne_new HO.out 0); have n0_ := Aside0.mk (below_step HB.out hb); have n1_ := Aside0.mk (blk_below BK0.out hb); have n2_ := Aside0.mk (blk_below BK4.out hb); have n3_ := Aside0.mk (blk_below BK6.out hb); have n4_ := Aside0.mk (Kd.R_below HO.out hb); clear HB BK0 BK4 BK6 HO; have HB := n0_; have BK0 := n1_; have BK4 := n2_; have BK6 := n3_; have HO := n4_; clear n0_ n1_ n2_ n3_ n4_; clear hbox hb hg) | ((with_reducible refine gate_store (t := 23) (p := 8) (v := .tmp 44) rfl ?_); refine Blk.store_whole rfl rfl 23 (.tmp 8) (.tmp 44) rfl (#[.int .i64 (rd_T23 P21 (j : Int)).f0, .int .i64 (rd_T23 P21 (j : Int)).f1]) rfl rfl rfl (by first | kernel_rfl | (rw [encs16_size]; kernel_rfl)) (by first | exact encs16_one _ | simp [Value.oneCell']) BK8.out (by first | rfl | (rw [encs16_size, encs16_size]; kernel_rfl)) ?_; intro w3 hb3 hg3; have n0_ := Aside0.mk (Blk.below_wrote HB.out hg3 GBK8.out HB.out.size); have n1_ := Aside0.mk (blk_grown BK0.out hg3 (by intro he; injection he with he; exact NBK0BK8.out he)); have n2_ := Aside0.mk (blk_grown BK4.out hg3 (by intro he; injection he with he; exact NBK4BK8.out he)); have n3_ := Aside0.mk (blk_grown BK6.out hg3 (by intro he; injection he with he; exact NBK6BK8.out he)); have n4_ := Aside0.mk (Kd.R_grown1 HO.out rfl hg3 NOBK8HO.out); clear BK8; have BK8 := Aside0.mk hb3; clear HB BK0 BK4 BK6 HO; have HB := n0_; have BK0 := n1_; have BK4 := n2_; have BK6 := n3_; have HO := n4_; clear n0_ n1_ n2_ n3_ n4_; clear hb3 hg3; have hl60 := (blk_cell BK6.out 0).trans rfl; have hl61 := (blk_cell BK6.out 1).trans rfl; have hl80 := (blk_cell BK8.out 0).trans rfl; have hl81 := (blk_cell BK8.out 1).trans rfl) | (go_at_call 12; (with_reducible refine (allen_Relation.calls 10 _ _ _ _ _ _ _ (r21_rel i j HIi.out HIj.out)).mono ?_); rintro e_ w9 ⟨rfl, hb⟩; have n0_ := Aside0.mk (below_step HB.out hb); have n1_ := Aside0.mk (blk_below BK0.out hb); have n2_ := Aside0.mk (blk_below BK4.out hb); have n3_ := Aside0.mk (blk_below BK6.out hb); have n4_ := Aside0.mk (blk_below BK8.out hb); have n5_ := Aside0.mk (Kd.R_below HO.out hb); clear HB BK0 BK4 BK6 BK8 HO; have HB := n0_; have BK0 := n1_; have BK4 := n2_; have BK6 := n3_; have BK8 := n4_; have HO := n5_; clear n0_ n1_ n2_ n3_ n4_ n5_; clear hb))
       go_loopg [53] 21 (fun kq v53 w' => ∃ m : Nat, v53 = .int .i64 m ∧ Aside0 (kq + m = 21) ∧ Aside0 (Kd.R k23 23 w' w.heap.size (fun _ => True) (Value.slice (some ad) P21.length co) P21) ∧ Aside0 (w'.heap[g0]? = some (.cells (encs16 (List.replicate 169 0)) 60 (0, 0))) ∧ Aside0 (w'.heap[g4]? = some (.cells (encs16 (tab5 (tab4 (tab3 i) i j) i j m)) 60 (0, 0))) ∧ Aside0 (w'.heap[g6]? = some (.cells (#[.int .i64 (rd_T23 P21 (i : Int)).f0, .int .i64 (rd_T23 P21 (i : Int)).f1]) 23 (0, 0))) ∧ Aside0 (w'.heap[g8]? = some (.cells (#[.int .i64 (rd_T23 P21 (j : Int)).f0, .int .i64 (rd_T23 P21 (j : Int)).f1]) 23 (0, 0))) ∧ Aside0 (Below w.heap.size w w'))
       case atStart => exact ⟨0, rfl, ⟨rfl⟩, HO, BK0, BK4, BK6, BK8, HB⟩
       case round =>
        clear HB HO BK0 BK4 BK6 BK8
        obtain ⟨m, rfl, HK5, HO, BK0, BK4, BK6, BK8, HB⟩ := hrel
        by_cases hm : m < 21
        ·have HIm := Aside0.mk hm
         have cm : decide ((m : Int) < (P21.length : Int)) = true := decide_eq_true (by rw [P21_len]; omega)
         have ccm : decide (m < P21.length) = true := decide_eq_true (by rw [P21_len]; omega)
         obtain ⟨k5, rfl⟩ : ∃ m, gk = m + 1 := ⟨gk - 1, by have := HK5.out; omega⟩
         have hwm : IntKind.i64.wrap ((m : Int) + 1) = ((m + 1 : Nat) : Int) := i64_succ m (by omega)
         have pm : 0 ≤ (m : Int) := by omega
         have qm : (m : Int) < (P21.length : Int) := by rw [P21_len]; omega
         obtain ⟨adm, em, hxm0, hxm1⟩ := at_T23 (Kd.R_reads' HO.out).2.2 (m : Int) pm qm
         rw [show adm = ad by injection em with em; exact em.symm] at hxm0 hxm1
         clear em
         replace pm := eq_true pm
         simp only [Int.toNat_natCast] at hxm0 hxm1
         replace qm := eq_true qm
         clear hm
         obtain ⟨cu, hcu⟩ : ∃ cu, cu = tab5 (tab4 (tab3 i) i j) i j m := ⟨_, rfl⟩
         rw [← hcu] at BK4
         have HOK : Aside0 (TabOk cu) := ⟨by rw [hcu]; exact (tab5_ok (tab4_ok (tab3_ok i (by have := HIi.out; omega)).1 (tab3_ok i (by have := HIi.out; omega)).2 i HIi.out j (by have := HIj.out; omega)).1 (tab4_ok (tab3_ok i (by have := HIi.out; omega)).1 (tab3_ok i (by have := HIi.out; omega)).2 i HIi.out j (by have := HIj.out; omega)).2 i j HIi.out HIj.out m (by have := HIm.out; omega)).1⟩
         have HNX := Aside0.mk (show tab5 (tab4 (tab3 i) i j) i j (m + 1) = cu.set (r21 i j * 13 + r21 j m) (cu.getD (r21 i j * 13 + r21 j m) 0 ||| 2 ^ r21 i m) by rw [hcu]; rfl)
         clear hcu
         have HRij := Aside0.mk (r21_lt i j HIi.out HIj.out)
         have HRjm := Aside0.mk (r21_lt j m HIj.out HIm.out)
         have HRim := Aside0.mk (r21_lt i m HIi.out HIm.out)
         have HCELL : Aside0 ((encs16 cu)[r21 i j * 13 + r21 j m]? = some (.int .u16 ((cu.getD (r21 i j * 13 + r21 j m) 0 : Nat) : Int))) := ⟨encs16_get cu _ (by rw [HOK.out.1]; have := HRij.out; have := HRjm.out; omega)⟩
         have HONE := Aside0.mk (one_f (r21 i m) HRim.out)
         have HOR := Aside0.mk (or_f (cu.getD (r21 i j * 13 + r21 j m) 0) (2 ^ r21 i m) (Nat.lt_trans (HOK.out.2 _) (by decide)) (Nat.lt_of_lt_of_le (Nat.pow_lt_pow_right (by decide) HRim.out) (by decide)))
         go_wp2_with (first | ((with_reducible refine gate_dst (N := 12) rfl ?_); refine box_event ?hg (N := 12) ?hd (cs := #[.int .i64 0, .int .i64 0]) (t := 23) ?hr ?_; (case hd => rfl); (case hg => rfl); (case hr => first | (go_simp; done) | (go_simp; rfl) | (go_simp; kernel_rfl) | kernel_rfl); intro g12 hg w2 hbox hb; have BK12 := Aside0.mk hbox; have GBK12 := Aside0.mk (show w.heap.size ≤ g12 by rw [hg]; exact HB.out.size); have NBK0BK12 := Aside0.mk (show g0 ≠ g12 by rw [hg]; exact Nat.ne_of_lt (blk_lt BK0.out)); have NBK12BK0 := Aside0.mk (show g12 ≠ g0 by rw [hg]; exact Nat.ne_of_gt (blk_lt BK0.out)); have NBK4BK12 := Aside0.mk (show g4 ≠ g12 by rw [hg]; exact Nat.ne_of_lt (blk_lt BK4.out)); have NBK12BK4 := Aside0.mk (show g12 ≠ g4 by rw [hg]; exact Nat.ne_of_gt (blk_lt BK4.out)); have NBK6BK12 := Aside0.mk (show g6 ≠ g12 by rw [hg]; exact Nat.ne_of_lt (blk_lt BK6.out)); have NBK12BK6 := Aside0.mk (show g12 ≠ g6 by rw [hg]; exact Nat.ne_of_gt (blk_lt BK6.out)); have NBK8BK12 := Aside0.mk (show g8 ≠ g12 by rw [hg]; exact Nat.ne_of_lt (blk_lt BK8.out)); have NBK12BK8 := Aside0.mk (show g12 ≠ g8 by rw [hg]; exact Nat.ne_of_gt (blk_lt BK8.out)); have NOBK12HO := Aside0.mk (show some g12 ≠ (Value.slice (some ad) P21.length co).ownBlock by rw [hg]; exact Kd.R_ne_new HO.out 0); have n0_ := Aside0.mk (below_step HB.out hb); have n1_ := Aside0.mk (blk_below BK0.out hb); have n2_ := Aside0.mk (blk_below BK4.out hb); have n3_ := Aside0.mk (blk_below BK6.out hb); have n4_ := Aside0.mk (blk_below BK8.out hb); have n5_ := Aside0.mk (Kd.R_below HO.out hb); clear HB BK0 BK4 BK6 BK8 HO; have HB := n0_; have BK0 := n1_; have BK4 := n2_; have BK6 := n3_; have BK8 := n4_; have HO := n5_; clear n0_ n1_ n2_ n3_ n4_ n5_; clear hbox hb hg; have hl80 := (blk_cell BK8.out 0).trans rfl; have hl81 := (blk_cell BK8.out 1).trans rfl) | ((with_reducible refine gate_store (t := 23) (p := 12) (v := .tmp 56) rfl ?_); refine Blk.store_whole rfl rfl 23 (.tmp 12) (.tmp 56) rfl (#[.int .i64 (rd_T23 P21 (m : Int)).f0, .int .i64 (rd_T23 P21 (m : Int)).f1]) rfl rfl rfl (by first | kernel_rfl | (rw [encs16_size]; kernel_rfl)) (by first | exact encs16_one _ | simp [Value.oneCell']) BK12.out (by first | rfl | (rw [encs16_size, encs16_size]; kernel_rfl)) ?_; intro w3 hb3 hg3; have n0_ := Aside0.mk (Blk.below_wrote HB.out hg3 GBK12.out HB.out.size); have n1_ := Aside0.mk (blk_grown BK0.out hg3 (by intro he; injection he with he; exact NBK0BK12.out he)); have n2_ := Aside0.mk (blk_grown BK4.out hg3 (by intro he; injection he with he; exact NBK4BK12.out he)); have n3_ := Aside0.mk (blk_grown BK6.out hg3 (by intro he; injection he with he; exact NBK6BK12.out he)); have n4_ := Aside0.mk (blk_grown BK8.out hg3 (by intro he; injection he with he; exact NBK8BK12.out he)); have n5_ := Aside0.mk (Kd.R_grown1 HO.out rfl hg3 NOBK12HO.out); clear BK12; have BK12 := Aside0.mk hb3; clear HB BK0 BK4 BK6 BK8 HO; have HB := n0_; have BK0 := n1_; have BK4 := n2_; have BK6 := n3_; have BK8 := n4_; have HO := n5_; clear n0_ n1_ n2_ n3_ n4_ n5_; clear hb3 hg3; have hl80 := (blk_cell BK8.out 0).trans rfl; have hl81 := (blk_cell BK8.out 1).trans rfl; have hl120 := (blk_cell BK12.out 0).trans rfl; have hl121 := (blk_cell BK12.out 1).trans rfl) | (go_at_call 12; (with_reducible refine (allen_Relation.calls 10 _ _ _ _ _ _ _ (r21_rel j m HIj.out HIm.out)).mono ?_); rintro e_ w9 ⟨rfl, hb⟩; have n0_ := Aside0.mk (below_step HB.out hb); have n1_ := Aside0.mk (blk_below BK0.out hb); have n2_ := Aside0.mk (blk_below BK4.out hb); have n3_ := Aside0.mk (blk_below BK6.out hb); have n4_ := Aside0.mk (blk_below BK8.out hb); have n5_ := Aside0.mk (blk_below BK12.out hb); have n6_ := Aside0.mk (Kd.R_below HO.out hb); clear HB BK0 BK4 BK6 BK8 BK12 HO; have HB := n0_; have BK0 := n1_; have BK4 := n2_; have BK6 := n3_; have BK8 := n4_; have BK12 := n5_; have HO := n6_; clear n0_ n1_ n2_ n3_ n4_ n5_ n6_; clear hb; have hl60 := (blk_cell BK6.out 0).trans rfl; have hl61 := (blk_cell BK6.out 1).trans rfl; have hl120 := (blk_cell BK12.out 0).trans rfl; have hl121 := (blk_cell BK12.out 1).trans rfl) | (go_at_call 12; (with_reducible refine (allen_Relation.calls 10 _ _ _ _ _ _ _ (r21_rel i m HIi.out HIm.out)).mono ?_); rintro e_ w9 ⟨rfl, hb⟩; have n0_ := Aside0.mk (below_step HB.out hb); have n1_ := Aside0.mk (blk_below BK0.out hb); have n2_ := Aside0.mk (blk_below BK4.out hb); have n3_ := Aside0.mk (blk_below BK6.out hb); have n4_ := Aside0.mk (blk_below BK8.out hb); have n5_ := Aside0.mk (blk_below BK12.out hb); have n6_ := Aside0.mk (Kd.R_below HO.out hb); clear HB BK0 BK4 BK6 BK8 BK12 HO; have HB := n0_; have BK0 := n1_; have BK4 := n2_; have BK6 := n3_; have BK8 := n4_; have BK12 := n5_; have HO := n6_; clear n0_ n1_ n2_ n3_ n4_ n5_ n6_; clear hb; have hl60 := (blk_cell BK6.out 0).trans rfl; have hl61 := (blk_cell BK6.out 1).trans rfl; have hl120 := (blk_cell BK12.out 0).trans rfl; have hl121 := (blk_cell BK12.out 1).trans rfl))
         have pa0 : (0 ≤ (r21 i j : Int)) = True := eq_true (by omega)
         have pa1 : ((r21 i j : Int) < 13) = True := eq_true (by have := HRij.out; omega)
         have pb0 : (0 ≤ (r21 j m : Int)) = True := eq_true (by omega)
         have pb1 : ((r21 j m : Int) < 13) = True := eq_true (by have := HRjm.out; omega)
         have n0_ := Aside0.mk (blk_drew BK0.out)
         have n1_ := Aside0.mk (blk_drew BK4.out)
         have n2_ := Aside0.mk (blk_drew BK6.out)
         have n3_ := Aside0.mk (blk_drew BK8.out)
         have n4_ := Aside0.mk (blk_drew BK12.out)
         have n5_ := Aside0.mk (Kd.R_drew HO.out)
         have n6_ := Aside0.mk (below_drew1 HB.out)
         clear BK0 BK4 BK6 BK8 BK12 HO HB
         have BK0 := n0_
         have BK4 := n1_
         have BK6 := n2_
         have BK8 := n3_
         have BK12 := n4_
         have HO := n5_
         have HB := n6_
         clear n0_ n1_ n2_ n3_ n4_ n5_ n6_
         refine start_ (n := 13) (S := fun w' => w'.cell? ⟨g4, r21 i j * 13 + r21 j m, none⟩ = some (.int .u16 ((cu.getD (r21 i j * 13 + r21 j m) 0 : Nat) : Int))) (ds := [12]) #[false, false, false, false, false, false, false, false, false, false, false, false, false] (by kernel_rfl) rfl rfl ((blk_cell BK4.out _).trans HCELL.out) (fun hHeld => ?_)
         generalize w9.drew = w17 at BK0 BK4 BK6 BK8 BK12 HO HB hHeld ⊢
         refine pure_ (i := 0) (N := some 69) (v := ?_) (a' := ?_) #[true, false, false, false, false, false, false, false, false, false, false, false, false] rfl rfl (by kernel_rfl) (fun _ _ _ h => h) (Or.inl ⟨by rfl, ?_⟩) ?_ ?_
         rotate_left
         ·intro w'
          go_simp
          with_reducible rfl
         rotate_left
         ·simp only [Act.put, List.setIfInBounds_toArray, List.set_cons_zero, List.set_cons_succ, i64_w, i32_w]
          rfl
         refine pure_ (i := 1) (N := some 70) (v := ?_) (a' := ?_) #[true, true, false, false, false, false, false, false, false, false, false, false, false] rfl rfl (by kernel_rfl) (fun _ _ _ h => h) (Or.inl ⟨by rfl, ?_⟩) ?_ ?_
         rotate_left
         ·intro w'
          go_simp
          with_reducible rfl
         rotate_left
         ·simp only [Act.put, List.setIfInBounds_toArray, List.set_cons_zero, List.set_cons_succ, i64_w, i32_w]
          rfl
         refine pure_ (i := 2) (N := some 71) (v := ?_) (a' := ?_) #[true, true, true, false, false, false, false, false, false, false, false, false, false] rfl rfl (by kernel_rfl) (fun _ _ _ h => h) (Or.inl ⟨by rfl, ?_⟩) ?_ ?_
         rotate_left
         ·intro w'
          go_simp
          with_reducible rfl
         rotate_left
         ·simp only [Act.put, List.setIfInBounds_toArray, List.set_cons_zero, List.set_cons_succ, i64_w, i32_w]
          rfl
         refine pure_ (i := 3) (N := some 72) (v := ?_) (a' := ?_) #[true, true, true, true, false, false, false, false, false, false, false, false, false] rfl rfl (by kernel_rfl) (fun _ _ _ h => h) (Or.inl ⟨by rfl, ?_⟩) ?_ ?_
         rotate_left
         ·intro w'
          go_simp
          with_reducible rfl
         rotate_left
         ·simp only [Act.put, List.setIfInBounds_toArray, List.set_cons_zero, List.set_cons_succ, i64_w, i32_w]
          rfl
         refine pure_ (i := 4) (N := some 73) (v := ?_) (a' := ?_) #[true, true, true, true, true, false, false, false, false, false, false, false, false] rfl rfl (by kernel_rfl) (fun _ _ _ h => h) (Or.inl ⟨by rfl, ?_⟩) ?_ ?_
         rotate_left
         ·intro w'
          go_simp
          with_reducible rfl
         rotate_left
         ·simp only [Act.put, List.setIfInBounds_toArray, List.set_cons_zero, List.set_cons_succ, i64_w, i32_w]
          rfl
         refine pure_ (i := 5) (N := some 74) (v := ?_) (a' := ?_) #[true, true, true, true, true, true, false, false, false, false, false, false, false] rfl rfl (by kernel_rfl) (fun _ _ _ h => h) (Or.inl ⟨by rfl, ?_⟩) ?_ ?_
         rotate_left
         ·intro w'
          go_simp
          with_reducible rfl
         rotate_left
         ·simp only [Act.put, List.setIfInBounds_toArray, List.set_cons_zero, List.set_cons_succ, i64_w, i32_w]
          rfl
         refine pure_ (i := 7) (N := some 76) (v := ?_) (a' := ?_) #[true, true, true, true, true, true, false, true, false, false, false, false, false] rfl rfl (by kernel_rfl) (fun _ _ _ h => h) (Or.inl ⟨by rfl, ?_⟩) ?_ ?_
         rotate_left
         ·intro w'
          go_simp
          with_reducible rfl
         rotate_left
         ·simp only [Act.put, List.setIfInBounds_toArray, List.set_cons_zero, List.set_cons_succ, i64_w, i32_w]
          rfl
         refine pure_ (i := 10) (N := some 79) (v := ?_) (a' := ?_) #[true, true, true, true, true, true, false, true, false, false, true, false, false] rfl rfl (by kernel_rfl) (fun _ _ _ h => h) (Or.inl ⟨by rfl, ?_⟩) ?_ ?_
         rotate_left
         ·intro w'
          go_simp
          with_reducible rfl
         rotate_left
         ·simp only [Act.put, List.setIfInBounds_toArray, List.set_cons_zero, List.set_cons_succ, i64_w, i32_w]
          rfl
         refine take_ (i := 6) (N := some 75) (v := ?_) (a' := ?_) #[true, true, true, true, true, true, true, true, false, false, true, false, false] rfl rfl (by kernel_rfl) (fun _ _ _ h => h) (Or.inl ⟨by rfl, ?_⟩) hHeld ?_ ?_
         rotate_left
         ·rintro w' s0
          go_simp
          with_reducible rfl
         rotate_left
         ·simp only [Act.put, List.setIfInBounds_toArray, List.set_cons_zero, List.set_cons_succ, i64_w, i32_w]
          rfl
         refine one_ (i := 8) (N := some 77) #[true, true, true, true, true, true, true, true, true, false, true, false, false] rfl rfl (by kernel_rfl) (by decide) (fun K hK => ?_)
         refine goes_ Try.func47 (by kernel_rfl) rfl #[.int .i64 (r21 i m : Int)] (by rfl) rfl rfl (by (try simp only [List.map_toArray, List.map_cons, List.map_nil]); first | done | rfl) ?_
         with_reducible refine (allen_one.calls _ _ _ HONE.out).mono ?_
         rintro e w9 ⟨rfl, hb⟩
         refine ⟨_, rfl, ?_⟩
         have n0_ := Aside0.mk (below_step HB.out hb)
         have n1_ := Aside0.mk (blk_below BK0.out hb)
         have n2_ := Aside0.mk (blk_below BK4.out hb)
         have n3_ := Aside0.mk (blk_below BK6.out hb)
         have n4_ := Aside0.mk (blk_below BK8.out hb)
         have n5_ := Aside0.mk (blk_below BK12.out hb)
         have n6_ := Aside0.mk (Kd.R_below HO.out hb)
         clear HB BK0 BK4 BK6 BK8 BK12 HO
         have HB := n0_
         have BK0 := n1_
         have BK4 := n2_
         have BK6 := n3_
         have BK8 := n4_
         have BK12 := n5_
         have HO := n6_
         clear n0_ n1_ n2_ n3_ n4_ n5_ n6_
         clear hb
         refine hK.out _ _ ((blk_cell BK4.out _).trans HCELL.out) (fun hHeld => ?_)
         clear hK K
         refine norm_ (a' := ?_) ?_ ?_
         rotate_left
         ·show Act.put _ (some 77) _ = _
          simp only [Act.put, List.setIfInBounds_toArray, List.set_cons_zero, List.set_cons_succ, i64_w, i32_w]
          rfl
         refine one_ (i := 9) (N := some 78) #[true, true, true, true, true, true, true, true, true, true, true, false, false] rfl rfl (by kernel_rfl) (by decide) (fun K hK => ?_)
         refine goes_ Try.func46 (by kernel_rfl) rfl #[.agg #[.int .u16 ((cu.getD (r21 i j * 13 + r21 j m) 0 : Nat) : Int)], .agg #[.int .u16 ((2 ^ r21 i m : Nat) : Int)]] (by rfl) rfl rfl (by (try simp only [List.map_toArray, List.map_cons, List.map_nil]); first | done | rfl) ?_
         with_reducible refine (allen_set_or.calls _ _ _ _ HOR.out).mono ?_
         rintro e w9 ⟨rfl, hb⟩
         refine ⟨_, rfl, ?_⟩
         have n0_ := Aside0.mk (below_step HB.out hb)
         have n1_ := Aside0.mk (blk_below BK0.out hb)
         have n2_ := Aside0.mk (blk_below BK4.out hb)
         have n3_ := Aside0.mk (blk_below BK6.out hb)
         have n4_ := Aside0.mk (blk_below BK8.out hb)
         have n5_ := Aside0.mk (blk_below BK12.out hb)
         have n6_ := Aside0.mk (Kd.R_below HO.out hb)
         clear HB BK0 BK4 BK6 BK8 BK12 HO
         have HB := n0_
         have BK0 := n1_
         have BK4 := n2_
         have BK6 := n3_
         have BK8 := n4_
         have BK12 := n5_
         have HO := n6_
         clear n0_ n1_ n2_ n3_ n4_ n5_ n6_
         clear hb
         refine hK.out _ _ ((blk_cell BK4.out _).trans HCELL.out) (fun hHeld => ?_)
         clear hK K
         refine norm_ (a' := ?_) ?_ ?_
         rotate_left
         ·show Act.put _ (some 78) _ = _
          simp only [Act.put, List.setIfInBounds_toArray, List.set_cons_zero, List.set_cons_succ, i64_w, i32_w]
          rfl
         refine pure_ (i := 11) (N := some 80) (v := ?_) (a' := ?_) #[true, true, true, true, true, true, true, true, true, true, true, true, false] rfl rfl (by kernel_rfl) (fun _ _ _ h => h) (Or.inl ⟨by rfl, ?_⟩) ?_ ?_
         rotate_left
         ·intro w'
          go_simp
          with_reducible rfl
         rotate_left
         ·simp only [Act.put, List.setIfInBounds_toArray, List.set_cons_zero, List.set_cons_succ, i64_w, i32_w]
          rfl
         refine last_ (i := 12) (N := none) #[true, true, true, true, true, true, true, true, true, true, true, true, true] rfl rfl (by kernel_rfl) (by decide) (fun K hK => ?_)
         have hs0 := (blk_cell BK4.out _).trans HCELL.out
         have hf0 := blk_frozen BK4.out (r21 i j * 13 + r21 j m)
         refine skip_ (w1 := ?_) (by rfl) rfl ?_ ?_
         rotate_left
         ·go_simp
          rfl
         refine hK.out _ _ ?_
         clear hK K
         refine done_ (by kernel_rfl) ?_
         go_wp2
         go_roundg k5
         case measure => omega
         case rel => exact ⟨m + 1, rfl, ⟨by have := HK5.out; omega⟩, ⟨Kd.R_mono (Kd.R_far (p := ⟨g4, r21 i j * 13 + r21 j m, none⟩) (Kd.R_far1 HO.out rfl NOBK4HO.out) (fun _ hk => hk.2) _) (fun _ _ => trivial)⟩, ⟨blk_far BK0.out NBK0BK4.out _⟩, ⟨by rw [HNX.out]; exact blk_put (cs := encs16 cu) BK4.out (r21 i j * 13 + r21 j m) _ (encs16_set cu (r21 i j * 13 + r21 j m) _)⟩, ⟨blk_far BK6.out NBK6BK4.out _⟩, ⟨blk_far BK8.out NBK8BK4.out _⟩, ⟨below_set HB.out GBK4.out⟩⟩
        ·have cm : decide ((m : Int) < (P21.length : Int)) = false := decide_eq_false (by rw [P21_len]; omega)
         have ccm : decide (m < P21.length) = false := decide_eq_false (by rw [P21_len]; omega)
         have HEm : Aside0 (m = 21) := ⟨by have := HK5.out; omega⟩
         clear hm
         go_wp2
         go_roundg k4
         case measure => omega
         case rel => exact ⟨j + 1, rfl, ⟨by have := HK4.out; omega⟩, HO, BK0, ⟨by have h0 := BK4.out; rw [HEm.out] at h0; exact h0⟩, BK6, HB⟩
      ·have cj : decide ((j : Int) < (P21.length : Int)) = false := decide_eq_false (by rw [P21_len]; omega)
       have ccj : decide (j < P21.length) = false := decide_eq_false (by rw [P21_len]; omega)
       have HEj : Aside0 (j = 21) := ⟨by have := HK4.out; omega⟩
       clear hj
       go_wp2
       go_roundg k3
       case measure => omega
       case rel => exact ⟨i + 1, rfl, ⟨by have := HK3.out; omega⟩, HO, BK0, ⟨by have h0 := BK4.out; rw [HEj.out] at h0; exact h0⟩, HB⟩
    ·have ci : decide ((i : Int) < (P21.length : Int)) = false := decide_eq_false (by rw [P21_len]; omega)
     have cci : decide (i < P21.length) = false := decide_eq_false (by rw [P21_len]; omega)
     have HEi : Aside0 (i = 21) := ⟨by have := HK3.out; omega⟩
     clear hi
     have HT3 := Aside0.mk (show tab3 i = TAB by rw [HEi.out]; exact tab_all)
     rw [HT3.out] at BK4
     go_wp2_with (first | ((with_reducible refine gate_dst (N := 84) rfl ?_); refine wpList_load_row rfl 60 (.tmp 4) rfl g4 rfl 60 _ (0, 0) _ BK4.out Try.underlying60 rfl (by rw [encs16_size, TAB_len]; kernel_rfl) ?_) | ((with_reducible refine gate_store (t := 60) (p := 0) (v := .tmp 84) rfl ?_); refine Blk.store_whole rfl rfl 60 (.tmp 0) (.tmp 84) rfl (encs16 TAB) rfl rfl rfl (by rw [encs16_size, TAB_len]; kernel_rfl) (encs16_one _) BK0.out (by rw [encs16_size, encs16_size, TAB_len]; rfl) ?_; intro w3 hb3 hg3; have n0_ := Aside0.mk (Blk.below_wrote HB.out hg3 GBK0.out HB.out.size); clear HB BK0; have HB := n0_; have BK0 := Aside0.mk hb3; clear n0_ hb3 hg3))
     refine bodyPost_ret (results_cell_row rfl _ _ g0 60 (encs16 TAB) (0, 0) _ rfl BK0.out Try.underlying60 rfl (by rw [encs16_size, TAB_len]; kernel_rfl)) rfl ?_
     exact ⟨rfl, HB.out⟩
end Go.Proofs.Ytoemcdkopnclbaa.A
