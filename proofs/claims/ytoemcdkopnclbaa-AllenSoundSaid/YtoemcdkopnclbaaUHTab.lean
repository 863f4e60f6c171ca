/-
  allen's table of compositions as a list of numbers, and what (*table).compose answers over it.
-/
import Derived.Test.YtoemcdkopnclbaaUHBits
namespace Go.Proofs.Ytoemcdkopnclbaa.A
open Go.RowKit Go.Proofs.YtoemcdkopnclbaaW.PrintWords Go.Proofs.YtoemcdkopnclbaaW.PrintLast Go.Proofs.YtoemcdkopnclbaaW.PrintMore
attribute [local go_sem] max2_int min2_int max_two min_two max_three min_three max_four min_four
set_option linter.unusedVariables false
set_option linter.unusedSimpArgs false
def TAB : List Nat := [1, 1, 1, 1, 31, 31, 1, 1, 1, 1, 31, 31, 8191, 1, 1, 1, 2, 28, 28, 2, 1, 1, 2, 28, 224, 7936, 1, 1, 7, 4, 28, 28, 4, 7, 391, 388, 2044, 1792, 7936, 1, 1, 7, 8, 16, 16, 8, 7, 391, 584, 1072, 2048, 4096, 1, 1, 31, 16, 16, 16, 16, 31, 8191, 7216, 7216, 4096, 4096, 1, 2, 28, 16, 16, 32, 32, 224, 7936, 7168, 7168, 4096, 4096, 1, 2, 4, 8, 16, 32, 64, 128, 256, 512, 1024, 2048, 4096, 1, 2, 4, 4, 28, 224, 128, 128, 256, 256, 1792, 1792, 7936, 391, 388, 388, 388, 2044, 1792, 256, 256, 256, 256, 1792, 1792, 7936, 391, 388, 388, 584, 1072, 1024, 512, 256, 256, 512, 1024, 2048, 4096, 391, 388, 2044, 1072, 1072, 1024, 1024, 1792, 7936, 7168, 7168, 4096, 4096, 391, 584, 1072, 1072, 1072, 2048, 2048, 2048, 4096, 4096, 4096, 4096, 4096, 8191, 7216, 7216, 7216, 7216, 4096, 4096, 4096, 4096, 4096, 4096, 4096, 4096]
theorem TAB_len : TAB.length = 169 := by decide +kernel
theorem i64_succ (b : Nat) (h : b < 100000) : IntKind.i64.wrap ((b : Int) + 1) = ((b + 1 : Nat) : Int) := by rw [i64_w]; unfold wrap64; omega
def tabAt (a b : Nat) : Nat := TAB.getD (a * 13 + b) 0
theorem tabAt_lt (a b : Nat) : tabAt a b < 8192 := by
 unfold tabAt
 by_cases h : a * 13 + b < 169
 ·have : ∀ q < 169, TAB.getD q 0 < 8192 := by decide +kernel
  exact this _ h
 ·rw [List.getD_eq_getElem?_getD, List.getElem?_eq_none (by rw [TAB_len]; omega)]
  decide
def cp2 (o s t a : Nat) : Nat → Nat
 | 0 => o
 | b + 1 => if s.testBit a = true ∧ t.testBit b = true then cp2 o s t a b ||| tabAt a b else cp2 o s t a b
def cp1 (s t : Nat) : Nat → Nat
 | 0 => 0
 | a + 1 => cp2 (cp1 s t a) s t a 13
def cmpS (s t : Nat) : Nat := cp1 s t 13
theorem cp2_lt (o s t a : Nat) (ho : o < 8192) : ∀ b, cp2 o s t a b < 8192
 | 0 => ho
 | b + 1 => by
  unfold cp2
  split
  ·exact Nat.or_lt_two_pow (n := 13) (cp2_lt o s t a ho b) (tabAt_lt a b)
  ·exact cp2_lt o s t a ho b
theorem cp1_lt (s t : Nat) : ∀ a, cp1 s t a < 8192
 | 0 => by unfold cp1; decide
 | a + 1 => cp2_lt _ s t a (cp1_lt s t a) 13
theorem cmpS_lt (s t : Nat) : cmpS s t < 8192 := cp1_lt s t 13
set_option maxHeartbeats 8000000 in
set_option maxRecDepth 100000 in
theorem allen_compose_calls (g s t : Nat) (hs : s < 65536) (ht : t < 65536) (w : World) (hT : w.heap[g]? = some (.cells (encs16 TAB) 60 (0, 0))) :
  Calls Try.prog 52 #[.pointer (some ⟨g, 0, none⟩), .agg #[.int .u16 (s : Int)], .agg #[.int .u16 (t : Int)]] w fun e w' => e = .returned (.agg #[.int .u16 (cmpS s t : Int)]) ∧ Below w.heap.size w w' := by
 have hu57 := Try.underlying57
 have hu58 := Try.underlying58
 have hu60 := Try.underlying60
 have HB := Aside0.mk (Below.refl w.heap.size w)
 have BKT := Aside0.mk hT
 have HS := Aside0.mk hs
 have HTT := Aside0.mk ht
 clear hT hs ht
 go_enter Try.func52, Try.ntmps52
 go_wp2_with (first | ((with_reducible refine gate_dst (N := 4) rfl ?_); refine box_event ?hg (N := 4) ?hd (cs := #[.int .u16 (s : Int)]) (t := 57) ?hr ?_; (case hd => rfl); (case hg => rfl); (case hr => first | (go_simp; done) | (go_simp; rfl) | (go_simp; kernel_rfl) | kernel_rfl); intro g4 hg w2 hbox hb; have BK4 := Aside0.mk hbox; have GBK4 := Aside0.mk (show w.heap.size ≤ g4 by rw [hg]; exact HB.out.size); have NBKTBK4 := Aside0.mk (show g ≠ g4 by rw [hg]; exact Nat.ne_of_lt (blk_lt BKT.out)); have NBK4BKT := Aside0.mk (show g4 ≠ g by rw [hg]; exact Nat.ne_of_gt (blk_lt BKT.out)); have n0_ := Aside0.mk (below_step HB.out hb); have n1_ := Aside0.mk (blk_below BKT.out hb); clear HB BKT; have HB := n0_; have BKT := n1_; clear n0_ n1_; clear hbox hb hg) | ((with_reducible refine gate_dst (N := 5) rfl ?_); refine box_event ?hg (N := 5) ?hd (cs := #[.int .u16 (t : Int)]) (t := 57) ?hr ?_; (case hd => rfl); (case hg => rfl); (case hr => first | (go_simp; done) | (go_simp; rfl) | (go_simp; kernel_rfl) | kernel_rfl); intro g5 hg w2 hbox hb; have BK5 := Aside0.mk hbox; have GBK5 := Aside0.mk (show w.heap.size ≤ g5 by rw [hg]; exact HB.out.size); have NBKTBK5 := Aside0.mk (show g ≠ g5 by rw [hg]; exact Nat.ne_of_lt (blk_lt BKT.out)); have NBK5BKT := Aside0.mk (show g5 ≠ g by rw [hg]; exact Nat.ne_of_gt (blk_lt BKT.out)); have NBK4BK5 := Aside0.mk (show g4 ≠ g5 by rw [hg]; exact Nat.ne_of_lt (blk_lt BK4.out)); have NBK5BK4 := Aside0.mk (show g5 ≠ g4 by rw [hg]; exact Nat.ne_of_gt (blk_lt BK4.out)); have n0_ := Aside0.mk (below_step HB.out hb); have n1_ := Aside0.mk (blk_below BKT.out hb); have n2_ := Aside0.mk (blk_below BK4.out hb); clear HB BKT BK4; have HB := n0_; have BKT := n1_; have BK4 := n2_; clear n0_ n1_ n2_; clear hbox hb hg) | ((with_reducible refine gate_dst (N := 6) rfl ?_); refine box_event ?hg (N := 6) ?hd (cs := #[.int .u16 0]) (t := 57) ?hr ?_; (case hd => rfl); (case hg => rfl); (case hr => first | (go_simp; done) | (go_simp; rfl) | (go_simp; kernel_rfl) | kernel_rfl); intro g6 hg w2 hbox hb; have BK6 := Aside0.mk hbox; have GBK6 := Aside0.mk (show w.heap.size ≤ g6 by rw [hg]; exact HB.out.size); have NBKTBK6 := Aside0.mk (show g ≠ g6 by rw [hg]; exact Nat.ne_of_lt (blk_lt BKT.out)); have NBK6BKT := Aside0.mk (show g6 ≠ g by rw [hg]; exact Nat.ne_of_gt (blk_lt BKT.out)); have NBK4BK6 := Aside0.mk (show g4 ≠ g6 by rw [hg]; exact Nat.ne_of_lt (blk_lt BK4.out)); have NBK6BK4 := Aside0.mk (show g6 ≠ g4 by rw [hg]; exact Nat.ne_of_gt (blk_lt BK4.out)); have NBK5BK6 := Aside0.mk (show g5 ≠ g6 by rw [hg]; exact Nat.ne_of_lt (blk_lt BK5.out)); have NBK6BK5 := Aside0.mk (show g6 ≠ g5 by rw [hg]; exact Nat.ne_of_gt (blk_lt BK5.out)); have n0_ := Aside0.mk (below_step HB.out hb); have n1_ := Aside0.mk (blk_below BKT.out hb); have n2_ := Aside0.mk (blk_below BK4.out hb); have n3_ := Aside0.mk (blk_below BK5.out hb); clear HB BKT BK4 BK5; have HB := n0_; have BKT := n1_; have BK4 := n2_; have BK5 := n3_; clear n0_ n1_ n2_ n3_; clear hbox hb hg) | ((with_reducible refine gate_dst (N := 7) rfl ?_); refine box_event ?hg (N := 7) ?hd (cs := #[.int .u16 0]) (t := 57) ?hr ?_; (case hd => rfl); (case hg => rfl); (case hr => first | (go_simp; done) | (go_simp; rfl) | (go_simp; kernel_rfl) | kernel_rfl); intro g7 hg w2 hbox hb; have BK7 := Aside0.mk hbox; have GBK7 := Aside0.mk (show w.heap.size ≤ g7 by rw [hg]; exact HB.out.size); have NBKTBK7 := Aside0.mk (show g ≠ g7 by rw [hg]; exact Nat.ne_of_lt (blk_lt BKT.out)); have NBK7BKT := Aside0.mk (show g7 ≠ g by rw [hg]; exact Nat.ne_of_gt (blk_lt BKT.out)); have NBK4BK7 := Aside0.mk (show g4 ≠ g7 by rw [hg]; exact Nat.ne_of_lt (blk_lt BK4.out)); have NBK7BK4 := Aside0.mk (show g7 ≠ g4 by rw [hg]; exact Nat.ne_of_gt (blk_lt BK4.out)); have NBK5BK7 := Aside0.mk (show g5 ≠ g7 by rw [hg]; exact Nat.ne_of_lt (blk_lt BK5.out)); have NBK7BK5 := Aside0.mk (show g7 ≠ g5 by rw [hg]; exact Nat.ne_of_gt (blk_lt BK5.out)); have NBK6BK7 := Aside0.mk (show g6 ≠ g7 by rw [hg]; exact Nat.ne_of_lt (blk_lt BK6.out)); have NBK7BK6 := Aside0.mk (show g7 ≠ g6 by rw [hg]; exact Nat.ne_of_gt (blk_lt BK6.out)); have n0_ := Aside0.mk (below_step HB.out hb); have n1_ := Aside0.mk (blk_below BKT.out hb); have n2_ := Aside0.mk (blk_below BK4.out hb); have n3_ := Aside0.mk (blk_below BK5.out hb); have n4_ := Aside0.mk (blk_below BK6.out hb); clear HB BKT BK4 BK5 BK6; have HB := n0_; have BKT := n1_; have BK4 := n2_; have BK5 := n3_; have BK6 := n4_; clear n0_ n1_ n2_ n3_ n4_; clear hbox hb hg))
 go_loopg [10] 13 (fun kq v10 w' => ∃ a : Nat, v10 = .int .i64 a ∧ Aside0 (kq + a = 13) ∧ Aside0 (w'.heap[g]? = some (.cells (encs16 TAB) 60 (0, 0))) ∧ Aside0 (w'.heap[g4]? = some (.cells #[.int .u16 (s : Int)] 57 (0, 0))) ∧ Aside0 (w'.heap[g5]? = some (.cells #[.int .u16 (t : Int)] 57 (0, 0))) ∧ Aside0 (w'.heap[g6]? = some (.cells #[.int .u16 0] 57 (0, 0))) ∧ Aside0 (w'.heap[g7]? = some (.cells #[.int .u16 (cp1 s t a : Int)] 57 (0, 0))) ∧ Aside0 (Below w.heap.size w w'))
 case atStart => exact ⟨0, rfl, ⟨rfl⟩, BKT, BK4, BK5, BK6, BK7, HB⟩
 case round =>
  clear HB BKT BK4 BK5 BK6 BK7
  obtain ⟨a, rfl, HK, BKT, BK4, BK5, BK6, BK7, HB⟩ := hrel
  by_cases ha : a < 13
  ·have HA := Aside0.mk ha
   have c1b0 : decide ((a : Int) < 13) = true := decide_eq_true (by omega)
   obtain ⟨k1, rfl⟩ : ∃ m, gk = m + 1 := ⟨gk - 1, by have := HK.out; omega⟩
   clear ha
   go_wp2
   go_loopg [13] 13 (fun kq v13 w' => ∃ b : Nat, v13 = .int .i64 b ∧ Aside0 (kq + b = 13) ∧ Aside0 (w'.heap[g]? = some (.cells (encs16 TAB) 60 (0, 0))) ∧ Aside0 (w'.heap[g4]? = some (.cells #[.int .u16 (s : Int)] 57 (0, 0))) ∧ Aside0 (w'.heap[g5]? = some (.cells #[.int .u16 (t : Int)] 57 (0, 0))) ∧ Aside0 (w'.heap[g6]? = some (.cells #[.int .u16 0] 57 (0, 0))) ∧ Aside0 (w'.heap[g7]? = some (.cells #[.int .u16 (cp2 (cp1 s t a) s t a b : Int)] 57 (0, 0))) ∧ Aside0 (Below w.heap.size w w'))
   case atStart => exact ⟨0, rfl, ⟨rfl⟩, BKT, BK4, BK5, BK6, BK7, HB⟩
   case round =>
    clear HB BKT BK4 BK5 BK6 BK7
    obtain ⟨b, rfl, HK2, BKT, BK4, BK5, BK6, BK7, HB⟩ := hrel
    by_cases hb : b < 13
    ·have HBB := Aside0.mk hb
     have c2b0 : decide ((b : Int) < 13) = true := decide_eq_true (by omega)
     obtain ⟨k2, rfl⟩ : ∃ m, gk = m + 1 := ⟨gk - 1, by have := HK2.out; omega⟩
     have hw : IntKind.i64.wrap ((b : Int) + 1) = ((b + 1 : Nat) : Int) := i64_succ b (by omega)
     clear hb
     have HH1 := Aside0.mk (has_f s a HS.out HA.out)
     have HH2 := Aside0.mk (has_f t b HTT.out HBB.out)
     have HOV : Aside0 (cp2 (cp1 s t a) s t a b < 65536) := ⟨Nat.lt_trans (cp2_lt _ s t a (cp1_lt s t a) b) (by decide)⟩
     have HTV : Aside0 (tabAt a b < 65536) := ⟨Nat.lt_trans (tabAt_lt a b) (by decide)⟩
     have HOR := Aside0.mk (or_f _ _ HOV.out HTV.out)
     have hcz4 : wr.cell? ⟨g4, 0, none⟩ = some (.int .u16 (s : Int)) := (blk_cell BK4.out 0).trans rfl
     have hcz5 : wr.cell? ⟨g5, 0, none⟩ = some (.int .u16 (t : Int)) := (blk_cell BK5.out 0).trans rfl
     cases hsa : s.testBit a with
     | true =>
      rw [hsa] at HH1
      cases htb : t.testBit b with
      | true =>
       rw [htb] at HH2
       have HC := Aside0.mk (show cp2 (cp1 s t a) s t a (b + 1) = cp2 (cp1 s t a) s t a b ||| tabAt a b by rw [cp2, if_pos ⟨hsa, htb⟩])
       clear hsa htb
       go_wp2_with (first | (go_at_call 43; (with_reducible refine (allen_set_has.calls _ _ true _ HH1.out).mono ?_); rintro e_ w9 ⟨rfl, hb⟩; have n0_ := Aside0.mk (below_step HB.out hb); have n1_ := Aside0.mk (blk_below BKT.out hb); have n2_ := Aside0.mk (blk_below BK4.out hb); have n3_ := Aside0.mk (blk_below BK5.out hb); have n4_ := Aside0.mk (blk_below BK6.out hb); have n5_ := Aside0.mk (blk_below BK7.out hb); clear HB BKT BK4 BK5 BK6 BK7; have HB := n0_; have BKT := n1_; have BK4 := n2_; have BK5 := n3_; have BK6 := n4_; have BK7 := n5_; clear n0_ n1_ n2_ n3_ n4_ n5_; clear hb; have hcz5 := (blk_cell BK5.out 0).trans rfl) | (go_at_call 43; (with_reducible refine (allen_set_has.calls _ _ true _ HH2.out).mono ?_); rintro e_ w9 ⟨rfl, hb⟩; have n0_ := Aside0.mk (below_step HB.out hb); have n1_ := Aside0.mk (blk_below BKT.out hb); have n2_ := Aside0.mk (blk_below BK4.out hb); have n3_ := Aside0.mk (blk_below BK5.out hb); have n4_ := Aside0.mk (blk_below BK6.out hb); have n5_ := Aside0.mk (blk_below BK7.out hb); clear HB BKT BK4 BK5 BK6 BK7; have HB := n0_; have BKT := n1_; have BK4 := n2_; have BK5 := n3_; have BK6 := n4_; have BK7 := n5_; clear n0_ n1_ n2_ n3_ n4_ n5_; clear hb))
       clear hcz4 hcz5
       have n0_ := Aside0.mk (blk_drew BKT.out)
       have n1_ := Aside0.mk (blk_drew BK4.out)
       have n2_ := Aside0.mk (blk_drew BK5.out)
       have n3_ := Aside0.mk (blk_drew BK6.out)
       have n4_ := Aside0.mk (blk_drew BK7.out)
       have n9_ := Aside0.mk (below_drew1 HB.out)
       clear HB BKT BK4 BK5 BK6 BK7
       have BKT := n0_
       have BK4 := n1_
       have BK5 := n2_
       have BK6 := n3_
       have BK7 := n4_
       have HB := n9_
       clear n0_ n1_ n2_ n3_ n4_ n9_
       have p0 : (0 ≤ (a : Int)) = True := eq_true (by omega)
       have p1 : ((a : Int) < 13) = True := eq_true (by have := HA.out; omega)
       have p2 : (0 ≤ (b : Int)) = True := eq_true (by omega)
       have p3 : ((b : Int) < 13) = True := eq_true (by have := HBB.out; omega)
       have HTG : Aside0 ((encs16 TAB)[a * 13 + b]? = some (.int .u16 (tabAt a b : Int))) := ⟨by rw [encs16_get TAB _ (by rw [TAB_len]; have := HA.out; have := HBB.out; omega)]; rfl⟩
       refine start_ (n := 10) (S := fun w' => w'.cell? ⟨g7, 0, none⟩ = some (.int .u16 (cp2 (cp1 s t a) s t a b : Int)) ∧ w'.cell? ⟨g, a * 13 + b, none⟩ = some (.int .u16 (tabAt a b : Int))) (ds := [9]) #[false, false, false, false, false, false, false, false, false, false] (by kernel_rfl) rfl rfl ⟨(blk_cell BK7.out 0).trans rfl, (blk_cell BKT.out (a * 13 + b)).trans HTG.out⟩ (fun hHeld => ?_)
       generalize w9.drew = w17 at BKT BK4 BK5 BK6 BK7 HB hHeld ⊢
       refine pure_ (i := 1) (N := some 25) (v := ?_) (a' := ?_) #[false, true, false, false, false, false, false, false, false, false] rfl rfl (by kernel_rfl) (fun _ _ _ h => h) (Or.inl ⟨by rfl, ?_⟩) ?_ ?_
       rotate_left
       ·intro w'
        go_simp
        with_reducible rfl
       rotate_left
       ·simp only [Act.put, List.setIfInBounds_toArray, List.set_cons_zero, List.set_cons_succ, i64_w, i32_w]
        rfl
       refine pure_ (i := 2) (N := some 26) (v := ?_) (a' := ?_) #[false, true, true, false, false, false, false, false, false, false] rfl rfl (by kernel_rfl) (fun _ _ _ h => h) (Or.inl ⟨by rfl, ?_⟩) ?_ ?_
       rotate_left
       ·intro w'
        go_simp
        with_reducible rfl
       rotate_left
       ·simp only [Act.put, List.setIfInBounds_toArray, List.set_cons_zero, List.set_cons_succ, i64_w, i32_w]
        rfl
       refine pure_ (i := 3) (N := some 27) (v := ?_) (a' := ?_) #[false, true, true, true, false, false, false, false, false, false] rfl rfl (by kernel_rfl) (fun _ _ _ h => h) (Or.inl ⟨by rfl, ?_⟩) ?_ ?_
       rotate_left
       ·intro w'
        go_simp
        with_reducible rfl
       rotate_left
       ·simp only [Act.put, List.setIfInBounds_toArray, List.set_cons_zero, List.set_cons_succ, i64_w, i32_w]
        rfl
       refine pure_ (i := 4) (N := some 28) (v := ?_) (a' := ?_) #[false, true, true, true, true, false, false, false, false, false] rfl rfl (by kernel_rfl) (fun _ _ _ h => h) (Or.inl ⟨by rfl, ?_⟩) ?_ ?_
       rotate_left
       ·intro w'
        go_simp
        with_reducible rfl
       rotate_left
       ·simp only [Act.put, List.setIfInBounds_toArray, List.set_cons_zero, List.set_cons_succ, i64_w, i32_w]
        rfl
       refine pure_ (i := 5) (N := some 29) (v := ?_) (a' := ?_) #[false, true, true, true, true, true, false, false, false, false] rfl rfl (by kernel_rfl) (fun _ _ _ h => h) (Or.inl ⟨by rfl, ?_⟩) ?_ ?_
       rotate_left
       ·intro w'
        go_simp
        with_reducible rfl
       rotate_left
       ·simp only [Act.put, List.setIfInBounds_toArray, List.set_cons_zero, List.set_cons_succ, i64_w, i32_w]
        rfl
       refine pure_ (i := 6) (N := some 30) (v := ?_) (a' := ?_) #[false, true, true, true, true, true, true, false, false, false] rfl rfl (by kernel_rfl) (fun _ _ _ h => h) (Or.inl ⟨by rfl, ?_⟩) ?_ ?_
       rotate_left
       ·intro w'
        go_simp
        with_reducible rfl
       rotate_left
       ·simp only [Act.put, List.setIfInBounds_toArray, List.set_cons_zero, List.set_cons_succ, i64_w, i32_w]
        rfl
       refine take_ (i := 0) (N := some 24) (v := ?_) (a' := ?_) #[true, true, true, true, true, true, true, false, false, false] rfl rfl (by kernel_rfl) (fun _ _ _ h => h) (Or.inl ⟨by rfl, ?_⟩) hHeld ?_ ?_
       rotate_left
       ·rintro w' ⟨s0, s1⟩
        go_simp
        with_reducible rfl
       rotate_left
       ·simp only [Act.put, List.setIfInBounds_toArray, List.set_cons_zero, List.set_cons_succ, i64_w, i32_w]
        rfl
       refine take_ (i := 7) (N := some 31) (v := ?_) (a' := ?_) #[true, true, true, true, true, true, true, true, false, false] rfl rfl (by kernel_rfl) (fun _ _ _ h => h) (Or.inl ⟨by rfl, ?_⟩) hHeld ?_ ?_
       rotate_left
       ·rintro w' ⟨s0, s1⟩
        go_simp
        with_reducible rfl
       rotate_left
       ·simp only [Act.put, List.setIfInBounds_toArray, List.set_cons_zero, List.set_cons_succ, i64_w, i32_w]
        rfl
       refine one_ (i := 8) (N := some 32) #[true, true, true, true, true, true, true, true, true, false] rfl rfl (by kernel_rfl) (by decide) (fun K hK => ?_)
       refine goes_ Try.func46 (by kernel_rfl) rfl #[.agg #[.int .u16 (cp2 (cp1 s t a) s t a b : Int)], .agg #[.int .u16 (tabAt a b : Int)]] (by rfl) rfl rfl (by (try simp only [List.map_toArray, List.map_cons, List.map_nil]); first | done | rfl) ?_
       with_reducible refine (allen_set_or.calls _ _ _ _ HOR.out).mono ?_
       rintro e w9 ⟨rfl, hb⟩
       refine ⟨_, rfl, ?_⟩
       have n0_ := Aside0.mk (below_step HB.out hb)
       have n1_ := Aside0.mk (blk_below BKT.out hb)
       have n2_ := Aside0.mk (blk_below BK4.out hb)
       have n3_ := Aside0.mk (blk_below BK5.out hb)
       have n4_ := Aside0.mk (blk_below BK6.out hb)
       have n5_ := Aside0.mk (blk_below BK7.out hb)
       clear HB BKT BK4 BK5 BK6 BK7
       have HB := n0_
       have BKT := n1_
       have BK4 := n2_
       have BK5 := n3_
       have BK6 := n4_
       have BK7 := n5_
       clear n0_ n1_ n2_ n3_ n4_ n5_
       clear hb
       refine hK.out _ _ ⟨(blk_cell BK7.out 0).trans rfl, (blk_cell BKT.out (a * 13 + b)).trans HTG.out⟩ (fun hHeld => ?_)
       clear hK K
       refine norm_ (a' := ?_) ?_ ?_
       rotate_left
       ·show Act.put _ (some 32) _ = _
        simp only [Act.put, List.setIfInBounds_toArray, List.set_cons_zero, List.set_cons_succ, i64_w, i32_w]
        rfl
       refine last_ (i := 9) (N := none) #[true, true, true, true, true, true, true, true, true, true] rfl rfl (by kernel_rfl) (by decide) (fun K hK => ?_)
       have hs0 : w9.cell? ⟨g7, 0, none⟩ = some (.int .u16 (cp2 (cp1 s t a) s t a b : Int)) := (blk_cell BK7.out 0).trans rfl
       have hf0 := blk_frozen BK7.out 0
       refine skip_ (w1 := ?_) (by rfl) rfl ?_ ?_
       rotate_left
       ·go_simp
        rfl
       refine hK.out _ _ ?_
       clear hK K
       refine done_ (by kernel_rfl) ?_
       go_wp2
       go_roundg k2
       case measure => omega
       case rel => exact ⟨b + 1, rfl, ⟨by have := HK2.out; omega⟩, ⟨blk_far BKT.out NBKTBK7.out _⟩, ⟨blk_far BK4.out NBK4BK7.out _⟩, ⟨blk_far BK5.out NBK5BK7.out _⟩, ⟨blk_far BK6.out NBK6BK7.out _⟩, ⟨by rw [HC.out]; exact blk_put (cs := #[.int .u16 (cp2 (cp1 s t a) s t a b : Int)]) BK7.out 0 _ rfl⟩, ⟨below_set HB.out GBK7.out⟩⟩
      | false =>
       rw [htb] at HH2
       have HC := Aside0.mk (show cp2 (cp1 s t a) s t a (b + 1) = cp2 (cp1 s t a) s t a b by rw [cp2, if_neg (by rw [htb]; simp)])
       clear hsa htb
       go_wp2_with (first | (go_at_call 43; (with_reducible refine (allen_set_has.calls _ _ true _ HH1.out).mono ?_); rintro e_ w9 ⟨rfl, hb⟩; have n0_ := Aside0.mk (below_step HB.out hb); have n1_ := Aside0.mk (blk_below BKT.out hb); have n2_ := Aside0.mk (blk_below BK4.out hb); have n3_ := Aside0.mk (blk_below BK5.out hb); have n4_ := Aside0.mk (blk_below BK6.out hb); have n5_ := Aside0.mk (blk_below BK7.out hb); clear HB BKT BK4 BK5 BK6 BK7; have HB := n0_; have BKT := n1_; have BK4 := n2_; have BK5 := n3_; have BK6 := n4_; have BK7 := n5_; clear n0_ n1_ n2_ n3_ n4_ n5_; clear hb; have hcz5 := (blk_cell BK5.out 0).trans rfl) | (go_at_call 43; (with_reducible refine (allen_set_has.calls _ _ false _ HH2.out).mono ?_); rintro e_ w9 ⟨rfl, hb⟩; have n0_ := Aside0.mk (below_step HB.out hb); have n1_ := Aside0.mk (blk_below BKT.out hb); have n2_ := Aside0.mk (blk_below BK4.out hb); have n3_ := Aside0.mk (blk_below BK5.out hb); have n4_ := Aside0.mk (blk_below BK6.out hb); have n5_ := Aside0.mk (blk_below BK7.out hb); clear HB BKT BK4 BK5 BK6 BK7; have HB := n0_; have BKT := n1_; have BK4 := n2_; have BK5 := n3_; have BK6 := n4_; have BK7 := n5_; clear n0_ n1_ n2_ n3_ n4_ n5_; clear hb))
       go_roundg k2
       case measure => omega
       case rel => exact ⟨b + 1, rfl, ⟨by have := HK2.out; omega⟩, BKT, BK4, BK5, BK6, by rw [HC.out]; exact BK7, HB⟩
     | false =>
      rw [hsa] at HH1
      have HC := Aside0.mk (show cp2 (cp1 s t a) s t a (b + 1) = cp2 (cp1 s t a) s t a b by rw [cp2, if_neg (by rw [hsa]; simp)])
      clear hsa
      go_wp2_with (first | (go_at_call 43; (with_reducible refine (allen_set_has.calls _ _ false _ HH1.out).mono ?_); rintro e_ w9 ⟨rfl, hb⟩; have n0_ := Aside0.mk (below_step HB.out hb); have n1_ := Aside0.mk (blk_below BKT.out hb); have n2_ := Aside0.mk (blk_below BK4.out hb); have n3_ := Aside0.mk (blk_below BK5.out hb); have n4_ := Aside0.mk (blk_below BK6.out hb); have n5_ := Aside0.mk (blk_below BK7.out hb); clear HB BKT BK4 BK5 BK6 BK7; have HB := n0_; have BKT := n1_; have BK4 := n2_; have BK5 := n3_; have BK6 := n4_; have BK7 := n5_; clear n0_ n1_ n2_ n3_ n4_ n5_; clear hb; have hcz5 := (blk_cell BK5.out 0).trans rfl))
      go_roundg k2
      case measure => omega
      case rel => exact ⟨b + 1, rfl, ⟨by have := HK2.out; omega⟩, BKT, BK4, BK5, BK6, by rw [HC.out]; exact BK7, HB⟩
    ·have c2b0 : decide ((b : Int) < 13) = false := decide_eq_false (by omega)
     obtain rfl : b = 13 := by have := HK2.out; omega
     clear hb
     have hw : IntKind.i64.wrap ((a : Int) + 1) = ((a + 1 : Nat) : Int) := i64_succ a (by have := HA.out; omega)
     go_wp2
     go_roundg k1
     case measure => omega
     case rel => exact ⟨a + 1, rfl, ⟨by have := HK.out; omega⟩, BKT, BK4, BK5, BK6, BK7, HB⟩
  ·have c1b0 : decide ((a : Int) < 13) = false := decide_eq_false (by omega)
   obtain rfl : a = 13 := by have := HK.out; omega
   clear ha
   have hcz7 : wr.cell? ⟨g7, 0, none⟩ = some (.int .u16 (cp1 s t 13 : Int)) := (blk_cell BK7.out 0).trans rfl
   have hcz6 : wr.cell? ⟨g6, 0, none⟩ = some (.int .u16 0) := (blk_cell BK6.out 0).trans rfl
   have hfz6 := blk_frozen BK6.out 0
   have hn1 := NBK6BK7.out
   have hn2 := NBK7BK6.out
   go_wp2
   refine bodyPost_ret (results_cell_row rfl _ _ g6 57 #[.int .u16 (cp1 s t 13 : Int)] (0, 0) _ rfl (by refine blk_put (cs := #[.int .u16 0]) ?_ 0 _ rfl; exact BK6.out) Try.underlying57 rfl (by kernel_rfl)) rfl ?_
   exact ⟨rfl, below_set HB.out GBK6.out⟩
end Go.Proofs.Ytoemcdkopnclbaa.A
