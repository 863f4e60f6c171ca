/-
  What allen's 'narrowed' answers over a network of sets, as a list of 64 numbers.
-/
import Derived.Test.YtoemcdkopnclbaaUHTab
namespace Go.Proofs.Ytoemcdkopnclbaa.A
open Go.RowKit Go.Proofs.YtoemcdkopnclbaaW.PrintWords Go.Proofs.YtoemcdkopnclbaaW.PrintLast Go.Proofs.YtoemcdkopnclbaaW.PrintMore
attribute [local go_sem] max2_int min2_int max_two min_two max_three min_three max_four min_four
set_option linter.unusedVariables false
set_option linter.unusedSimpArgs false
def NetOk (w : List Nat) : Prop := w.length = 64 ∧ ∀ q, w.getD q 0 < 8192
def netAt (w : List Nat) (i j : Nat) : Nat := w.getD (i * 8 + j) 0
def netSet (w : List Nat) (i j v : Nat) : List Nat := w.set (i * 8 + j) v
theorem NetOk.at {w : List Nat} (h : NetOk w) (i j : Nat) : netAt w i j < 8192 := h.2 _
theorem NetOk.set {w : List Nat} (h : NetOk w) (i j : Nat) {v : Nat} (hv : v < 8192) : NetOk (netSet w i j v) := by
 refine ⟨by rw [netSet, List.length_set]; exact h.1, fun q => ?_⟩
 unfold netSet
 rw [List.getD_eq_getElem?_getD, List.getElem?_set]
 split
 ·split
  ·exact hv
  ·decide
 ·have := h.2 q
  rwa [List.getD_eq_getElem?_getD] at this
def nstep (k i j : Nat) (w : List Nat) : List Nat := netSet w i j (netAt w i j &&& cmpS (netAt w i k) (netAt w k j))
def nw3 (w : List Nat) (k i : Nat) : Nat → List Nat
 | 0 => w
 | j + 1 => nstep k i j (nw3 w k i j)
def nw2 (w : List Nat) (n k : Nat) : Nat → List Nat
 | 0 => w
 | i + 1 => nw3 (nw2 w n k i) k i n
def nw1 (w : List Nat) (n : Nat) : Nat → List Nat
 | 0 => w
 | k + 1 => nw2 (nw1 w n k) n k n
def nwF (w : List Nat) (n : Nat) : List Nat := nw1 w n n
theorem nstep_ok {w : List Nat} (h : NetOk w) (k i j : Nat) : NetOk (nstep k i j w) := h.set i j (Nat.lt_of_le_of_lt Nat.and_le_left (h.at i j))
theorem nw3_ok {w : List Nat} (h : NetOk w) (k i : Nat) : ∀ j, NetOk (nw3 w k i j)
 | 0 => h
 | j + 1 => nstep_ok (nw3_ok h k i j) k i j
theorem nw2_ok {w : List Nat} (h : NetOk w) (n k : Nat) : ∀ i, NetOk (nw2 w n k i)
 | 0 => h
 | i + 1 => nw3_ok (nw2_ok h n k i) k i n
theorem nw1_ok {w : List Nat} (h : NetOk w) (n : Nat) : ∀ k, NetOk (nw1 w n k)
 | 0 => h
 | k + 1 => nw2_ok (nw1_ok h n k) n k n
theorem nwF_ok {w : List Nat} (h : NetOk w) (n : Nat) : NetOk (nwF w n) := nw1_ok h n n
theorem encs16_net {w : List Nat} (h : NetOk w) (i j : Nat) (hi : i < 8) (hj : j < 8) : (encs16 w)[i * 8 + j]? = some (.int .u16 (netAt w i j : Int)) := by
 rw [encs16_get w _ (by rw [h.1]; omega)]
 rfl
set_option maxHeartbeats 8000000 in
set_option maxRecDepth 100000 in
theorem allen_narrowed_calls (g n : Nat) (xs : List Nat) (hn : n ≤ 8) (hx : NetOk xs) (w : World) (hT : w.heap[g]? = some (.cells (encs16 TAB) 60 (0, 0))) :
  Calls Try.prog 38 #[.agg (encs16 xs), .int .i64 (n : Int), .pointer (some ⟨g, 0, none⟩)] w fun e w' => e = .returned (.agg (encs16 (nwF xs n))) ∧ Below w.heap.size w w' := by
 have hu57 := Try.underlying57
 have hu65 := Try.underlying65
 have hu67 := Try.underlying67
 have HB := Aside0.mk (Below.refl w.heap.size w)
 have BKT := Aside0.mk hT
 have HN := Aside0.mk hn
 have HX := Aside0.mk hx
 have HSZ := Aside0.mk (show (encs16 xs).size = 64 by rw [encs16_size]; exact hx.1)
 clear hT hn hx
 go_enter Try.func38, Try.ntmps38
 go_wp2_with (first | ((with_reducible refine gate_dst (N := 3) rfl ?_); refine box_event ?hg (N := 3) ?hd (cs := encs16 xs) (t := 67) ?hr ?_; (case hd => rfl); (case hg => rfl); (case hr => first | (go_simp; done) | (go_simp; rfl) | (go_simp; kernel_rfl) | kernel_rfl); intro g3 hg w2 hbox hb; have BK3 := Aside0.mk hbox; have GBK3 := Aside0.mk (show w.heap.size ≤ g3 by rw [hg]; exact HB.out.size); have NBKTBK3 := Aside0.mk (show g ≠ g3 by rw [hg]; exact Nat.ne_of_lt (blk_lt BKT.out)); have NBK3BKT := Aside0.mk (show g3 ≠ g by rw [hg]; exact Nat.ne_of_gt (blk_lt BKT.out)); have n0_ := Aside0.mk (below_step HB.out hb); have n1_ := Aside0.mk (blk_below BKT.out hb); clear HB BKT; have HB := n0_; have BKT := n1_; clear n0_ n1_; clear hbox hb hg) | ((with_reducible refine gate_dst (N := 6) rfl ?_); refine box_event ?hg (N := 6) ?hd (cs := encs16 (List.replicate 64 0)) (t := 67) ?hr ?_; (case hd => rfl); (case hg => rfl); (case hr => first | (go_simp; done) | (go_simp; rfl) | (go_simp; kernel_rfl) | kernel_rfl); intro g6 hg w2 hbox hb; have BK6 := Aside0.mk hbox; have GBK6 := Aside0.mk (show w.heap.size ≤ g6 by rw [hg]; exact HB.out.size); have NBKTBK6 := Aside0.mk (show g ≠ g6 by rw [hg]; exact Nat.ne_of_lt (blk_lt BKT.out)); have NBK6BKT := Aside0.mk (show g6 ≠ g by rw [hg]; exact Nat.ne_of_gt (blk_lt BKT.out)); have NBK3BK6 := Aside0.mk (show g3 ≠ g6 by rw [hg]; exact Nat.ne_of_lt (blk_lt BK3.out)); have NBK6BK3 := Aside0.mk (show g6 ≠ g3 by rw [hg]; exact Nat.ne_of_gt (blk_lt BK3.out)); have n0_ := Aside0.mk (below_step HB.out hb); have n1_ := Aside0.mk (blk_below BKT.out hb); have n2_ := Aside0.mk (blk_below BK3.out hb); clear HB BKT BK3; have HB := n0_; have BKT := n1_; have BK3 := n2_; clear n0_ n1_ n2_; clear hbox hb hg))
 go_loopg [11] n (fun kq v11 w' => ∃ k : Nat, v11 = .int .i64 k ∧ Aside0 (kq + k = n) ∧ Aside0 (w'.heap[g]? = some (.cells (encs16 TAB) 60 (0, 0))) ∧ Aside0 (w'.heap[g3]? = some (.cells (encs16 (nw1 xs n k)) 67 (0, 0))) ∧ Aside0 (w'.heap[g6]? = some (.cells (encs16 (List.replicate 64 0)) 67 (0, 0))) ∧ Aside0 (Below w.heap.size w w'))
 case atStart => exact ⟨0, rfl, ⟨by omega⟩, BKT, BK3, BK6, HB⟩
 case round =>
  clear HB BKT BK3 BK6
  obtain ⟨k, rfl, HK1, BKT, BK3, BK6, HB⟩ := hrel
  by_cases hk : k < n
  ·have HIk := Aside0.mk hk
   have ck : decide ((k : Int) < (n : Int)) = true := decide_eq_true (by omega)
   have cck : decide (k < n) = true := decide_eq_true (by omega)
   obtain ⟨k1, rfl⟩ : ∃ m, gk = m + 1 := ⟨gk - 1, by have := HK1.out; omega⟩
   have hwk : IntKind.i64.wrap ((k : Int) + 1) = ((k + 1 : Nat) : Int) := i64_succ k (by have := HN.out; omega)
   clear hk
   go_wp2
   go_loopg [15] n (fun kq v15 w' => ∃ i : Nat, v15 = .int .i64 i ∧ Aside0 (kq + i = n) ∧ Aside0 (w'.heap[g]? = some (.cells (encs16 TAB) 60 (0, 0))) ∧ Aside0 (w'.heap[g3]? = some (.cells (encs16 (nw2 (nw1 xs n k) n k i)) 67 (0, 0))) ∧ Aside0 (w'.heap[g6]? = some (.cells (encs16 (List.replicate 64 0)) 67 (0, 0))) ∧ Aside0 (Below w.heap.size w w'))
   case atStart => exact ⟨0, rfl, ⟨by omega⟩, BKT, BK3, BK6, HB⟩
   case round =>
    clear HB BKT BK3 BK6
    obtain ⟨i, rfl, HK2, BKT, BK3, BK6, HB⟩ := hrel
    by_cases hi : i < n
    ·have HIi := Aside0.mk hi
     have ci : decide ((i : Int) < (n : Int)) = true := decide_eq_true (by omega)
     have cci : decide (i < n) = true := decide_eq_true (by omega)
     obtain ⟨k2, rfl⟩ : ∃ m, gk = m + 1 := ⟨gk - 1, by have := HK2.out; omega⟩
     have hwi : IntKind.i64.wrap ((i : Int) + 1) = ((i + 1 : Nat) : Int) := i64_succ i (by have := HN.out; omega)
     clear hi
     go_wp2
     go_loopg [19] n (fun kq v19 w' => ∃ j : Nat, v19 = .int .i64 j ∧ Aside0 (kq + j = n) ∧ Aside0 (w'.heap[g]? = some (.cells (encs16 TAB) 60 (0, 0))) ∧ Aside0 (w'.heap[g3]? = some (.cells (encs16 (nw3 (nw2 (nw1 xs n k) n k i) k i j)) 67 (0, 0))) ∧ Aside0 (w'.heap[g6]? = some (.cells (encs16 (List.replicate 64 0)) 67 (0, 0))) ∧ Aside0 (Below w.heap.size w w'))
     case atStart => exact ⟨0, rfl, ⟨by omega⟩, BKT, BK3, BK6, HB⟩
     case round =>
      clear HB BKT BK3 BK6
      obtain ⟨j, rfl, HK3, BKT, BK3, BK6, HB⟩ := hrel
      by_cases hj : j < n
      ·have HIj := Aside0.mk hj
       have cj : decide ((j : Int) < (n : Int)) = true := decide_eq_true (by omega)
       have ccj : decide (j < n) = true := decide_eq_true (by omega)
       obtain ⟨k3, rfl⟩ : ∃ m, gk = m + 1 := ⟨gk - 1, by have := HK3.out; omega⟩
       have hwj : IntKind.i64.wrap ((j : Int) + 1) = ((j + 1 : Nat) : Int) := i64_succ j (by have := HN.out; omega)
       clear hj
       go_wp2
       have n0_ := Aside0.mk (blk_drew BKT.out)
       have n1_ := Aside0.mk (blk_drew BK3.out)
       have n2_ := Aside0.mk (blk_drew BK6.out)
       have n9_ := Aside0.mk (below_drew1 HB.out)
       clear HB BKT BK3 BK6
       have BKT := n0_
       have BK3 := n1_
       have BK6 := n2_
       have HB := n9_
       clear n0_ n1_ n2_ n9_
       have pi : (0 ≤ (i : Int)) = True := eq_true (by omega)
       have qi : ((i : Int) < 8) = True := eq_true (by have := HN.out; have := HIi.out; omega)
       have pj : (0 ≤ (j : Int)) = True := eq_true (by omega)
       have qj : ((j : Int) < 8) = True := eq_true (by have := HN.out; have := HIj.out; omega)
       have pk : (0 ≤ (k : Int)) = True := eq_true (by omega)
       have qk : ((k : Int) < 8) = True := eq_true (by have := HN.out; have := HIk.out; omega)
       obtain ⟨cu, hcu⟩ : ∃ cu, cu = nw3 (nw2 (nw1 xs n k) n k i) k i j := ⟨_, rfl⟩
       rw [← hcu] at BK3
       have HOK : Aside0 (NetOk cu) := ⟨by rw [hcu]; exact nw3_ok (nw2_ok (nw1_ok HX.out n k) n k i) k i j⟩
       have HCU := Aside0.mk (show nw3 (nw2 (nw1 xs n k) n k i) k i (j + 1) = netSet cu i j (netAt cu i j &&& cmpS (netAt cu i k) (netAt cu k j)) by rw [hcu]; rfl)
       clear hcu
       have HIJ := Aside0.mk (encs16_net HOK.out i j (by have := HN.out; have := HIi.out; omega) (by have := HN.out; have := HIj.out; omega))
       have HIK := Aside0.mk (encs16_net HOK.out i k (by have := HN.out; have := HIi.out; omega) (by have := HN.out; have := HIk.out; omega))
       have HKJ := Aside0.mk (encs16_net HOK.out k j (by have := HN.out; have := HIk.out; omega) (by have := HN.out; have := HIj.out; omega))
       have HL1 : Aside0 (netAt cu i k < 65536) := ⟨Nat.lt_trans (HOK.out.at i k) (by decide)⟩
       have HL2 : Aside0 (netAt cu k j < 65536) := ⟨Nat.lt_trans (HOK.out.at k j) (by decide)⟩
       have HAND := Aside0.mk (and_f (netAt cu i j) (cmpS (netAt cu i k) (netAt cu k j)) (Nat.lt_trans (HOK.out.at i j) (by decide)) (Nat.lt_trans (cmpS_lt _ _) (by decide)))
       refine start_ (n := 23) (S := fun w' => w'.cell? ⟨g3, i * 8 + j, none⟩ = some (.int .u16 (netAt (cu) i j : Int)) ∧ w'.cell? ⟨g3, i * 8 + k, none⟩ = some (.int .u16 (netAt (cu) i k : Int)) ∧ w'.cell? ⟨g3, k * 8 + j, none⟩ = some (.int .u16 (netAt (cu) k j : Int))) (ds := [22]) #[false, false, false, false, false, false, false, false, false, false, false, false, false, false, false, false, false, false, false, false, false, false, false] (by kernel_rfl) rfl rfl ⟨(blk_cell BK3.out _).trans HIJ.out, (blk_cell BK3.out _).trans HIK.out, (blk_cell BK3.out _).trans HKJ.out⟩ (fun hHeld => ?_)
       generalize wr.drew = w17 at BKT BK3 BK6 HB hHeld ⊢
       refine pure_ (i := 0) (N := some 22) (v := ?_) (a' := ?_) #[true, false, false, false, false, false, false, false, false, false, false, false, false, false, false, false, false, false, false, false, false, false, false] rfl rfl (by kernel_rfl) (fun _ _ _ h => h) (Or.inl ⟨by rfl, ?_⟩) ?_ ?_
       rotate_left
       ·intro w'
        go_simp
        with_reducible rfl
       rotate_left
       ·simp only [Act.put, List.setIfInBounds_toArray, List.set_cons_zero, List.set_cons_succ, i64_w, i32_w]
        rfl
       refine pure_ (i := 1) (N := some 23) (v := ?_) (a' := ?_) #[true, true, false, false, false, false, false, false, false, false, false, false, false, false, false, false, false, false, false, false, false, false, false] rfl rfl (by kernel_rfl) (fun _ _ _ h => h) (Or.inl ⟨by rfl, ?_⟩) ?_ ?_
       rotate_left
       ·intro w'
        go_simp
        with_reducible rfl
       rotate_left
       ·simp only [Act.put, List.setIfInBounds_toArray, List.set_cons_zero, List.set_cons_succ, i64_w, i32_w]
        rfl
       refine pure_ (i := 2) (N := some 24) (v := ?_) (a' := ?_) #[true, true, true, false, false, false, false, false, false, false, false, false, false, false, false, false, false, false, false, false, false, false, false] rfl rfl (by kernel_rfl) (fun _ _ _ h => h) (Or.inl ⟨by rfl, ?_⟩) ?_ ?_
       rotate_left
       ·intro w'
        go_simp
        with_reducible rfl
       rotate_left
       ·simp only [Act.put, List.setIfInBounds_toArray, List.set_cons_zero, List.set_cons_succ, i64_w, i32_w]
        rfl
       refine pure_ (i := 3) (N := some 25) (v := ?_) (a' := ?_) #[true, true, true, true, false, false, false, false, false, false, false, false, false, false, false, false, false, false, false, false, false, false, false] rfl rfl (by kernel_rfl) (fun _ _ _ h => h) (Or.inl ⟨by rfl, ?_⟩) ?_ ?_
       rotate_left
       ·intro w'
        go_simp
        with_reducible rfl
       rotate_left
       ·simp only [Act.put, List.setIfInBounds_toArray, List.set_cons_zero, List.set_cons_succ, i64_w, i32_w]
        rfl
       refine pure_ (i := 4) (N := some 26) (v := ?_) (a' := ?_) #[true, true, true, true, true, false, false, false, false, false, false, false, false, false, false, false, false, false, false, false, false, false, false] rfl rfl (by kernel_rfl) (fun _ _ _ h => h) (Or.inl ⟨by rfl, ?_⟩) ?_ ?_
       rotate_left
       ·intro w'
        go_simp
        with_reducible rfl
       rotate_left
       ·simp only [Act.put, List.setIfInBounds_toArray, List.set_cons_zero, List.set_cons_succ, i64_w, i32_w]
        rfl
       refine pure_ (i := 5) (N := some 27) (v := ?_) (a' := ?_) #[true, true, true, true, true, true, false, false, false, false, false, false, false, false, false, false, false, false, false, false, false, false, false] rfl rfl (by kernel_rfl) (fun _ _ _ h => h) (Or.inl ⟨by rfl, ?_⟩) ?_ ?_
       rotate_left
       ·intro w'
        go_simp
        with_reducible rfl
       rotate_left
       ·simp only [Act.put, List.setIfInBounds_toArray, List.set_cons_zero, List.set_cons_succ, i64_w, i32_w]
        rfl
       refine pure_ (i := 7) (N := some 29) (v := ?_) (a' := ?_) #[true, true, true, true, true, true, false, true, false, false, false, false, false, false, false, false, false, false, false, false, false, false, false] rfl rfl (by kernel_rfl) (fun _ _ _ h => h) (Or.inl ⟨by rfl, ?_⟩) ?_ ?_
       rotate_left
       ·intro w'
        go_simp
        with_reducible rfl
       rotate_left
       ·simp only [Act.put, List.setIfInBounds_toArray, List.set_cons_zero, List.set_cons_succ, i64_w, i32_w]
        rfl
       refine pure_ (i := 8) (N := some 30) (v := ?_) (a' := ?_) #[true, true, true, true, true, true, false, true, true, false, false, false, false, false, false, false, false, false, false, false, false, false, false] rfl rfl (by kernel_rfl) (fun _ _ _ h => h) (Or.inl ⟨by rfl, ?_⟩) ?_ ?_
       rotate_left
       ·intro w'
        go_simp
        with_reducible rfl
       rotate_left
       ·simp only [Act.put, List.setIfInBounds_toArray, List.set_cons_zero, List.set_cons_succ, i64_w, i32_w]
        rfl
       refine pure_ (i := 9) (N := some 31) (v := ?_) (a' := ?_) #[true, true, true, true, true, true, false, true, true, true, false, false, false, false, false, false, false, false, false, false, false, false, false] rfl rfl (by kernel_rfl) (fun _ _ _ h => h) (Or.inl ⟨by rfl, ?_⟩) ?_ ?_
       rotate_left
       ·intro w'
        go_simp
        with_reducible rfl
       rotate_left
       ·simp only [Act.put, List.setIfInBounds_toArray, List.set_cons_zero, List.set_cons_succ, i64_w, i32_w]
        rfl
       refine pure_ (i := 10) (N := some 32) (v := ?_) (a' := ?_) #[true, true, true, true, true, true, false, true, true, true, true, false, false, false, false, false, false, false, false, false, false, false, false] rfl rfl (by kernel_rfl) (fun _ _ _ h => h) (Or.inl ⟨by rfl, ?_⟩) ?_ ?_
       rotate_left
       ·intro w'
        go_simp
        with_reducible rfl
       rotate_left
       ·simp only [Act.put, List.setIfInBounds_toArray, List.set_cons_zero, List.set_cons_succ, i64_w, i32_w]
        rfl
       refine pure_ (i := 11) (N := some 33) (v := ?_) (a' := ?_) #[true, true, true, true, true, true, false, true, true, true, true, true, false, false, false, false, false, false, false, false, false, false, false] rfl rfl (by kernel_rfl) (fun _ _ _ h => h) (Or.inl ⟨by rfl, ?_⟩) ?_ ?_
       rotate_left
       ·intro w'
        go_simp
        with_reducible rfl
       rotate_left
       ·simp only [Act.put, List.setIfInBounds_toArray, List.set_cons_zero, List.set_cons_succ, i64_w, i32_w]
        rfl
       refine pure_ (i := 13) (N := some 35) (v := ?_) (a' := ?_) #[true, true, true, true, true, true, false, true, true, true, true, true, false, true, false, false, false, false, false, false, false, false, false] rfl rfl (by kernel_rfl) (fun _ _ _ h => h) (Or.inl ⟨by rfl, ?_⟩) ?_ ?_
       rotate_left
       ·intro w'
        go_simp
        with_reducible rfl
       rotate_left
       ·simp only [Act.put, List.setIfInBounds_toArray, List.set_cons_zero, List.set_cons_succ, i64_w, i32_w]
        rfl
       refine pure_ (i := 14) (N := some 36) (v := ?_) (a' := ?_) #[true, true, true, true, true, true, false, true, true, true, true, true, false, true, true, false, false, false, false, false, false, false, false] rfl rfl (by kernel_rfl) (fun _ _ _ h => h) (Or.inl ⟨by rfl, ?_⟩) ?_ ?_
       rotate_left
       ·intro w'
        go_simp
        with_reducible rfl
       rotate_left
       ·simp only [Act.put, List.setIfInBounds_toArray, List.set_cons_zero, List.set_cons_succ, i64_w, i32_w]
        rfl
       refine pure_ (i := 15) (N := some 37) (v := ?_) (a' := ?_) #[true, true, true, true, true, true, false, true, true, true, true, true, false, true, true, true, false, false, false, false, false, false, false] rfl rfl (by kernel_rfl) (fun _ _ _ h => h) (Or.inl ⟨by rfl, ?_⟩) ?_ ?_
       rotate_left
       ·intro w'
        go_simp
        with_reducible rfl
       rotate_left
       ·simp only [Act.put, List.setIfInBounds_toArray, List.set_cons_zero, List.set_cons_succ, i64_w, i32_w]
        rfl
       refine pure_ (i := 16) (N := some 38) (v := ?_) (a' := ?_) #[true, true, true, true, true, true, false, true, true, true, true, true, false, true, true, true, true, false, false, false, false, false, false] rfl rfl (by kernel_rfl) (fun _ _ _ h => h) (Or.inl ⟨by rfl, ?_⟩) ?_ ?_
       rotate_left
       ·intro w'
        go_simp
        with_reducible rfl
       rotate_left
       ·simp only [Act.put, List.setIfInBounds_toArray, List.set_cons_zero, List.set_cons_succ, i64_w, i32_w]
        rfl
       refine pure_ (i := 20) (N := some 42) (v := ?_) (a' := ?_) #[true, true, true, true, true, true, false, true, true, true, true, true, false, true, true, true, true, false, false, false, true, false, false] rfl rfl (by kernel_rfl) (fun _ _ _ h => h) (Or.inl ⟨by rfl, ?_⟩) ?_ ?_
       rotate_left
       ·intro w'
        go_simp
        with_reducible rfl
       rotate_left
       ·simp only [Act.put, List.setIfInBounds_toArray, List.set_cons_zero, List.set_cons_succ, i64_w, i32_w]
        rfl
       refine take_ (i := 6) (N := some 28) (v := ?_) (a' := ?_) #[true, true, true, true, true, true, true, true, true, true, true, true, false, true, true, true, true, false, false, false, true, false, false] rfl rfl (by kernel_rfl) (fun _ _ _ h => h) (Or.inl ⟨by rfl, ?_⟩) hHeld ?_ ?_
       rotate_left
       ·rintro w' ⟨s0, s1, s2⟩
        go_simp
        with_reducible rfl
       rotate_left
       ·simp only [Act.put, List.setIfInBounds_toArray, List.set_cons_zero, List.set_cons_succ, i64_w, i32_w]
        rfl
       refine take_ (i := 12) (N := some 34) (v := ?_) (a' := ?_) #[true, true, true, true, true, true, true, true, true, true, true, true, true, true, true, true, true, false, false, false, true, false, false] rfl rfl (by kernel_rfl) (fun _ _ _ h => h) (Or.inl ⟨by rfl, ?_⟩) hHeld ?_ ?_
       rotate_left
       ·rintro w' ⟨s0, s1, s2⟩
        go_simp
        with_reducible rfl
       rotate_left
       ·simp only [Act.put, List.setIfInBounds_toArray, List.set_cons_zero, List.set_cons_succ, i64_w, i32_w]
        rfl
       refine take_ (i := 17) (N := some 39) (v := ?_) (a' := ?_) #[true, true, true, true, true, true, true, true, true, true, true, true, true, true, true, true, true, true, false, false, true, false, false] rfl rfl (by kernel_rfl) (fun _ _ _ h => h) (Or.inl ⟨by rfl, ?_⟩) hHeld ?_ ?_
       rotate_left
       ·rintro w' ⟨s0, s1, s2⟩
        go_simp
        with_reducible rfl
       rotate_left
       ·simp only [Act.put, List.setIfInBounds_toArray, List.set_cons_zero, List.set_cons_succ, i64_w, i32_w]
        rfl
       refine one_ (i := 18) (N := some 40) #[true, true, true, true, true, true, true, true, true, true, true, true, true, true, true, true, true, true, true, false, true, false, false] rfl rfl (by kernel_rfl) (by decide) (fun K hK => ?_)
       refine goes_ Try.func52 (by kernel_rfl) rfl #[.pointer (some ⟨g, 0, none⟩), .agg #[.int .u16 (netAt cu i k : Int)], .agg #[.int .u16 (netAt cu k j : Int)]] (by rfl) rfl rfl (by (try simp only [List.map_toArray, List.map_cons, List.map_nil]); first | done | rfl) ?_
       with_reducible refine (allen_compose_calls g _ _ HL1.out HL2.out _ BKT.out).mono ?_
       rintro e w9 ⟨rfl, hb⟩
       refine ⟨_, rfl, ?_⟩
       have n0_ := Aside0.mk (below_step HB.out hb)
       have n1_ := Aside0.mk (blk_below BKT.out hb)
       have n2_ := Aside0.mk (blk_below BK3.out hb)
       have n3_ := Aside0.mk (blk_below BK6.out hb)
       clear HB BKT BK3 BK6
       have HB := n0_
       have BKT := n1_
       have BK3 := n2_
       have BK6 := n3_
       clear n0_ n1_ n2_ n3_
       clear hb
       refine hK.out _ _ ⟨(blk_cell BK3.out _).trans HIJ.out, (blk_cell BK3.out _).trans HIK.out, (blk_cell BK3.out _).trans HKJ.out⟩ (fun hHeld => ?_)
       clear hK K
       refine norm_ (a' := ?_) ?_ ?_
       rotate_left
       ·show Act.put _ (some 40) _ = _
        simp only [Act.put, List.setIfInBounds_toArray, List.set_cons_zero, List.set_cons_succ, i64_w, i32_w]
        rfl
       refine one_ (i := 19) (N := some 41) #[true, true, true, true, true, true, true, true, true, true, true, true, true, true, true, true, true, true, true, true, true, false, false] rfl rfl (by kernel_rfl) (by decide) (fun K hK => ?_)
       refine goes_ Try.func50 (by kernel_rfl) rfl #[.agg #[.int .u16 (netAt cu i j : Int)], .agg #[.int .u16 (cmpS (netAt cu i k) (netAt cu k j) : Int)]] (by rfl) rfl rfl (by (try simp only [List.map_toArray, List.map_cons, List.map_nil]); first | done | rfl) ?_
       with_reducible refine (allen_set_and.calls _ _ _ _ HAND.out).mono ?_
       rintro e w9 ⟨rfl, hb⟩
       refine ⟨_, rfl, ?_⟩
       have n0_ := Aside0.mk (below_step HB.out hb)
       have n1_ := Aside0.mk (blk_below BKT.out hb)
       have n2_ := Aside0.mk (blk_below BK3.out hb)
       have n3_ := Aside0.mk (blk_below BK6.out hb)
       clear HB BKT BK3 BK6
       have HB := n0_
       have BKT := n1_
       have BK3 := n2_
       have BK6 := n3_
       clear n0_ n1_ n2_ n3_
       clear hb
       refine hK.out _ _ ⟨(blk_cell BK3.out _).trans HIJ.out, (blk_cell BK3.out _).trans HIK.out, (blk_cell BK3.out _).trans HKJ.out⟩ (fun hHeld => ?_)
       clear hK K
       refine norm_ (a' := ?_) ?_ ?_
       rotate_left
       ·show Act.put _ (some 41) _ = _
        simp only [Act.put, List.setIfInBounds_toArray, List.set_cons_zero, List.set_cons_succ, i64_w, i32_w]
        rfl
       refine pure_ (i := 21) (N := some 43) (v := ?_) (a' := ?_) #[true, true, true, true, true, true, true, true, true, true, true, true, true, true, true, true, true, true, true, true, true, true, false] rfl rfl (by kernel_rfl) (fun _ _ _ h => h) (Or.inl ⟨by rfl, ?_⟩) ?_ ?_
       rotate_left
       ·intro w'
        go_simp
        with_reducible rfl
       rotate_left
       ·simp only [Act.put, List.setIfInBounds_toArray, List.set_cons_zero, List.set_cons_succ, i64_w, i32_w]
        rfl
       refine last_ (i := 22) (N := none) #[true, true, true, true, true, true, true, true, true, true, true, true, true, true, true, true, true, true, true, true, true, true, true] rfl rfl (by kernel_rfl) (by decide) (fun K hK => ?_)
       have hs0 := (blk_cell BK3.out _).trans HIJ.out
       have hf0 := blk_frozen BK3.out (i * 8 + j)
       refine skip_ (w1 := ?_) (by rfl) rfl ?_ ?_
       rotate_left
       ·go_simp
        rfl
       refine hK.out _ _ ?_
       clear hK K
       refine done_ (by kernel_rfl) ?_
       go_wp2
       go_roundg k3
       case measure => omega
       case rel => exact ⟨j + 1, rfl, ⟨by have := HK3.out; omega⟩, ⟨blk_far BKT.out NBKTBK3.out _⟩, ⟨by rw [HCU.out]; exact blk_put (cs := encs16 cu) BK3.out (i * 8 + j) _ (encs16_set cu (i * 8 + j) _)⟩, ⟨blk_far BK6.out NBK6BK3.out _⟩, ⟨below_set HB.out GBK3.out⟩⟩
      ·have cj : decide ((j : Int) < (n : Int)) = false := decide_eq_false (by omega)
       have ccj : decide (j < n) = false := decide_eq_false (by omega)
       have HEj : j = n := by have := HK3.out; omega
       clear hj
       go_wp2
       go_roundg k2
       case measure => omega
       case rel => exact ⟨i + 1, rfl, ⟨by have := HK2.out; omega⟩, BKT, by rw [HEj] at BK3; exact BK3, BK6, HB⟩
    ·have ci : decide ((i : Int) < (n : Int)) = false := decide_eq_false (by omega)
     have cci : decide (i < n) = false := decide_eq_false (by omega)
     have HEi : i = n := by have := HK2.out; omega
     clear hi
     go_wp2
     go_roundg k1
     case measure => omega
     case rel => exact ⟨k + 1, rfl, ⟨by have := HK1.out; omega⟩, BKT, by rw [HEi] at BK3; exact BK3, BK6, HB⟩
  ·have ck : decide ((k : Int) < (n : Int)) = false := decide_eq_false (by omega)
   have cck : decide (k < n) = false := decide_eq_false (by omega)
   have HEk : k = n := by have := HK1.out; omega
   clear hk
   subst HEk
   have HR := Aside0.mk (nwF_ok HX.out k)
   go_wp2_with (first | ((with_reducible refine gate_dst (N := 47) rfl ?_); refine wpList_load_row rfl 67 (.tmp 3) rfl g3 rfl 67 _ (0, 0) _ BK3.out Try.underlying67 rfl (by rw [encs16_size, show (nw1 xs k k).length = 64 from HR.out.1]; kernel_rfl) ?_) | ((with_reducible refine gate_store (t := 67) (p := 6) (v := .tmp 47) rfl ?_); refine Blk.store_whole rfl rfl 67 (.tmp 6) (.tmp 47) rfl (encs16 (nwF xs k)) rfl rfl rfl (by rw [encs16_size, HR.out.1]; kernel_rfl) (encs16_one _) BK6.out (by rw [encs16_size, encs16_size, HR.out.1]; rfl) ?_; intro w3 hb3 hg3; have n0_ := Aside0.mk (Blk.below_wrote HB.out hg3 GBK6.out HB.out.size); clear HB BK6; have HB := n0_; have BK6 := Aside0.mk hb3; clear n0_ hb3 hg3))
   refine bodyPost_ret (results_cell_row rfl _ _ g6 67 (encs16 (nwF xs k)) (0, 0) _ rfl BK6.out Try.underlying67 rfl (by rw [encs16_size, HR.out.1]; kernel_rfl)) rfl ?_
   exact ⟨rfl, HB.out⟩
end Go.Proofs.Ytoemcdkopnclbaa.A
