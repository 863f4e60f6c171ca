/-
  The walk through allen's 'build': it answers the network of constraints.
-/
import Derived.Test.YtoemcdkopnclbaaUHTightP
namespace Go.Proofs.Ytoemcdkopnclbaa.A
open Go.RowKit Go.Proofs.YtoemcdkopnclbaaW.PrintWords Go.Proofs.YtoemcdkopnclbaaW.PrintLast Go.Proofs.YtoemcdkopnclbaaW.PrintMore
attribute [local go_sem] max2_int min2_int max_two min_two max_three min_three max_four min_four
set_option linter.unusedVariables false
set_option linter.unusedSimpArgs false
theorem drop_rd51 (l : List S51) (i : Nat) (h : i < l.length) : l.drop i = rd_T51 l (i : Int) :: l.drop (i + 1) := by
 rw [List.drop_eq_getElem_cons h]
 simp [rd_T51, List.getD_eq_getElem?_getD, List.getElem?_eq_getElem h]
theorem rd51_mem (l : List S51) (i : Nat) (h : i < l.length) : rd_T51 l (i : Int) ∈ l := by
 simp [rd_T51, List.getD_eq_getElem?_getD, List.getElem?_eq_getElem h]
set_option maxHeartbeats 16000000 in
set_option maxRecDepth 100000 in
theorem allen_build_calls (k n : Nat) (A1 : Option Addr) (c1 : Nat) (l1 : List S51) (w : World) (hn : n ≤ 8) (hr1 : Kd.C k51 w A1 l1.length l1) (hc1 : l1.length ≤ c1) (hg : gd k l1 = true) :
  Calls Try.prog 37 #[.int .i64 (n : Int), .slice A1 l1.length c1] w fun e w' => e = .returned (.tuple #[.agg (encs16 ((buildP n l1).getD (List.replicate 64 0))), .bool (buildP n l1).isSome]) ∧ Below w.heap.size w w' := by
 have hu57 := Try.underlying57
 have hu65 := Try.underlying65
 have hu67 := Try.underlying67
 have hu51 := Try.underlying51
 have HB := Aside0.mk (Below.refl w.heap.size w)
 have HN := Aside0.mk hn
 have HR1 := Aside0.mk hr1
 simp only [gd, Bool.and_eq_true, decide_eq_true_eq, List.all_eq_true] at hg
 have HK20 := Aside0.mk hg.1.1
 have HLL := Aside0.mk hg.1.2
 have HGD := Aside0.mk hg.2
 clear hg hn hr1
 go_enter Try.func37, Try.ntmps37
 go_wp2_with (first | ((with_reducible refine gate_dst (N := 4) rfl ?_); refine box_event ?hg (N := 4) ?hd (cs := encs16 (List.replicate 64 0)) (t := 67) ?hr ?_; (case hd => rfl); (case hg => rfl); (case hr => first | (go_simp; done) | (go_simp; rfl) | (go_simp; kernel_rfl) | kernel_rfl); intro g4 hg w2 hbox hb; have BK4 := Aside0.mk hbox; have GBK4 := Aside0.mk (show w.heap.size ≤ g4 by rw [hg]; exact HB.out.size); have n0_ := Aside0.mk (below_step HB.out hb); clear HB; have HB := n0_; clear n0_; clear hbox hb hg) | ((with_reducible refine gate_dst (N := 6) rfl ?_); refine box_event ?hg (N := 6) ?hd (cs := encs16 (List.replicate 64 0)) (t := 67) ?hr ?_; (case hd => rfl); (case hg => rfl); (case hr => first | (go_simp; done) | (go_simp; rfl) | (go_simp; kernel_rfl) | kernel_rfl); intro g6 hg w2 hbox hb; have BK6 := Aside0.mk hbox; have GBK6 := Aside0.mk (show w.heap.size ≤ g6 by rw [hg]; exact HB.out.size); have NBK4BK6 := Aside0.mk (show g4 ≠ g6 by rw [hg]; exact Nat.ne_of_lt (blk_lt BK4.out)); have NBK6BK4 := Aside0.mk (show g6 ≠ g4 by rw [hg]; exact Nat.ne_of_gt (blk_lt BK4.out)); have n0_ := Aside0.mk (below_step HB.out hb); have n1_ := Aside0.mk (blk_below BK4.out hb); clear HB BK4; have HB := n0_; have BK4 := n1_; clear n0_ n1_; clear hbox hb hg))
 go_loopg [14] n (fun kq v14 w' => ∃ i : Nat, v14 = .int .i64 i ∧ Aside0 (kq + i = n) ∧ Aside0 (w'.heap[g4]? = some (.cells (encs16 (List.replicate 64 0)) 67 (0, 0))) ∧ Aside0 (w'.heap[g6]? = some (.cells (encs16 (fillF n i)) 67 (0, 0))) ∧ Aside0 (Below w.heap.size w w'))
 case atStart => exact ⟨0, rfl, ⟨by omega⟩, BK4, BK6, HB⟩
 case round =>
  clear HB BK4 BK6
  obtain ⟨i, rfl, HK1, BK4, BK6, HB⟩ := hrel
  by_cases hi : i < n
  ·have HIi := Aside0.mk hi
   have ci : decide ((i : Int) < (n : Int)) = true := decide_eq_true (by omega)
   have cci : decide (i < n) = true := decide_eq_true (by omega)
   obtain ⟨k1, rfl⟩ : ∃ m, gk = m + 1 := ⟨gk - 1, by have := HK1.out; omega⟩
   have hwi : IntKind.i64.wrap ((i : Int) + 1) = ((i + 1 : Nat) : Int) := i64_succ i (by have := HN.out; omega)
   clear hi
   go_wp2
   go_loopg [18] n (fun kq v18 w' => ∃ j : Nat, v18 = .int .i64 j ∧ Aside0 (kq + j = n) ∧ Aside0 (w'.heap[g4]? = some (.cells (encs16 (List.replicate 64 0)) 67 (0, 0))) ∧ Aside0 (w'.heap[g6]? = some (.cells (encs16 (rowF (fillF n i) i j)) 67 (0, 0))) ∧ Aside0 (Below w.heap.size w w'))
   case atStart => exact ⟨0, rfl, ⟨by omega⟩, BK4, BK6, HB⟩
   case round =>
    clear HB BK4 BK6
    obtain ⟨j, rfl, HK2, BK4, BK6, HB⟩ := hrel
    by_cases hj : j < n
    ·have HIj := Aside0.mk hj
     have cj : decide ((j : Int) < (n : Int)) = true := decide_eq_true (by omega)
     have ccj : decide (j < n) = true := decide_eq_true (by omega)
     obtain ⟨k2, rfl⟩ : ∃ m, gk = m + 1 := ⟨gk - 1, by have := HK2.out; omega⟩
     have hwj : IntKind.i64.wrap ((j : Int) + 1) = ((j + 1 : Nat) : Int) := i64_succ j (by have := HN.out; omega)
     clear hj
     have pi : (0 ≤ (i : Int)) = True := eq_true (by omega)
     have qi : ((i : Int) < 8) = True := eq_true (by have := HN.out; have := HIi.out; omega)
     have pj : (0 ≤ (j : Int)) = True := eq_true (by omega)
     have qj : ((j : Int) < 8) = True := eq_true (by have := HN.out; have := HIj.out; omega)
     obtain ⟨cu, hcu⟩ : ∃ cu, cu = rowF (fillF n i) i j := ⟨_, rfl⟩
     rw [← hcu] at BK6
     have HNX := Aside0.mk (show rowF (fillF n i) i (j + 1) = cu.set (i * 8 + j) 8191 by rw [hcu]; rfl)
     have HCELL := Aside0.mk (encs16_net (show NetOk cu by rw [hcu]; exact rowF_ok (fillF_ok n i) i j) i j (by have := HN.out; have := HIi.out; omega) (by have := HN.out; have := HIj.out; omega))
     clear hcu
     go_wp2
     have n0_ := Aside0.mk (blk_drew BK4.out)
     have n1_ := Aside0.mk (blk_drew BK6.out)
     have n2_ := Aside0.mk (below_drew1 HB.out)
     clear BK4 BK6 HB
     have BK4 := n0_
     have BK6 := n1_
     have HB := n2_
     clear n0_ n1_ n2_
     refine start_ (n := 6) (S := fun w' => True) (ds := [5]) #[false, false, false, false, false, false] (by kernel_rfl) rfl rfl trivial (fun hHeld => ?_)
     generalize wr.drew = w17 at BK4 BK6 HB ⊢
     refine pure_ (i := 0) (N := some 21) (v := ?_) (a' := ?_) #[true, false, false, false, false, false] rfl rfl (by kernel_rfl) (fun _ _ _ h => h) (Or.inl ⟨by rfl, ?_⟩) ?_ ?_
     rotate_left
     ·intro w'
      go_simp
      with_reducible rfl
     rotate_left
     ·simp only [Act.put, List.setIfInBounds_toArray, List.set_cons_zero, List.set_cons_succ, i64_w, i32_w]
      rfl
     refine pure_ (i := 1) (N := some 22) (v := ?_) (a' := ?_) #[true, true, false, false, false, false] rfl rfl (by kernel_rfl) (fun _ _ _ h => h) (Or.inl ⟨by rfl, ?_⟩) ?_ ?_
     rotate_left
     ·intro w'
      go_simp
      with_reducible rfl
     rotate_left
     ·simp only [Act.put, List.setIfInBounds_toArray, List.set_cons_zero, List.set_cons_succ, i64_w, i32_w]
      rfl
     refine pure_ (i := 3) (N := some 24) (v := ?_) (a' := ?_) #[true, true, false, true, false, false] rfl rfl (by kernel_rfl) (fun _ _ _ h => h) (Or.inl ⟨by rfl, ?_⟩) ?_ ?_
     rotate_left
     ·intro w'
      go_simp
      with_reducible rfl
     rotate_left
     ·simp only [Act.put, List.setIfInBounds_toArray, List.set_cons_zero, List.set_cons_succ, i64_w, i32_w]
      rfl
     refine one_ (i := 2) (N := some 23) #[true, true, true, true, false, false] rfl rfl (by kernel_rfl) (by decide) (fun K hK => ?_)
     refine goes_ Try.func49 (by kernel_rfl) rfl #[] (by rfl) rfl rfl (by (try simp only [List.map_toArray, List.map_cons, List.map_nil]); first | done | rfl) ?_
     with_reducible refine (allen_full.calls 8191 _ rfl).mono ?_
     rintro e w9 ⟨rfl, hb⟩
     refine ⟨_, rfl, ?_⟩
     have n0_ := Aside0.mk (below_step HB.out hb)
     have n1_ := Aside0.mk (blk_below BK4.out hb)
     have n2_ := Aside0.mk (blk_below BK6.out hb)
     clear HB BK4 BK6
     have HB := n0_
     have BK4 := n1_
     have BK6 := n2_
     clear n0_ n1_ n2_
     clear hb
     refine hK.out _ _ trivial (fun hHeld => ?_)
     clear hK K
     refine norm_ (a' := ?_) ?_ ?_
     rotate_left
     ·show Act.put _ (some 23) _ = _
      simp only [Act.put, List.setIfInBounds_toArray, List.set_cons_zero, List.set_cons_succ, i64_w, i32_w]
      rfl
     refine pure_ (i := 4) (N := some 25) (v := ?_) (a' := ?_) #[true, true, true, true, true, false] rfl rfl (by kernel_rfl) (fun _ _ _ h => h) (Or.inl ⟨by rfl, ?_⟩) ?_ ?_
     rotate_left
     ·intro w'
      go_simp
      with_reducible rfl
     rotate_left
     ·simp only [Act.put, List.setIfInBounds_toArray, List.set_cons_zero, List.set_cons_succ, i64_w, i32_w]
      rfl
     refine last_ (i := 5) (N := none) #[true, true, true, true, true, true] rfl rfl (by kernel_rfl) (by decide) (fun K hK => ?_)
     have hs0 := (blk_cell BK6.out _).trans HCELL.out
     have hf0 := blk_frozen BK6.out (i * 8 + j)
     refine skip_ (w1 := ?_) (by rfl) rfl ?_ ?_
     rotate_left
     ·go_simp
      rfl
     refine hK.out _ _ ?_
     clear hK K
     refine done_ (by kernel_rfl) ?_
     go_wp2
     go_roundg k2
     case measure => omega
     case rel => exact ⟨j + 1, rfl, ⟨by have := HK2.out; omega⟩, ⟨blk_far BK4.out NBK4BK6.out _⟩, ⟨by rw [HNX.out]; exact blk_put (cs := encs16 cu) BK6.out (i * 8 + j) _ (encs16_set cu (i * 8 + j) 8191)⟩, ⟨below_set HB.out GBK6.out⟩⟩
    ·have cj : decide ((j : Int) < (n : Int)) = false := decide_eq_false (by omega)
     have ccj : decide (j < n) = false := decide_eq_false (by omega)
     have HEj : Aside0 (j = n) := ⟨by have := HK2.out; omega⟩
     clear hj
     have pi : (0 ≤ (i : Int)) = True := eq_true (by omega)
     have qi : ((i : Int) < 8) = True := eq_true (by have := HN.out; have := HIi.out; omega)
     obtain ⟨cu, hcu⟩ : ∃ cu, cu = rowF (fillF n i) i j := ⟨_, rfl⟩
     rw [← hcu] at BK6
     have HNX := Aside0.mk (show fillF n (i + 1) = cu.set (i * 8 + i) 64 by rw [hcu, HEj.out]; rfl)
     have HCELL := Aside0.mk (encs16_net (show NetOk cu by rw [hcu]; exact rowF_ok (fillF_ok n i) i j) i i (by have := HN.out; have := HIi.out; omega) (by have := HN.out; have := HIi.out; omega))
     clear hcu
     go_wp2
     have n0_ := Aside0.mk (blk_drew BK4.out)
     have n1_ := Aside0.mk (blk_drew BK6.out)
     have n2_ := Aside0.mk (below_drew1 HB.out)
     clear BK4 BK6 HB
     have BK4 := n0_
     have BK6 := n1_
     have HB := n2_
     clear n0_ n1_ n2_
     refine start_ (n := 6) (S := fun w' => True) (ds := [5]) #[false, false, false, false, false, false] (by kernel_rfl) rfl rfl trivial (fun hHeld => ?_)
     generalize wr.drew = w17 at BK4 BK6 HB ⊢
     refine pure_ (i := 0) (N := some 27) (v := ?_) (a' := ?_) #[true, false, false, false, false, false] rfl rfl (by kernel_rfl) (fun _ _ _ h => h) (Or.inl ⟨by rfl, ?_⟩) ?_ ?_
     rotate_left
     ·intro w'
      go_simp
      with_reducible rfl
     rotate_left
     ·simp only [Act.put, List.setIfInBounds_toArray, List.set_cons_zero, List.set_cons_succ, i64_w, i32_w]
      rfl
     refine pure_ (i := 1) (N := some 28) (v := ?_) (a' := ?_) #[true, true, false, false, false, false] rfl rfl (by kernel_rfl) (fun _ _ _ h => h) (Or.inl ⟨by rfl, ?_⟩) ?_ ?_
     rotate_left
     ·intro w'
      go_simp
      with_reducible rfl
     rotate_left
     ·simp only [Act.put, List.setIfInBounds_toArray, List.set_cons_zero, List.set_cons_succ, i64_w, i32_w]
      rfl
     refine pure_ (i := 3) (N := some 30) (v := ?_) (a' := ?_) #[true, true, false, true, false, false] rfl rfl (by kernel_rfl) (fun _ _ _ h => h) (Or.inl ⟨by rfl, ?_⟩) ?_ ?_
     rotate_left
     ·intro w'
      go_simp
      with_reducible rfl
     rotate_left
     ·simp only [Act.put, List.setIfInBounds_toArray, List.set_cons_zero, List.set_cons_succ, i64_w, i32_w]
      rfl
     refine one_ (i := 2) (N := some 29) #[true, true, true, true, false, false] rfl rfl (by kernel_rfl) (by decide) (fun K hK => ?_)
     refine goes_ Try.func47 (by kernel_rfl) rfl #[.int .i64 6] (by rfl) rfl rfl (by (try simp only [List.map_toArray, List.map_cons, List.map_nil]); first | done | rfl) ?_
     with_reducible refine (allen_one.calls 6 64 _ (by decide +kernel)).mono ?_
     rintro e w9 ⟨rfl, hb⟩
     refine ⟨_, rfl, ?_⟩
     have n0_ := Aside0.mk (below_step HB.out hb)
     have n1_ := Aside0.mk (blk_below BK4.out hb)
     have n2_ := Aside0.mk (blk_below BK6.out hb)
     clear HB BK4 BK6
     have HB := n0_
     have BK4 := n1_
     have BK6 := n2_
     clear n0_ n1_ n2_
     clear hb
     refine hK.out _ _ trivial (fun hHeld => ?_)
     clear hK K
     refine norm_ (a' := ?_) ?_ ?_
     rotate_left
     ·show Act.put _ (some 29) _ = _
      simp only [Act.put, List.setIfInBounds_toArray, List.set_cons_zero, List.set_cons_succ, i64_w, i32_w]
      rfl
     refine pure_ (i := 4) (N := some 31) (v := ?_) (a' := ?_) #[true, true, true, true, true, false] rfl rfl (by kernel_rfl) (fun _ _ _ h => h) (Or.inl ⟨by rfl, ?_⟩) ?_ ?_
     rotate_left
     ·intro w'
      go_simp
      with_reducible rfl
     rotate_left
     ·simp only [Act.put, List.setIfInBounds_toArray, List.set_cons_zero, List.set_cons_succ, i64_w, i32_w]
      rfl
     refine last_ (i := 5) (N := none) #[true, true, true, true, true, true] rfl rfl (by kernel_rfl) (by decide) (fun K hK => ?_)
     have hs0 := (blk_cell BK6.out _).trans HCELL.out
     have hf0 := blk_frozen BK6.out (i * 8 + i)
     refine skip_ (w1 := ?_) (by rfl) rfl ?_ ?_
     rotate_left
     ·go_simp
      rfl
     refine hK.out _ _ ?_
     clear hK K
     refine done_ (by kernel_rfl) ?_
     go_wp2
     go_roundg k1
     case measure => omega
     case rel => exact ⟨i + 1, rfl, ⟨by have := HK1.out; omega⟩, ⟨blk_far BK4.out NBK4BK6.out _⟩, ⟨by rw [HNX.out]; exact blk_put (cs := encs16 cu) BK6.out (i * 8 + i) _ (encs16_set cu (i * 8 + i) 64)⟩, ⟨below_set HB.out GBK6.out⟩⟩
  ·have ci : decide ((i : Int) < (n : Int)) = false := decide_eq_false (by omega)
   have cci : decide (i < n) = false := decide_eq_false (by omega)
   have HEi : Aside0 (i = n) := ⟨by have := HK1.out; omega⟩
   clear hi
   have HOK0 := Aside0.mk (fillF_ok n n)
   rw [HEi.out] at BK6
   go_wp2
   go_loopg [35] l1.length (fun kq v35 w' => ∃ (i : Nat) (cu : List Nat), v35 = .int .i64 i ∧ Aside0 (kq + i = l1.length) ∧ Aside0 (cstr n (l1.drop i) cu = buildP n l1) ∧ Aside0 (NetOk cu) ∧ Aside0 (w'.heap[g4]? = some (.cells (encs16 (List.replicate 64 0)) 67 (0, 0))) ∧ Aside0 (w'.heap[g6]? = some (.cells (encs16 (cu)) 67 (0, 0))) ∧ Aside0 (Below w.heap.size w w'))
   case atStart => exact ⟨0, _, rfl, ⟨by omega⟩, ⟨rfl⟩, HOK0, BK4, BK6, HB⟩
   case round =>
    clear HB BK4 BK6 HEi HOK0 HK1 ci cci
    obtain ⟨i, cu, rfl, HK3, HREST, HOK, BK4, BK6, HB⟩ := hrel
    by_cases hi : i < l1.length
    ·have HIi := Aside0.mk hi
     have ci : decide ((i : Int) < (l1.length : Int)) = true := decide_eq_true (by omega)
     have cci : decide (i < l1.length) = true := decide_eq_true (by omega)
     obtain ⟨k3, rfl⟩ : ∃ m, gk = m + 1 := ⟨gk - 1, by have := HK3.out; omega⟩
     have hwi : IntKind.i64.wrap ((i : Int) + 1) = ((i + 1 : Nat) : Int) := by have := HLL.out; rw [i64_w]; unfold wrap64; omega
     clear hi
     have p35 : 0 ≤ (i : Int) := by omega
     have q35 : (i : Int) < (l1.length : Int) := by have := HIi.out; omega
     obtain ⟨ad, A2, c2, e1, hx0, hx1, hx2, hl, hi⟩ := at_T51 HR1.out (i : Int) p35 q35
     cases e1
     have HDROP := Aside0.mk (drop_rd51 l1 i HIi.out)
     have HMEM := Aside0.mk (rd51_mem l1 i HIi.out)
     obtain ⟨c, hc⟩ : ∃ c, c = rd_T51 l1 (i : Int) := ⟨_, rfl⟩
     rw [← hc] at hx0 hx1 hx2 hl hi HDROP HMEM
     clear hc
     obtain ⟨f0, f1, f2⟩ := c
     dsimp only at hx0 hx1 hx2 hl hi
     replace hx0 := (HB.out.cell (World.block_lt_of_cell? w _ hx0)).trans hx0
     replace hx1 := (HB.out.cell (World.block_lt_of_cell? w _ hx1)).trans hx1
     replace hx2 := (HB.out.cell (World.block_lt_of_cell? w _ hx2)).trans hx2
     simp only [Int.toNat_natCast] at hx0 hx1 hx2
     have HFC := Aside0.mk hi
     have HFL := Aside0.mk hl
     have HOF := Aside0.mk (of_f f2 k (HGD.out _ HMEM.out).1 (HGD.out _ HMEM.out).2)
     clear hi hl
     replace p35 := eq_true p35
     replace q35 := eq_true q35
     by_cases hv : valid13 f2 = true
     ·rw [if_pos hv] at HOF
      by_cases h1 : f0 < 0
      ·have d1 : decide (f0 < 0) = true := decide_eq_true h1
       have HBAD : Aside0 (buildP n l1 = none) := ⟨by rw [← HREST.out, HDROP.out]; unfold cstr; rw [if_neg]; unfold cOk; dsimp only; exact fun hx => by have := hx.2.1; omega⟩
       clear h1 hv
       go_wp2_with (first | ((with_reducible refine gate_dst (N := 10) rfl ?_); refine box_event ?hg (N := 10) ?hd (cs := #[.int .i64 0, .int .i64 0, .slice none 0 0]) (t := 51) ?hr ?_; (case hd => rfl); (case hg => rfl); (case hr => first | (go_simp; done) | (go_simp; rfl) | (go_simp; kernel_rfl) | kernel_rfl); intro g10 hg w2 hbox hb; have BK10 := Aside0.mk hbox; have GBK10 := Aside0.mk (show w.heap.size ≤ g10 by rw [hg]; exact HB.out.size); have NBK4BK10 := Aside0.mk (show g4 ≠ g10 by rw [hg]; exact Nat.ne_of_lt (blk_lt BK4.out)); have NBK10BK4 := Aside0.mk (show g10 ≠ g4 by rw [hg]; exact Nat.ne_of_gt (blk_lt BK4.out)); have NBK6BK10 := Aside0.mk (show g6 ≠ g10 by rw [hg]; exact Nat.ne_of_lt (blk_lt BK6.out)); have NBK10BK6 := Aside0.mk (show g10 ≠ g6 by rw [hg]; exact Nat.ne_of_gt (blk_lt BK6.out)); have n0_ := Aside0.mk (below_step HB.out hb); have n1_ := Aside0.mk (blk_below BK4.out hb); have n2_ := Aside0.mk (blk_below BK6.out hb); clear HB BK4 BK6; have HB := n0_; have BK4 := n1_; have BK6 := n2_; clear n0_ n1_ n2_; clear hbox hb hg) | ((with_reducible refine gate_store (t := 51) (p := 10) (v := .tmp 38) rfl ?_); refine Blk.store_whole rfl rfl 51 (.tmp 10) (.tmp 38) rfl (#[.int .i64 f0, .int .i64 f1, .slice A2 f2.length c2]) rfl rfl rfl (by first | kernel_rfl | (rw [encs16_size]; kernel_rfl)) (by first | exact encs16_one _ | simp [Value.oneCell']) BK10.out (by first | rfl | (rw [encs16_size, encs16_size]; kernel_rfl)) ?_; intro w3 hb3 hg3; have n0_ := Aside0.mk (Blk.below_wrote HB.out hg3 GBK10.out HB.out.size); have n1_ := Aside0.mk (blk_grown BK4.out hg3 (by intro he; injection he with he; exact NBK4BK10.out he)); have n2_ := Aside0.mk (blk_grown BK6.out hg3 (by intro he; injection he with he; exact NBK6BK10.out he)); clear BK10; have BK10 := Aside0.mk hb3; clear HB BK4 BK6; have HB := n0_; have BK4 := n1_; have BK6 := n2_; clear n0_ n1_ n2_; clear hb3 hg3; have hl0 := (blk_cell BK10.out 0).trans rfl; have hl1 := (blk_cell BK10.out 1).trans rfl; have hl2 := (blk_cell BK10.out 2).trans rfl) | (go_at_call 42; (with_reducible refine (allen_of.calls k _ _ f2 _ _ _ ?side1 ?side2 HOF.out).mono ?_); (case side1 => exact Kd.C_below HFC.out HB.out); (case side2 => exact HFL.out); rintro e_ w9 ⟨rfl, hb⟩; have n0_ := Aside0.mk (below_step HB.out hb); have n1_ := Aside0.mk (blk_below BK4.out hb); have n2_ := Aside0.mk (blk_below BK6.out hb); have n3_ := Aside0.mk (blk_below BK10.out hb); clear HB BK4 BK6 BK10; have HB := n0_; have BK4 := n1_; have BK6 := n2_; have BK10 := n3_; clear n0_ n1_ n2_ n3_; clear hb; have hl0 := (blk_cell BK10.out 0).trans rfl; have hl1 := (blk_cell BK10.out 1).trans rfl) | ((with_reducible refine gate_dst (N := 11) rfl ?_); refine box_event ?hg (N := 11) ?hd (cs := #[.int .u16 0]) (t := 57) ?hr ?_; (case hd => rfl); (case hg => rfl); (case hr => first | (go_simp; done) | (go_simp; rfl) | (go_simp; kernel_rfl) | kernel_rfl); intro g11 hg w2 hbox hb; have BK11 := Aside0.mk hbox; have GBK11 := Aside0.mk (show w.heap.size ≤ g11 by rw [hg]; exact HB.out.size); have NBK4BK11 := Aside0.mk (show g4 ≠ g11 by rw [hg]; exact Nat.ne_of_lt (blk_lt BK4.out)); have NBK11BK4 := Aside0.mk (show g11 ≠ g4 by rw [hg]; exact Nat.ne_of_gt (blk_lt BK4.out)); have NBK6BK11 := Aside0.mk (show g6 ≠ g11 by rw [hg]; exact Nat.ne_of_lt (blk_lt BK6.out)); have NBK11BK6 := Aside0.mk (show g11 ≠ g6 by rw [hg]; exact Nat.ne_of_gt (blk_lt BK6.out)); have NBK10BK11 := Aside0.mk (show g10 ≠ g11 by rw [hg]; exact Nat.ne_of_lt (blk_lt BK10.out)); have NBK11BK10 := Aside0.mk (show g11 ≠ g10 by rw [hg]; exact Nat.ne_of_gt (blk_lt BK10.out)); have n0_ := Aside0.mk (below_step HB.out hb); have n1_ := Aside0.mk (blk_below BK4.out hb); have n2_ := Aside0.mk (blk_below BK6.out hb); have n3_ := Aside0.mk (blk_below BK10.out hb); clear HB BK4 BK6 BK10; have HB := n0_; have BK4 := n1_; have BK6 := n2_; have BK10 := n3_; clear n0_ n1_ n2_ n3_; clear hbox hb hg) | ((with_reducible refine gate_store (t := 57) (p := 11) (v := .tmp 43) rfl ?_); refine Blk.store_whole rfl rfl 57 (.tmp 11) (.tmp 43) rfl (#[.int .u16 ((ofS f2 0 : Int))]) rfl rfl rfl (by first | kernel_rfl | (rw [encs16_size]; kernel_rfl)) (by first | exact encs16_one _ | simp [Value.oneCell']) BK11.out (by first | rfl | (rw [encs16_size, encs16_size]; kernel_rfl)) ?_; intro w3 hb3 hg3; have n0_ := Aside0.mk (Blk.below_wrote HB.out hg3 GBK11.out HB.out.size); have n1_ := Aside0.mk (blk_grown BK4.out hg3 (by intro he; injection he with he; exact NBK4BK11.out he)); have n2_ := Aside0.mk (blk_grown BK6.out hg3 (by intro he; injection he with he; exact NBK6BK11.out he)); have n3_ := Aside0.mk (blk_grown BK10.out hg3 (by intro he; injection he with he; exact NBK10BK11.out he)); clear BK11; have BK11 := Aside0.mk hb3; clear HB BK4 BK6 BK10; have HB := n0_; have BK4 := n1_; have BK6 := n2_; have BK10 := n3_; clear n0_ n1_ n2_ n3_; clear hb3 hg3; have hl0 := (blk_cell BK10.out 0).trans rfl; have hl1 := (blk_cell BK10.out 1).trans rfl; have hl2 := (blk_cell BK10.out 2).trans rfl) | ((with_reducible refine gate_store (t := 67) (p := 4) (v := .tmp 69) rfl ?_); refine Blk.store_whole rfl rfl 67 (.tmp 4) (.tmp 69) rfl (encs16 (List.replicate 64 0)) rfl rfl rfl (by kernel_rfl) (encs16_one _) BK4.out rfl ?_; intro w5 hb5 hg5; have n0_ := Aside0.mk (Blk.below_wrote HB.out hg5 GBK4.out HB.out.size); clear HB BK4; have HB := n0_; have BK4 := Aside0.mk hb5; clear n0_ hb5 hg5))
       refine bodyPost_ret (results_ct rfl _ _ g4 67 (encs16 (List.replicate 64 0)) (0, 0) _ rfl BK4.out Try.underlying67 rfl (by kernel_rfl)) rfl ?_
       exact ⟨by rw [HBAD.out]; rfl, HB.out⟩
      ·by_cases h2 : (n : Int) ≤ f0
       ·have d1 : decide (f0 < 0) = false := decide_eq_false h1
        have d2 : decide ((n : Int) ≤ f0) = true := decide_eq_true h2
        have HBAD : Aside0 (buildP n l1 = none) := ⟨by rw [← HREST.out, HDROP.out]; unfold cstr; rw [if_neg]; unfold cOk; dsimp only; exact fun hx => by have := hx.2.1; omega⟩
        clear h1 h2 hv
        go_wp2_with (first | ((with_reducible refine gate_dst (N := 10) rfl ?_); refine box_event ?hg (N := 10) ?hd (cs := #[.int .i64 0, .int .i64 0, .slice none 0 0]) (t := 51) ?hr ?_; (case hd => rfl); (case hg => rfl); (case hr => first | (go_simp; done) | (go_simp; rfl) | (go_simp; kernel_rfl) | kernel_rfl); intro g10 hg w2 hbox hb; have BK10 := Aside0.mk hbox; have GBK10 := Aside0.mk (show w.heap.size ≤ g10 by rw [hg]; exact HB.out.size); have NBK4BK10 := Aside0.mk (show g4 ≠ g10 by rw [hg]; exact Nat.ne_of_lt (blk_lt BK4.out)); have NBK10BK4 := Aside0.mk (show g10 ≠ g4 by rw [hg]; exact Nat.ne_of_gt (blk_lt BK4.out)); have NBK6BK10 := Aside0.mk (show g6 ≠ g10 by rw [hg]; exact Nat.ne_of_lt (blk_lt BK6.out)); have NBK10BK6 := Aside0.mk (show g10 ≠ g6 by rw [hg]; exact Nat.ne_of_gt (blk_lt BK6.out)); have n0_ := Aside0.mk (below_step HB.out hb); have n1_ := Aside0.mk (blk_below BK4.out hb); have n2_ := Aside0.mk (blk_below BK6.out hb); clear HB BK4 BK6; have HB := n0_; have BK4 := n1_; have BK6 := n2_; clear n0_ n1_ n2_; clear hbox hb hg) | ((with_reducible refine gate_store (t := 51) (p := 10) (v := .tmp 38) rfl ?_); refine Blk.store_whole rfl rfl 51 (.tmp 10) (.tmp 38) rfl (#[.int .i64 f0, .int .i64 f1, .slice A2 f2.length c2]) rfl rfl rfl (by first | kernel_rfl | (rw [encs16_size]; kernel_rfl)) (by first | exact encs16_one _ | simp [Value.oneCell']) BK10.out (by first | rfl | (rw [encs16_size, encs16_size]; kernel_rfl)) ?_; intro w3 hb3 hg3; have n0_ := Aside0.mk (Blk.below_wrote HB.out hg3 GBK10.out HB.out.size); have n1_ := Aside0.mk (blk_grown BK4.out hg3 (by intro he; injection he with he; exact NBK4BK10.out he)); have n2_ := Aside0.mk (blk_grown BK6.out hg3 (by intro he; injection he with he; exact NBK6BK10.out he)); clear BK10; have BK10 := Aside0.mk hb3; clear HB BK4 BK6; have HB := n0_; have BK4 := n1_; have BK6 := n2_; clear n0_ n1_ n2_; clear hb3 hg3; have hl0 := (blk_cell BK10.out 0).trans rfl; have hl1 := (blk_cell BK10.out 1).trans rfl; have hl2 := (blk_cell BK10.out 2).trans rfl) | (go_at_call 42; (with_reducible refine (allen_of.calls k _ _ f2 _ _ _ ?side1 ?side2 HOF.out).mono ?_); (case side1 => exact Kd.C_below HFC.out HB.out); (case side2 => exact HFL.out); rintro e_ w9 ⟨rfl, hb⟩; have n0_ := Aside0.mk (below_step HB.out hb); have n1_ := Aside0.mk (blk_below BK4.out hb); have n2_ := Aside0.mk (blk_below BK6.out hb); have n3_ := Aside0.mk (blk_below BK10.out hb); clear HB BK4 BK6 BK10; have HB := n0_; have BK4 := n1_; have BK6 := n2_; have BK10 := n3_; clear n0_ n1_ n2_ n3_; clear hb; have hl0 := (blk_cell BK10.out 0).trans rfl; have hl1 := (blk_cell BK10.out 1).trans rfl) | ((with_reducible refine gate_dst (N := 11) rfl ?_); refine box_event ?hg (N := 11) ?hd (cs := #[.int .u16 0]) (t := 57) ?hr ?_; (case hd => rfl); (case hg => rfl); (case hr => first | (go_simp; done) | (go_simp; rfl) | (go_simp; kernel_rfl) | kernel_rfl); intro g11 hg w2 hbox hb; have BK11 := Aside0.mk hbox; have GBK11 := Aside0.mk (show w.heap.size ≤ g11 by rw [hg]; exact HB.out.size); have NBK4BK11 := Aside0.mk (show g4 ≠ g11 by rw [hg]; exact Nat.ne_of_lt (blk_lt BK4.out)); have NBK11BK4 := Aside0.mk (show g11 ≠ g4 by rw [hg]; exact Nat.ne_of_gt (blk_lt BK4.out)); have NBK6BK11 := Aside0.mk (show g6 ≠ g11 by rw [hg]; exact Nat.ne_of_lt (blk_lt BK6.out)); have NBK11BK6 := Aside0.mk (show g11 ≠ g6 by rw [hg]; exact Nat.ne_of_gt (blk_lt BK6.out)); have NBK10BK11 := Aside0.mk (show g10 ≠ g11 by rw [hg]; exact Nat.ne_of_lt (blk_lt BK10.out)); have NBK11BK10 := Aside0.mk (show g11 ≠ g10 by rw [hg]; exact Nat.ne_of_gt (blk_lt BK10.out)); have n0_ := Aside0.mk (below_step HB.out hb); have n1_ := Aside0.mk (blk_below BK4.out hb); have n2_ := Aside0.mk (blk_below BK6.out hb); have n3_ := Aside0.mk (blk_below BK10.out hb); clear HB BK4 BK6 BK10; have HB := n0_; have BK4 := n1_; have BK6 := n2_; have BK10 := n3_; clear n0_ n1_ n2_ n3_; clear hbox hb hg) | ((with_reducible refine gate_store (t := 57) (p := 11) (v := .tmp 43) rfl ?_); refine Blk.store_whole rfl rfl 57 (.tmp 11) (.tmp 43) rfl (#[.int .u16 ((ofS f2 0 : Int))]) rfl rfl rfl (by first | kernel_rfl | (rw [encs16_size]; kernel_rfl)) (by first | exact encs16_one _ | simp [Value.oneCell']) BK11.out (by first | rfl | (rw [encs16_size, encs16_size]; kernel_rfl)) ?_; intro w3 hb3 hg3; have n0_ := Aside0.mk (Blk.below_wrote HB.out hg3 GBK11.out HB.out.size); have n1_ := Aside0.mk (blk_grown BK4.out hg3 (by intro he; injection he with he; exact NBK4BK11.out he)); have n2_ := Aside0.mk (blk_grown BK6.out hg3 (by intro he; injection he with he; exact NBK6BK11.out he)); have n3_ := Aside0.mk (blk_grown BK10.out hg3 (by intro he; injection he with he; exact NBK10BK11.out he)); clear BK11; have BK11 := Aside0.mk hb3; clear HB BK4 BK6 BK10; have HB := n0_; have BK4 := n1_; have BK6 := n2_; have BK10 := n3_; clear n0_ n1_ n2_ n3_; clear hb3 hg3; have hl0 := (blk_cell BK10.out 0).trans rfl; have hl1 := (blk_cell BK10.out 1).trans rfl; have hl2 := (blk_cell BK10.out 2).trans rfl) | ((with_reducible refine gate_store (t := 67) (p := 4) (v := .tmp 69) rfl ?_); refine Blk.store_whole rfl rfl 67 (.tmp 4) (.tmp 69) rfl (encs16 (List.replicate 64 0)) rfl rfl rfl (by kernel_rfl) (encs16_one _) BK4.out rfl ?_; intro w5 hb5 hg5; have n0_ := Aside0.mk (Blk.below_wrote HB.out hg5 GBK4.out HB.out.size); clear HB BK4; have HB := n0_; have BK4 := Aside0.mk hb5; clear n0_ hb5 hg5))
        refine bodyPost_ret (results_ct rfl _ _ g4 67 (encs16 (List.replicate 64 0)) (0, 0) _ rfl BK4.out Try.underlying67 rfl (by kernel_rfl)) rfl ?_
        exact ⟨by rw [HBAD.out]; rfl, HB.out⟩
       ·by_cases h3 : f1 < 0
        ·have d1 : decide (f0 < 0) = false := decide_eq_false h1
         have d2 : decide ((n : Int) ≤ f0) = false := decide_eq_false h2
         have d3 : decide (f1 < 0) = true := decide_eq_true h3
         have HBAD : Aside0 (buildP n l1 = none) := ⟨by rw [← HREST.out, HDROP.out]; unfold cstr; rw [if_neg]; unfold cOk; dsimp only; exact fun hx => by have := hx.2.2; omega⟩
         clear h1 h2 h3 hv
         go_wp2_with (first | ((with_reducible refine gate_dst (N := 10) rfl ?_); refine box_event ?hg (N := 10) ?hd (cs := #[.int .i64 0, .int .i64 0, .slice none 0 0]) (t := 51) ?hr ?_; (case hd => rfl); (case hg => rfl); (case hr => first | (go_simp; done) | (go_simp; rfl) | (go_simp; kernel_rfl) | kernel_rfl); intro g10 hg w2 hbox hb; have BK10 := Aside0.mk hbox; have GBK10 := Aside0.mk (show w.heap.size ≤ g10 by rw [hg]; exact HB.out.size); have NBK4BK10 := Aside0.mk (show g4 ≠ g10 by rw [hg]; exact Nat.ne_of_lt (blk_lt BK4.out)); have NBK10BK4 := Aside0.mk (show g10 ≠ g4 by rw [hg]; exact Nat.ne_of_gt (blk_lt BK4.out)); have NBK6BK10 := Aside0.mk (show g6 ≠ g10 by rw [hg]; exact Nat.ne_of_lt (blk_lt BK6.out)); have NBK10BK6 := Aside0.mk (show g10 ≠ g6 by rw [hg]; exact Nat.ne_of_gt (blk_lt BK6.out)); have n0_ := Aside0.mk (below_step HB.out hb); have n1_ := Aside0.mk (blk_below BK4.out hb); have n2_ := Aside0.mk (blk_below BK6.out hb); clear HB BK4 BK6; have HB := n0_; have BK4 := n1_; have BK6 := n2_; clear n0_ n1_ n2_; clear hbox hb hg) | ((with_reducible refine gate_store (t := 51) (p := 10) (v := .tmp 38) rfl ?_); refine Blk.store_whole rfl rfl 51 (.tmp 10) (.tmp 38) rfl (#[.int .i64 f0, .int .i64 f1, .slice A2 f2.length c2]) rfl rfl rfl (by first | kernel_rfl | (rw [encs16_size]; kernel_rfl)) (by first | exact encs16_one _ | simp [Value.oneCell']) BK10.out (by first | rfl | (rw [encs16_size, encs16_size]; kernel_rfl)) ?_; intro w3 hb3 hg3; have n0_ := Aside0.mk (Blk.below_wrote HB.out hg3 GBK10.out HB.out.size); have n1_ := Aside0.mk (blk_grown BK4.out hg3 (by intro he; injection he with he; exact NBK4BK10.out he)); have n2_ := Aside0.mk (blk_grown BK6.out hg3 (by intro he; injection he with he; exact NBK6BK10.out he)); clear BK10; have BK10 := Aside0.mk hb3; clear HB BK4 BK6; have HB := n0_; have BK4 := n1_; have BK6 := n2_; clear n0_ n1_ n2_; clear hb3 hg3; have hl0 := (blk_cell BK10.out 0).trans rfl; have hl1 := (blk_cell BK10.out 1).trans rfl; have hl2 := (blk_cell BK10.out 2).trans rfl) | (go_at_call 42; (with_reducible refine (allen_of.calls k _ _ f2 _ _ _ ?side1 ?side2 HOF.out).mono ?_); (case side1 => exact Kd.C_below HFC.out HB.out); (case side2 => exact HFL.out); rintro e_ w9 ⟨rfl, hb⟩; have n0_ := Aside0.mk (below_step HB.out hb); have n1_ := Aside0.mk (blk_below BK4.out hb); have n2_ := Aside0.mk (blk_below BK6.out hb); have n3_ := Aside0.mk (blk_below BK10.out hb); clear HB BK4 BK6 BK10; have HB := n0_; have BK4 := n1_; have BK6 := n2_; have BK10 := n3_; clear n0_ n1_ n2_ n3_; clear hb; have hl0 := (blk_cell BK10.out 0).trans rfl; have hl1 := (blk_cell BK10.out 1).trans rfl) | ((with_reducible refine gate_dst (N := 11) rfl ?_); refine box_event ?hg (N := 11) ?hd (cs := #[.int .u16 0]) (t := 57) ?hr ?_; (case hd => rfl); (case hg => rfl); (case hr => first | (go_simp; done) | (go_simp; rfl) | (go_simp; kernel_rfl) | kernel_rfl); intro g11 hg w2 hbox hb; have BK11 := Aside0.mk hbox; have GBK11 := Aside0.mk (show w.heap.size ≤ g11 by rw [hg]; exact HB.out.size); have NBK4BK11 := Aside0.mk (show g4 ≠ g11 by rw [hg]; exact Nat.ne_of_lt (blk_lt BK4.out)); have NBK11BK4 := Aside0.mk (show g11 ≠ g4 by rw [hg]; exact Nat.ne_of_gt (blk_lt BK4.out)); have NBK6BK11 := Aside0.mk (show g6 ≠ g11 by rw [hg]; exact Nat.ne_of_lt (blk_lt BK6.out)); have NBK11BK6 := Aside0.mk (show g11 ≠ g6 by rw [hg]; exact Nat.ne_of_gt (blk_lt BK6.out)); have NBK10BK11 := Aside0.mk (show g10 ≠ g11 by rw [hg]; exact Nat.ne_of_lt (blk_lt BK10.out)); have NBK11BK10 := Aside0.mk (show g11 ≠ g10 by rw [hg]; exact Nat.ne_of_gt (blk_lt BK10.out)); have n0_ := Aside0.mk (below_step HB.out hb); have n1_ := Aside0.mk (blk_below BK4.out hb); have n2_ := Aside0.mk (blk_below BK6.out hb); have n3_ := Aside0.mk (blk_below BK10.out hb); clear HB BK4 BK6 BK10; have HB := n0_; have BK4 := n1_; have BK6 := n2_; have BK10 := n3_; clear n0_ n1_ n2_ n3_; clear hbox hb hg) | ((with_reducible refine gate_store (t := 57) (p := 11) (v := .tmp 43) rfl ?_); refine Blk.store_whole rfl rfl 57 (.tmp 11) (.tmp 43) rfl (#[.int .u16 ((ofS f2 0 : Int))]) rfl rfl rfl (by first | kernel_rfl | (rw [encs16_size]; kernel_rfl)) (by first | exact encs16_one _ | simp [Value.oneCell']) BK11.out (by first | rfl | (rw [encs16_size, encs16_size]; kernel_rfl)) ?_; intro w3 hb3 hg3; have n0_ := Aside0.mk (Blk.below_wrote HB.out hg3 GBK11.out HB.out.size); have n1_ := Aside0.mk (blk_grown BK4.out hg3 (by intro he; injection he with he; exact NBK4BK11.out he)); have n2_ := Aside0.mk (blk_grown BK6.out hg3 (by intro he; injection he with he; exact NBK6BK11.out he)); have n3_ := Aside0.mk (blk_grown BK10.out hg3 (by intro he; injection he with he; exact NBK10BK11.out he)); clear BK11; have BK11 := Aside0.mk hb3; clear HB BK4 BK6 BK10; have HB := n0_; have BK4 := n1_; have BK6 := n2_; have BK10 := n3_; clear n0_ n1_ n2_ n3_; clear hb3 hg3; have hl0 := (blk_cell BK10.out 0).trans rfl; have hl1 := (blk_cell BK10.out 1).trans rfl; have hl2 := (blk_cell BK10.out 2).trans rfl) | ((with_reducible refine gate_store (t := 67) (p := 4) (v := .tmp 69) rfl ?_); refine Blk.store_whole rfl rfl 67 (.tmp 4) (.tmp 69) rfl (encs16 (List.replicate 64 0)) rfl rfl rfl (by kernel_rfl) (encs16_one _) BK4.out rfl ?_; intro w5 hb5 hg5; have n0_ := Aside0.mk (Blk.below_wrote HB.out hg5 GBK4.out HB.out.size); clear HB BK4; have HB := n0_; have BK4 := Aside0.mk hb5; clear n0_ hb5 hg5))
         refine bodyPost_ret (results_ct rfl _ _ g4 67 (encs16 (List.replicate 64 0)) (0, 0) _ rfl BK4.out Try.underlying67 rfl (by kernel_rfl)) rfl ?_
         exact ⟨by rw [HBAD.out]; rfl, HB.out⟩
        ·by_cases h4 : (n : Int) ≤ f1
         ·have d1 : decide (f0 < 0) = false := decide_eq_false h1
          have d2 : decide ((n : Int) ≤ f0) = false := decide_eq_false h2
          have d3 : decide (f1 < 0) = false := decide_eq_false h3
          have d4 : decide ((n : Int) ≤ f1) = true := decide_eq_true h4
          have HBAD : Aside0 (buildP n l1 = none) := ⟨by rw [← HREST.out, HDROP.out]; unfold cstr; rw [if_neg]; unfold cOk; dsimp only; exact fun hx => by have := hx.2.2; omega⟩
          clear h1 h2 h3 h4 hv
          go_wp2_with (first | ((with_reducible refine gate_dst (N := 10) rfl ?_); refine box_event ?hg (N := 10) ?hd (cs := #[.int .i64 0, .int .i64 0, .slice none 0 0]) (t := 51) ?hr ?_; (case hd => rfl); (case hg => rfl); (case hr => first | (go_simp; done) | (go_simp; rfl) | (go_simp; kernel_rfl) | kernel_rfl); intro g10 hg w2 hbox hb; have BK10 := Aside0.mk hbox; have GBK10 := Aside0.mk (show w.heap.size ≤ g10 by rw [hg]; exact HB.out.size); have NBK4BK10 := Aside0.mk (show g4 ≠ g10 by rw [hg]; exact Nat.ne_of_lt (blk_lt BK4.out)); have NBK10BK4 := Aside0.mk (show g10 ≠ g4 by rw [hg]; exact Nat.ne_of_gt (blk_lt BK4.out)); have NBK6BK10 := Aside0.mk (show g6 ≠ g10 by rw [hg]; exact Nat.ne_of_lt (blk_lt BK6.out)); have NBK10BK6 := Aside0.mk (show g10 ≠ g6 by rw [hg]; exact Nat.ne_of_gt (blk_lt BK6.out)); have n0_ := Aside0.mk (below_step HB.out hb); have n1_ := Aside0.mk (blk_below BK4.out hb); have n2_ := Aside0.mk (blk_below BK6.out hb); clear HB BK4 BK6; have HB := n0_; have BK4 := n1_; have BK6 := n2_; clear n0_ n1_ n2_; clear hbox hb hg) | ((with_reducible refine gate_store (t := 51) (p := 10) (v := .tmp 38) rfl ?_); refine Blk.store_whole rfl rfl 51 (.tmp 10) (.tmp 38) rfl (#[.int .i64 f0, .int .i64 f1, .slice A2 f2.length c2]) rfl rfl rfl (by first | kernel_rfl | (rw [encs16_size]; kernel_rfl)) (by first | exact encs16_one _ | simp [Value.oneCell']) BK10.out (by first | rfl | (rw [encs16_size, encs16_size]; kernel_rfl)) ?_; intro w3 hb3 hg3; have n0_ := Aside0.mk (Blk.below_wrote HB.out hg3 GBK10.out HB.out.size); have n1_ := Aside0.mk (blk_grown BK4.out hg3 (by intro he; injection he with he; exact NBK4BK10.out he)); have n2_ := Aside0.mk (blk_grown BK6.out hg3 (by intro he; injection he with he; exact NBK6BK10.out he)); clear BK10; have BK10 := Aside0.mk hb3; clear HB BK4 BK6; have HB := n0_; have BK4 := n1_; have BK6 := n2_; clear n0_ n1_ n2_; clear hb3 hg3; have hl0 := (blk_cell BK10.out 0).trans rfl; have hl1 := (blk_cell BK10.out 1).trans rfl; have hl2 := (blk_cell BK10.out 2).trans rfl) | (go_at_call 42; (with_reducible refine (allen_of.calls k _ _ f2 _ _ _ ?side1 ?side2 HOF.out).mono ?_); (case side1 => exact Kd.C_below HFC.out HB.out); (case side2 => exact HFL.out); rintro e_ w9 ⟨rfl, hb⟩; have n0_ := Aside0.mk (below_step HB.out hb); have n1_ := Aside0.mk (blk_below BK4.out hb); have n2_ := Aside0.mk (blk_below BK6.out hb); have n3_ := Aside0.mk (blk_below BK10.out hb); clear HB BK4 BK6 BK10; have HB := n0_; have BK4 := n1_; have BK6 := n2_; have BK10 := n3_; clear n0_ n1_ n2_ n3_; clear hb; have hl0 := (blk_cell BK10.out 0).trans rfl; have hl1 := (blk_cell BK10.out 1).trans rfl) | ((with_reducible refine gate_dst (N := 11) rfl ?_); refine box_event ?hg (N := 11) ?hd (cs := #[.int .u16 0]) (t := 57) ?hr ?_; (case hd => rfl); (case hg => rfl); (case hr => first | (go_simp; done) | (go_simp; rfl) | (go_simp; kernel_rfl) | kernel_rfl); intro g11 hg w2 hbox hb; have BK11 := Aside0.mk hbox; have GBK11 := Aside0.mk (show w.heap.size ≤ g11 by rw [hg]; exact HB.out.size); have NBK4BK11 := Aside0.mk (show g4 ≠ g11 by rw [hg]; exact Nat.ne_of_lt (blk_lt BK4.out)); have NBK11BK4 := Aside0.mk (show g11 ≠ g4 by rw [hg]; exact Nat.ne_of_gt (blk_lt BK4.out)); have NBK6BK11 := Aside0.mk (show g6 ≠ g11 by rw [hg]; exact Nat.ne_of_lt (blk_lt BK6.out)); have NBK11BK6 := Aside0.mk (show g11 ≠ g6 by rw [hg]; exact Nat.ne_of_gt (blk_lt BK6.out)); have NBK10BK11 := Aside0.mk (show g10 ≠ g11 by rw [hg]; exact Nat.ne_of_lt (blk_lt BK10.out)); have NBK11BK10 := Aside0.mk (show g11 ≠ g10 by rw [hg]; exact Nat.ne_of_gt (blk_lt BK10.out)); have n0_ := Aside0.mk (below_step HB.out hb); have n1_ := Aside0.mk (blk_below BK4.out hb); have n2_ := Aside0.mk (blk_below BK6.out hb); have n3_ := Aside0.mk (blk_below BK10.out hb); clear HB BK4 BK6 BK10; have HB := n0_; have BK4 := n1_; have BK6 := n2_; have BK10 := n3_; clear n0_ n1_ n2_ n3_; clear hbox hb hg) | ((with_reducible refine gate_store (t := 57) (p := 11) (v := .tmp 43) rfl ?_); refine Blk.store_whole rfl rfl 57 (.tmp 11) (.tmp 43) rfl (#[.int .u16 ((ofS f2 0 : Int))]) rfl rfl rfl (by first | kernel_rfl | (rw [encs16_size]; kernel_rfl)) (by first | exact encs16_one _ | simp [Value.oneCell']) BK11.out (by first | rfl | (rw [encs16_size, encs16_size]; kernel_rfl)) ?_; intro w3 hb3 hg3; have n0_ := Aside0.mk (Blk.below_wrote HB.out hg3 GBK11.out HB.out.size); have n1_ := Aside0.mk (blk_grown BK4.out hg3 (by intro he; injection he with he; exact NBK4BK11.out he)); have n2_ := Aside0.mk (blk_grown BK6.out hg3 (by intro he; injection he with he; exact NBK6BK11.out he)); have n3_ := Aside0.mk (blk_grown BK10.out hg3 (by intro he; injection he with he; exact NBK10BK11.out he)); clear BK11; have BK11 := Aside0.mk hb3; clear HB BK4 BK6 BK10; have HB := n0_; have BK4 := n1_; have BK6 := n2_; have BK10 := n3_; clear n0_ n1_ n2_ n3_; clear hb3 hg3; have hl0 := (blk_cell BK10.out 0).trans rfl; have hl1 := (blk_cell BK10.out 1).trans rfl; have hl2 := (blk_cell BK10.out 2).trans rfl) | ((with_reducible refine gate_store (t := 67) (p := 4) (v := .tmp 69) rfl ?_); refine Blk.store_whole rfl rfl 67 (.tmp 4) (.tmp 69) rfl (encs16 (List.replicate 64 0)) rfl rfl rfl (by kernel_rfl) (encs16_one _) BK4.out rfl ?_; intro w5 hb5 hg5; have n0_ := Aside0.mk (Blk.below_wrote HB.out hg5 GBK4.out HB.out.size); clear HB BK4; have HB := n0_; have BK4 := Aside0.mk hb5; clear n0_ hb5 hg5))
          refine bodyPost_ret (results_ct rfl _ _ g4 67 (encs16 (List.replicate 64 0)) (0, 0) _ rfl BK4.out Try.underlying67 rfl (by kernel_rfl)) rfl ?_
          exact ⟨by rw [HBAD.out]; rfl, HB.out⟩
         ·obtain ⟨a, rfl⟩ : ∃ a : Nat, f0 = (a : Int) := ⟨f0.toNat, by omega⟩
          obtain ⟨b, rfl⟩ : ∃ b : Nat, f1 = (b : Int) := ⟨f1.toNat, by omega⟩
          have HLA : Aside0 (a < n) := ⟨by omega⟩
          have HLB : Aside0 (b < n) := ⟨by omega⟩
          have d1 : decide ((a : Int) < 0) = false := decide_eq_false (by omega)
          have d2 : decide ((n : Int) ≤ (a : Int)) = false := decide_eq_false (by omega)
          have d2' : decide (n ≤ a) = false := decide_eq_false (by omega)
          have d3 : decide ((b : Int) < 0) = false := decide_eq_false (by omega)
          have d4 : decide ((n : Int) ≤ (b : Int)) = false := decide_eq_false (by omega)
          have d4' : decide (n ≤ b) = false := decide_eq_false (by omega)
          have pa : (0 ≤ (a : Int)) = True := eq_true (by omega)
          have pa' : ((a : Int) < 8) = True := eq_true (by have := HN.out; omega)
          have pb : (0 ≤ (b : Int)) = True := eq_true (by omega)
          have pb' : ((b : Int) < 8) = True := eq_true (by have := HN.out; omega)
          have HREST2 : Aside0 (cstr n (l1.drop (i + 1)) (cstep cu ⟨(a : Int), (b : Int), f2⟩) = buildP n l1) := ⟨by rw [← HREST.out, HDROP.out]; conv => rhs; unfold cstr; rw [if_pos (show cOk n ⟨(a : Int), (b : Int), f2⟩ from ⟨hv, ⟨(show 0 ≤ (a : Int) by omega), (show (a : Int) < n by omega)⟩, (show 0 ≤ (b : Int) by omega), (show (b : Int) < n by omega)⟩)]⟩
          obtain ⟨sv, hsv⟩ : ∃ sv, sv = ofS f2 0 := ⟨_, rfl⟩
          rw [← hsv] at HOF
          have HSL : Aside0 (sv < 65536) := ⟨by rw [hsv]; exact Nat.lt_trans (ofS_lt f2 0 hv (by decide)) (by decide)⟩
          have HSV := Aside0.mk hsv
          have HC1 := Aside0.mk (encs16_net HOK.out a b (by have := HN.out; omega) (by have := HN.out; omega))
          have HAND1 := Aside0.mk (and_f (netAt cu a b) sv (Nat.lt_trans (HOK.out.at a b) (by decide)) HSL.out)
          have HINV := Aside0.mk (inv_f sv k HSL.out HK20.out)
          clear hsv hv h1 h2 h3 h4
          go_wp2_with (first | ((with_reducible refine gate_dst (N := 10) rfl ?_); refine box_event ?hg (N := 10) ?hd (cs := #[.int .i64 0, .int .i64 0, .slice none 0 0]) (t := 51) ?hr ?_; (case hd => rfl); (case hg => rfl); (case hr => first | (go_simp; done) | (go_simp; rfl) | (go_simp; kernel_rfl) | kernel_rfl); intro g10 hg w2 hbox hb; have BK10 := Aside0.mk hbox; have GBK10 := Aside0.mk (show w.heap.size ≤ g10 by rw [hg]; exact HB.out.size); have NBK4BK10 := Aside0.mk (show g4 ≠ g10 by rw [hg]; exact Nat.ne_of_lt (blk_lt BK4.out)); have NBK10BK4 := Aside0.mk (show g10 ≠ g4 by rw [hg]; exact Nat.ne_of_gt (blk_lt BK4.out)); have NBK6BK10 := Aside0.mk (show g6 ≠ g10 by rw [hg]; exact Nat.ne_of_lt (blk_lt BK6.out)); have NBK10BK6 := Aside0.mk (show g10 ≠ g6 by rw [hg]; exact Nat.ne_of_gt (blk_lt BK6.out)); have n0_ := Aside0.mk (below_step HB.out hb); have n1_ := Aside0.mk (blk_below BK4.out hb); have n2_ := Aside0.mk (blk_below BK6.out hb); clear HB BK4 BK6; have HB := n0_; have BK4 := n1_; have BK6 := n2_; clear n0_ n1_ n2_; clear hbox hb hg) | ((with_reducible refine gate_store (t := 51) (p := 10) (v := .tmp 38) rfl ?_); refine Blk.store_whole rfl rfl 51 (.tmp 10) (.tmp 38) rfl (#[.int .i64 (a : Int), .int .i64 (b : Int), .slice A2 f2.length c2]) rfl rfl rfl (by first | kernel_rfl | (rw [encs16_size]; kernel_rfl)) (by first | exact encs16_one _ | simp [Value.oneCell']) BK10.out (by first | rfl | (rw [encs16_size, encs16_size]; kernel_rfl)) ?_; intro w3 hb3 hg3; have n0_ := Aside0.mk (Blk.below_wrote HB.out hg3 GBK10.out HB.out.size); have n1_ := Aside0.mk (blk_grown BK4.out hg3 (by intro he; injection he with he; exact NBK4BK10.out he)); have n2_ := Aside0.mk (blk_grown BK6.out hg3 (by intro he; injection he with he; exact NBK6BK10.out he)); clear BK10; have BK10 := Aside0.mk hb3; clear HB BK4 BK6; have HB := n0_; have BK4 := n1_; have BK6 := n2_; clear n0_ n1_ n2_; clear hb3 hg3; have hl0 := (blk_cell BK10.out 0).trans rfl; have hl1 := (blk_cell BK10.out 1).trans rfl; have hl2 := (blk_cell BK10.out 2).trans rfl) | (go_at_call 42; (with_reducible refine (allen_of.calls k _ _ f2 _ _ _ ?side1 ?side2 HOF.out).mono ?_); (case side1 => exact Kd.C_below HFC.out HB.out); (case side2 => exact HFL.out); rintro e_ w9 ⟨rfl, hb⟩; have n0_ := Aside0.mk (below_step HB.out hb); have n1_ := Aside0.mk (blk_below BK4.out hb); have n2_ := Aside0.mk (blk_below BK6.out hb); have n3_ := Aside0.mk (blk_below BK10.out hb); clear HB BK4 BK6 BK10; have HB := n0_; have BK4 := n1_; have BK6 := n2_; have BK10 := n3_; clear n0_ n1_ n2_ n3_; clear hb; have hl0 := (blk_cell BK10.out 0).trans rfl; have hl1 := (blk_cell BK10.out 1).trans rfl) | ((with_reducible refine gate_dst (N := 11) rfl ?_); refine box_event ?hg (N := 11) ?hd (cs := #[.int .u16 0]) (t := 57) ?hr ?_; (case hd => rfl); (case hg => rfl); (case hr => first | (go_simp; done) | (go_simp; rfl) | (go_simp; kernel_rfl) | kernel_rfl); intro g11 hg w2 hbox hb; have BK11 := Aside0.mk hbox; have GBK11 := Aside0.mk (show w.heap.size ≤ g11 by rw [hg]; exact HB.out.size); have NBK4BK11 := Aside0.mk (show g4 ≠ g11 by rw [hg]; exact Nat.ne_of_lt (blk_lt BK4.out)); have NBK11BK4 := Aside0.mk (show g11 ≠ g4 by rw [hg]; exact Nat.ne_of_gt (blk_lt BK4.out)); have NBK6BK11 := Aside0.mk (show g6 ≠ g11 by rw [hg]; exact Nat.ne_of_lt (blk_lt BK6.out)); have NBK11BK6 := Aside0.mk (show g11 ≠ g6 by rw [hg]; exact Nat.ne_of_gt (blk_lt BK6.out)); have NBK10BK11 := Aside0.mk (show g10 ≠ g11 by rw [hg]; exact Nat.ne_of_lt (blk_lt BK10.out)); have NBK11BK10 := Aside0.mk (show g11 ≠ g10 by rw [hg]; exact Nat.ne_of_gt (blk_lt BK10.out)); have n0_ := Aside0.mk (below_step HB.out hb); have n1_ := Aside0.mk (blk_below BK4.out hb); have n2_ := Aside0.mk (blk_below BK6.out hb); have n3_ := Aside0.mk (blk_below BK10.out hb); clear HB BK4 BK6 BK10; have HB := n0_; have BK4 := n1_; have BK6 := n2_; have BK10 := n3_; clear n0_ n1_ n2_ n3_; clear hbox hb hg) | ((with_reducible refine gate_store (t := 57) (p := 11) (v := .tmp 43) rfl ?_); refine Blk.store_whole rfl rfl 57 (.tmp 11) (.tmp 43) rfl (#[.int .u16 (sv : Int)]) rfl rfl rfl (by first | kernel_rfl | (rw [encs16_size]; kernel_rfl)) (by first | exact encs16_one _ | simp [Value.oneCell']) BK11.out (by first | rfl | (rw [encs16_size, encs16_size]; kernel_rfl)) ?_; intro w3 hb3 hg3; have n0_ := Aside0.mk (Blk.below_wrote HB.out hg3 GBK11.out HB.out.size); have n1_ := Aside0.mk (blk_grown BK4.out hg3 (by intro he; injection he with he; exact NBK4BK11.out he)); have n2_ := Aside0.mk (blk_grown BK6.out hg3 (by intro he; injection he with he; exact NBK6BK11.out he)); have n3_ := Aside0.mk (blk_grown BK10.out hg3 (by intro he; injection he with he; exact NBK10BK11.out he)); clear BK11; have BK11 := Aside0.mk hb3; clear HB BK4 BK6 BK10; have HB := n0_; have BK4 := n1_; have BK6 := n2_; have BK10 := n3_; clear n0_ n1_ n2_ n3_; clear hb3 hg3; have hl0 := (blk_cell BK10.out 0).trans rfl; have hl1 := (blk_cell BK10.out 1).trans rfl; have hl2 := (blk_cell BK10.out 2).trans rfl))
          clear hl0 hl1 hl2
          have n0_ := Aside0.mk (blk_drew BK4.out)
          have n1_ := Aside0.mk (blk_drew BK6.out)
          have n2_ := Aside0.mk (blk_drew BK10.out)
          have n3_ := Aside0.mk (blk_drew BK11.out)
          have n4_ := Aside0.mk (below_drew1 HB.out)
          clear BK4 BK6 BK10 BK11 HB
          have BK4 := n0_
          have BK6 := n1_
          have BK10 := n2_
          have BK11 := n3_
          have HB := n4_
          clear n0_ n1_ n2_ n3_ n4_
          refine start_ (n := 16) (S := fun w' => w'.cell? ⟨g10, 0, none⟩ = some (.int .i64 (a : Int)) ∧ w'.cell? ⟨g10, 1, none⟩ = some (.int .i64 (b : Int)) ∧ w'.cell? ⟨g6, a * 8 + b, none⟩ = some (.int .u16 (netAt cu a b : Int)) ∧ w'.cell? ⟨g11, 0, none⟩ = some (.int .u16 (sv : Int))) (ds := [15]) #[false, false, false, false, false, false, false, false, false, false, false, false, false, false, false, false] (by kernel_rfl) rfl rfl ⟨(blk_cell BK10.out 0).trans rfl, (blk_cell BK10.out 1).trans rfl, (blk_cell BK6.out _).trans HC1.out, (blk_cell BK11.out 0).trans rfl⟩ (fun hHeld => ?_)
          generalize w3.drew = w17 at BK4 BK6 BK10 BK11 HB hHeld ⊢
          refine pure_ (i := 0) (N := some 70) (v := ?_) (a' := ?_) #[true, false, false, false, false, false, false, false, false, false, false, false, false, false, false, false] rfl rfl (by kernel_rfl) (fun _ _ _ h => h) (Or.inl ⟨by rfl, ?_⟩) ?_ ?_
          rotate_left
          ·intro w'
           go_simp
           with_reducible rfl
          rotate_left
          ·simp only [Act.put, List.setIfInBounds_toArray, List.set_cons_zero, List.set_cons_succ, i64_w, i32_w]
           rfl
          refine pure_ (i := 2) (N := some 72) (v := ?_) (a' := ?_) #[true, false, true, false, false, false, false, false, false, false, false, false, false, false, false, false] rfl rfl (by kernel_rfl) (fun _ _ _ h => h) (Or.inl ⟨by rfl, ?_⟩) ?_ ?_
          rotate_left
          ·intro w'
           go_simp
           with_reducible rfl
          rotate_left
          ·simp only [Act.put, List.setIfInBounds_toArray, List.set_cons_zero, List.set_cons_succ, i64_w, i32_w]
           rfl
          refine pure_ (i := 4) (N := some 74) (v := ?_) (a' := ?_) #[true, false, true, false, true, false, false, false, false, false, false, false, false, false, false, false] rfl rfl (by kernel_rfl) (fun _ _ _ h => h) (Or.inl ⟨by rfl, ?_⟩) ?_ ?_
          rotate_left
          ·intro w'
           go_simp
           with_reducible rfl
          rotate_left
          ·simp only [Act.put, List.setIfInBounds_toArray, List.set_cons_zero, List.set_cons_succ, i64_w, i32_w]
           rfl
          refine pure_ (i := 6) (N := some 76) (v := ?_) (a' := ?_) #[true, false, true, false, true, false, true, false, false, false, false, false, false, false, false, false] rfl rfl (by kernel_rfl) (fun _ _ _ h => h) (Or.inl ⟨by rfl, ?_⟩) ?_ ?_
          rotate_left
          ·intro w'
           go_simp
           with_reducible rfl
          rotate_left
          ·simp only [Act.put, List.setIfInBounds_toArray, List.set_cons_zero, List.set_cons_succ, i64_w, i32_w]
           rfl
          refine take_ (i := 1) (N := some 71) (v := ?_) (a' := ?_) #[true, true, true, false, true, false, true, false, false, false, false, false, false, false, false, false] rfl rfl (by kernel_rfl) (fun _ _ _ h => h) (Or.inl ⟨by rfl, ?_⟩) hHeld ?_ ?_
          rotate_left
          ·rintro w' ⟨s0, s1, s2, s3⟩
           go_simp
           with_reducible rfl
          rotate_left
          ·simp only [Act.put, List.setIfInBounds_toArray, List.set_cons_zero, List.set_cons_succ, i64_w, i32_w]
           rfl
          refine take_ (i := 3) (N := some 73) (v := ?_) (a' := ?_) #[true, true, true, true, true, false, true, false, false, false, false, false, false, false, false, false] rfl rfl (by kernel_rfl) (fun _ _ _ h => h) (Or.inl ⟨by rfl, ?_⟩) hHeld ?_ ?_
          rotate_left
          ·rintro w' ⟨s0, s1, s2, s3⟩
           go_simp
           with_reducible rfl
          rotate_left
          ·simp only [Act.put, List.setIfInBounds_toArray, List.set_cons_zero, List.set_cons_succ, i64_w, i32_w]
           rfl
          refine take_ (i := 5) (N := some 75) (v := ?_) (a' := ?_) #[true, true, true, true, true, true, true, false, false, false, false, false, false, false, false, false] rfl rfl (by kernel_rfl) (fun _ _ _ h => h) (Or.inl ⟨by rfl, ?_⟩) hHeld ?_ ?_
          rotate_left
          ·rintro w' ⟨s0, s1, s2, s3⟩
           go_simp
           with_reducible rfl
          rotate_left
          ·simp only [Act.put, List.setIfInBounds_toArray, List.set_cons_zero, List.set_cons_succ, i64_w, i32_w]
           rfl
          refine take_ (i := 7) (N := some 77) (v := ?_) (a' := ?_) #[true, true, true, true, true, true, true, true, false, false, false, false, false, false, false, false] rfl rfl (by kernel_rfl) (fun _ _ _ h => h) (Or.inl ⟨by rfl, ?_⟩) hHeld ?_ ?_
          rotate_left
          ·rintro w' ⟨s0, s1, s2, s3⟩
           go_simp
           with_reducible rfl
          rotate_left
          ·simp only [Act.put, List.setIfInBounds_toArray, List.set_cons_zero, List.set_cons_succ, i64_w, i32_w]
           rfl
          refine pure_ (i := 8) (N := some 78) (v := ?_) (a' := ?_) #[true, true, true, true, true, true, true, true, true, false, false, false, false, false, false, false] rfl rfl (by kernel_rfl) (fun _ _ _ h => h) (Or.inl ⟨by rfl, ?_⟩) ?_ ?_
          rotate_left
          ·intro w'
           go_simp
           with_reducible rfl
          rotate_left
          ·simp only [Act.put, List.setIfInBounds_toArray, List.set_cons_zero, List.set_cons_succ, i64_w, i32_w]
           rfl
          refine pure_ (i := 9) (N := some 79) (v := ?_) (a' := ?_) #[true, true, true, true, true, true, true, true, true, true, false, false, false, false, false, false] rfl rfl (by kernel_rfl) (fun _ _ _ h => h) (Or.inl ⟨by rfl, ?_⟩) ?_ ?_
          rotate_left
          ·intro w'
           go_simp
           with_reducible rfl
          rotate_left
          ·simp only [Act.put, List.setIfInBounds_toArray, List.set_cons_zero, List.set_cons_succ, i64_w, i32_w]
           rfl
          refine pure_ (i := 13) (N := some 83) (v := ?_) (a' := ?_) #[true, true, true, true, true, true, true, true, true, true, false, false, false, true, false, false] rfl rfl (by kernel_rfl) (fun _ _ _ h => h) (Or.inl ⟨by rfl, ?_⟩) ?_ ?_
          rotate_left
          ·intro w'
           go_simp
           with_reducible rfl
          rotate_left
          ·simp only [Act.put, List.setIfInBounds_toArray, List.set_cons_zero, List.set_cons_succ, i64_w, i32_w]
           rfl
          refine take_ (i := 10) (N := some 80) (v := ?_) (a' := ?_) #[true, true, true, true, true, true, true, true, true, true, true, false, false, true, false, false] rfl rfl (by kernel_rfl) (fun _ _ _ h => h) (Or.inl ⟨by rfl, ?_⟩) hHeld ?_ ?_
          rotate_left
          ·rintro w' ⟨s0, s1, s2, s3⟩
           go_simp
           with_reducible rfl
          rotate_left
          ·simp only [Act.put, List.setIfInBounds_toArray, List.set_cons_zero, List.set_cons_succ, i64_w, i32_w]
           rfl
          refine take_ (i := 11) (N := some 81) (v := ?_) (a' := ?_) #[true, true, true, true, true, true, true, true, true, true, true, true, false, true, false, false] rfl rfl (by kernel_rfl) (fun _ _ _ h => h) (Or.inl ⟨by rfl, ?_⟩) hHeld ?_ ?_
          rotate_left
          ·rintro w' ⟨s0, s1, s2, s3⟩
           go_simp
           with_reducible rfl
          rotate_left
          ·simp only [Act.put, List.setIfInBounds_toArray, List.set_cons_zero, List.set_cons_succ, i64_w, i32_w]
           rfl
          refine one_ (i := 12) (N := some 82) #[true, true, true, true, true, true, true, true, true, true, true, true, true, true, false, false] rfl rfl (by kernel_rfl) (by decide) (fun K hK => ?_)
          refine goes_ Try.func50 (by kernel_rfl) rfl #[.agg #[.int .u16 (netAt cu a b : Int)], .agg #[.int .u16 (sv : Int)]] (by rfl) rfl rfl (by (try simp only [List.map_toArray, List.map_cons, List.map_nil]); first | done | rfl) ?_
          with_reducible refine (allen_set_and.calls _ _ _ _ HAND1.out).mono ?_
          rintro e w9 ⟨rfl, hb⟩
          refine ⟨_, rfl, ?_⟩
          have n0_ := Aside0.mk (below_step HB.out hb)
          have n1_ := Aside0.mk (blk_below BK4.out hb)
          have n2_ := Aside0.mk (blk_below BK6.out hb)
          have n3_ := Aside0.mk (blk_below BK10.out hb)
          have n4_ := Aside0.mk (blk_below BK11.out hb)
          clear HB BK4 BK6 BK10 BK11
          have HB := n0_
          have BK4 := n1_
          have BK6 := n2_
          have BK10 := n3_
          have BK11 := n4_
          clear n0_ n1_ n2_ n3_ n4_
          clear hb
          refine hK.out _ _ ⟨(blk_cell BK10.out 0).trans rfl, (blk_cell BK10.out 1).trans rfl, (blk_cell BK6.out _).trans HC1.out, (blk_cell BK11.out 0).trans rfl⟩ (fun hHeld => ?_)
          clear hK K
          refine norm_ (a' := ?_) ?_ ?_
          rotate_left
          ·show Act.put _ (some 82) _ = _
           simp only [Act.put, List.setIfInBounds_toArray, List.set_cons_zero, List.set_cons_succ, i64_w, i32_w]
           rfl
          refine pure_ (i := 14) (N := some 84) (v := ?_) (a' := ?_) #[true, true, true, true, true, true, true, true, true, true, true, true, true, true, true, false] rfl rfl (by kernel_rfl) (fun _ _ _ h => h) (Or.inl ⟨by rfl, ?_⟩) ?_ ?_
          rotate_left
          ·intro w'
           go_simp
           with_reducible rfl
          rotate_left
          ·simp only [Act.put, List.setIfInBounds_toArray, List.set_cons_zero, List.set_cons_succ, i64_w, i32_w]
           rfl
          refine last_ (i := 15) (N := none) #[true, true, true, true, true, true, true, true, true, true, true, true, true, true, true, true] rfl rfl (by kernel_rfl) (by decide) (fun K hK => ?_)
          have hs0 := (blk_cell BK6.out _).trans HC1.out
          have hf0 := blk_frozen BK6.out (a * 8 + b)
          refine skip_ (w1 := ?_) (by rfl) rfl ?_ ?_
          rotate_left
          ·go_simp
           rfl
          refine hK.out _ _ ?_
          clear hK K
          refine done_ (by kernel_rfl) ?_
          try go_wp2
          have n0_ := Aside0.mk (blk_far (p := ⟨g6, a * 8 + b, none⟩) BK4.out NBK4BK6.out (.int .u16 ((netAt cu a b &&& sv : Nat) : Int)))
          have n1_ := Aside0.mk (blk_put (cs := encs16 cu) BK6.out (a * 8 + b) (.int .u16 ((netAt cu a b &&& sv : Nat) : Int)) (encs16_set cu (a * 8 + b) (netAt cu a b &&& sv)))
          have n2_ := Aside0.mk (blk_far (p := ⟨g6, a * 8 + b, none⟩) BK10.out NBK10BK6.out (.int .u16 ((netAt cu a b &&& sv : Nat) : Int)))
          have n3_ := Aside0.mk (blk_far (p := ⟨g6, a * 8 + b, none⟩) BK11.out NBK11BK6.out (.int .u16 ((netAt cu a b &&& sv : Nat) : Int)))
          have n4_ := Aside0.mk (below_set (j := a * 8 + b) (v := (.int .u16 ((netAt cu a b &&& sv : Nat) : Int))) HB.out GBK6.out)
          clear BK4 BK6 BK10 BK11 HB
          have BK4 := n0_
          have BK6 := n1_
          have BK10 := n2_
          have BK11 := n3_
          have HB := n4_
          clear n0_ n1_ n2_ n3_ n4_
          generalize World.setCell w9 _ _ = ws at *
          obtain ⟨cv, hcv⟩ : ∃ cv, cv = netAnd cu a b sv := ⟨_, rfl⟩
          rw [show cu.set (a * 8 + b) (netAt cu a b &&& sv) = cv by rw [hcv]; rfl] at BK6
          have HOK2 : Aside0 (NetOk cv) := ⟨by rw [hcv]; exact HOK.out.and a b sv⟩
          have HST := Aside0.mk (show cstep cu ⟨(a : Int), (b : Int), f2⟩ = cv.set (b * 8 + a) (netAt cv b a &&& invS sv) by rw [hcv, HSV.out]; rfl)
          clear hcv
          have HC2 := Aside0.mk (encs16_net HOK2.out b a (by have := HN.out; have := HLB.out; omega) (by have := HN.out; have := HLA.out; omega))
          have HAND2 := Aside0.mk (and_f (netAt cv b a) (invS sv) (Nat.lt_trans (HOK2.out.at b a) (by decide)) (Nat.lt_trans (inv_all sv k HSL.out HK20.out).2 (by decide)))
          have n0_ := Aside0.mk (blk_drew BK4.out)
          have n1_ := Aside0.mk (blk_drew BK6.out)
          have n2_ := Aside0.mk (blk_drew BK10.out)
          have n3_ := Aside0.mk (blk_drew BK11.out)
          have n4_ := Aside0.mk (below_drew1 HB.out)
          clear BK4 BK6 BK10 BK11 HB
          have BK4 := n0_
          have BK6 := n1_
          have BK10 := n2_
          have BK11 := n3_
          have HB := n4_
          clear n0_ n1_ n2_ n3_ n4_
          refine start_ (n := 17) (S := fun w' => w'.cell? ⟨g10, 0, none⟩ = some (.int .i64 (a : Int)) ∧ w'.cell? ⟨g10, 1, none⟩ = some (.int .i64 (b : Int)) ∧ w'.cell? ⟨g6, b * 8 + a, none⟩ = some (.int .u16 (netAt cv b a : Int)) ∧ w'.cell? ⟨g11, 0, none⟩ = some (.int .u16 (sv : Int))) (ds := [16]) #[false, false, false, false, false, false, false, false, false, false, false, false, false, false, false, false, false] (by kernel_rfl) rfl rfl ⟨(blk_cell BK10.out 0).trans rfl, (blk_cell BK10.out 1).trans rfl, (blk_cell BK6.out _).trans HC2.out, (blk_cell BK11.out 0).trans rfl⟩ (fun hHeld => ?_)
          generalize ws.drew = w18 at BK4 BK6 BK10 BK11 HB hHeld ⊢
          refine pure_ (i := 0) (N := some 85) (v := ?_) (a' := ?_) #[true, false, false, false, false, false, false, false, false, false, false, false, false, false, false, false, false] rfl rfl (by kernel_rfl) (fun _ _ _ h => h) (Or.inl ⟨by rfl, ?_⟩) ?_ ?_
          rotate_left
          ·intro w'
           go_simp
           with_reducible rfl
          rotate_left
          ·simp only [Act.put, List.setIfInBounds_toArray, List.set_cons_zero, List.set_cons_succ, i64_w, i32_w]
           rfl
          refine pure_ (i := 2) (N := some 87) (v := ?_) (a' := ?_) #[true, false, true, false, false, false, false, false, false, false, false, false, false, false, false, false, false] rfl rfl (by kernel_rfl) (fun _ _ _ h => h) (Or.inl ⟨by rfl, ?_⟩) ?_ ?_
          rotate_left
          ·intro w'
           go_simp
           with_reducible rfl
          rotate_left
          ·simp only [Act.put, List.setIfInBounds_toArray, List.set_cons_zero, List.set_cons_succ, i64_w, i32_w]
           rfl
          refine pure_ (i := 4) (N := some 89) (v := ?_) (a' := ?_) #[true, false, true, false, true, false, false, false, false, false, false, false, false, false, false, false, false] rfl rfl (by kernel_rfl) (fun _ _ _ h => h) (Or.inl ⟨by rfl, ?_⟩) ?_ ?_
          rotate_left
          ·intro w'
           go_simp
           with_reducible rfl
          rotate_left
          ·simp only [Act.put, List.setIfInBounds_toArray, List.set_cons_zero, List.set_cons_succ, i64_w, i32_w]
           rfl
          refine pure_ (i := 6) (N := some 91) (v := ?_) (a' := ?_) #[true, false, true, false, true, false, true, false, false, false, false, false, false, false, false, false, false] rfl rfl (by kernel_rfl) (fun _ _ _ h => h) (Or.inl ⟨by rfl, ?_⟩) ?_ ?_
          rotate_left
          ·intro w'
           go_simp
           with_reducible rfl
          rotate_left
          ·simp only [Act.put, List.setIfInBounds_toArray, List.set_cons_zero, List.set_cons_succ, i64_w, i32_w]
           rfl
          refine take_ (i := 1) (N := some 86) (v := ?_) (a' := ?_) #[true, true, true, false, true, false, true, false, false, false, false, false, false, false, false, false, false] rfl rfl (by kernel_rfl) (fun _ _ _ h => h) (Or.inl ⟨by rfl, ?_⟩) hHeld ?_ ?_
          rotate_left
          ·rintro w' ⟨s0, s1, s2, s3⟩
           go_simp
           with_reducible rfl
          rotate_left
          ·simp only [Act.put, List.setIfInBounds_toArray, List.set_cons_zero, List.set_cons_succ, i64_w, i32_w]
           rfl
          refine take_ (i := 3) (N := some 88) (v := ?_) (a' := ?_) #[true, true, true, true, true, false, true, false, false, false, false, false, false, false, false, false, false] rfl rfl (by kernel_rfl) (fun _ _ _ h => h) (Or.inl ⟨by rfl, ?_⟩) hHeld ?_ ?_
          rotate_left
          ·rintro w' ⟨s0, s1, s2, s3⟩
           go_simp
           with_reducible rfl
          rotate_left
          ·simp only [Act.put, List.setIfInBounds_toArray, List.set_cons_zero, List.set_cons_succ, i64_w, i32_w]
           rfl
          refine take_ (i := 5) (N := some 90) (v := ?_) (a' := ?_) #[true, true, true, true, true, true, true, false, false, false, false, false, false, false, false, false, false] rfl rfl (by kernel_rfl) (fun _ _ _ h => h) (Or.inl ⟨by rfl, ?_⟩) hHeld ?_ ?_
          rotate_left
          ·rintro w' ⟨s0, s1, s2, s3⟩
           go_simp
           with_reducible rfl
          rotate_left
          ·simp only [Act.put, List.setIfInBounds_toArray, List.set_cons_zero, List.set_cons_succ, i64_w, i32_w]
           rfl
          refine take_ (i := 7) (N := some 92) (v := ?_) (a' := ?_) #[true, true, true, true, true, true, true, true, false, false, false, false, false, false, false, false, false] rfl rfl (by kernel_rfl) (fun _ _ _ h => h) (Or.inl ⟨by rfl, ?_⟩) hHeld ?_ ?_
          rotate_left
          ·rintro w' ⟨s0, s1, s2, s3⟩
           go_simp
           with_reducible rfl
          rotate_left
          ·simp only [Act.put, List.setIfInBounds_toArray, List.set_cons_zero, List.set_cons_succ, i64_w, i32_w]
           rfl
          refine pure_ (i := 8) (N := some 93) (v := ?_) (a' := ?_) #[true, true, true, true, true, true, true, true, true, false, false, false, false, false, false, false, false] rfl rfl (by kernel_rfl) (fun _ _ _ h => h) (Or.inl ⟨by rfl, ?_⟩) ?_ ?_
          rotate_left
          ·intro w'
           go_simp
           with_reducible rfl
          rotate_left
          ·simp only [Act.put, List.setIfInBounds_toArray, List.set_cons_zero, List.set_cons_succ, i64_w, i32_w]
           rfl
          refine pure_ (i := 9) (N := some 94) (v := ?_) (a' := ?_) #[true, true, true, true, true, true, true, true, true, true, false, false, false, false, false, false, false] rfl rfl (by kernel_rfl) (fun _ _ _ h => h) (Or.inl ⟨by rfl, ?_⟩) ?_ ?_
          rotate_left
          ·intro w'
           go_simp
           with_reducible rfl
          rotate_left
          ·simp only [Act.put, List.setIfInBounds_toArray, List.set_cons_zero, List.set_cons_succ, i64_w, i32_w]
           rfl
          refine pure_ (i := 14) (N := some 99) (v := ?_) (a' := ?_) #[true, true, true, true, true, true, true, true, true, true, false, false, false, false, true, false, false] rfl rfl (by kernel_rfl) (fun _ _ _ h => h) (Or.inl ⟨by rfl, ?_⟩) ?_ ?_
          rotate_left
          ·intro w'
           go_simp
           with_reducible rfl
          rotate_left
          ·simp only [Act.put, List.setIfInBounds_toArray, List.set_cons_zero, List.set_cons_succ, i64_w, i32_w]
           rfl
          refine take_ (i := 10) (N := some 95) (v := ?_) (a' := ?_) #[true, true, true, true, true, true, true, true, true, true, true, false, false, false, true, false, false] rfl rfl (by kernel_rfl) (fun _ _ _ h => h) (Or.inl ⟨by rfl, ?_⟩) hHeld ?_ ?_
          rotate_left
          ·rintro w' ⟨s0, s1, s2, s3⟩
           go_simp
           with_reducible rfl
          rotate_left
          ·simp only [Act.put, List.setIfInBounds_toArray, List.set_cons_zero, List.set_cons_succ, i64_w, i32_w]
           rfl
          refine take_ (i := 11) (N := some 96) (v := ?_) (a' := ?_) #[true, true, true, true, true, true, true, true, true, true, true, true, false, false, true, false, false] rfl rfl (by kernel_rfl) (fun _ _ _ h => h) (Or.inl ⟨by rfl, ?_⟩) hHeld ?_ ?_
          rotate_left
          ·rintro w' ⟨s0, s1, s2, s3⟩
           go_simp
           with_reducible rfl
          rotate_left
          ·simp only [Act.put, List.setIfInBounds_toArray, List.set_cons_zero, List.set_cons_succ, i64_w, i32_w]
           rfl
          refine one_ (i := 12) (N := some 97) #[true, true, true, true, true, true, true, true, true, true, true, true, true, false, true, false, false] rfl rfl (by kernel_rfl) (by decide) (fun K hK => ?_)
          refine goes_ Try.func51 (by kernel_rfl) rfl #[.agg #[.int .u16 (sv : Int)]] (by rfl) rfl rfl (by (try simp only [List.map_toArray, List.map_cons, List.map_nil]); first | done | rfl) ?_
          with_reducible refine (allen_set_inverse.calls k _ _ _ HINV.out).mono ?_
          rintro e w9 ⟨rfl, hb⟩
          refine ⟨_, rfl, ?_⟩
          have n0_ := Aside0.mk (below_step HB.out hb)
          have n1_ := Aside0.mk (blk_below BK4.out hb)
          have n2_ := Aside0.mk (blk_below BK6.out hb)
          have n3_ := Aside0.mk (blk_below BK10.out hb)
          have n4_ := Aside0.mk (blk_below BK11.out hb)
          clear HB BK4 BK6 BK10 BK11
          have HB := n0_
          have BK4 := n1_
          have BK6 := n2_
          have BK10 := n3_
          have BK11 := n4_
          clear n0_ n1_ n2_ n3_ n4_
          clear hb
          refine hK.out _ _ ⟨(blk_cell BK10.out 0).trans rfl, (blk_cell BK10.out 1).trans rfl, (blk_cell BK6.out _).trans HC2.out, (blk_cell BK11.out 0).trans rfl⟩ (fun hHeld => ?_)
          clear hK K
          refine norm_ (a' := ?_) ?_ ?_
          rotate_left
          ·show Act.put _ (some 97) _ = _
           simp only [Act.put, List.setIfInBounds_toArray, List.set_cons_zero, List.set_cons_succ, i64_w, i32_w]
           rfl
          refine one_ (i := 13) (N := some 98) #[true, true, true, true, true, true, true, true, true, true, true, true, true, true, true, false, false] rfl rfl (by kernel_rfl) (by decide) (fun K hK => ?_)
          refine goes_ Try.func50 (by kernel_rfl) rfl #[.agg #[.int .u16 (netAt cv b a : Int)], .agg #[.int .u16 (invS sv : Int)]] (by rfl) rfl rfl (by (try simp only [List.map_toArray, List.map_cons, List.map_nil]); first | done | rfl) ?_
          with_reducible refine (allen_set_and.calls _ _ _ _ HAND2.out).mono ?_
          rintro e w9 ⟨rfl, hb⟩
          refine ⟨_, rfl, ?_⟩
          have n0_ := Aside0.mk (below_step HB.out hb)
          have n1_ := Aside0.mk (blk_below BK4.out hb)
          have n2_ := Aside0.mk (blk_below BK6.out hb)
          have n3_ := Aside0.mk (blk_below BK10.out hb)
          have n4_ := Aside0.mk (blk_below BK11.out hb)
          clear HB BK4 BK6 BK10 BK11
          have HB := n0_
          have BK4 := n1_
          have BK6 := n2_
          have BK10 := n3_
          have BK11 := n4_
          clear n0_ n1_ n2_ n3_ n4_
          clear hb
          refine hK.out _ _ ⟨(blk_cell BK10.out 0).trans rfl, (blk_cell BK10.out 1).trans rfl, (blk_cell BK6.out _).trans HC2.out, (blk_cell BK11.out 0).trans rfl⟩ (fun hHeld => ?_)
          clear hK K
          refine norm_ (a' := ?_) ?_ ?_
          rotate_left
          ·show Act.put _ (some 98) _ = _
           simp only [Act.put, List.setIfInBounds_toArray, List.set_cons_zero, List.set_cons_succ, i64_w, i32_w]
           rfl
          refine pure_ (i := 15) (N := some 100) (v := ?_) (a' := ?_) #[true, true, true, true, true, true, true, true, true, true, true, true, true, true, true, true, false] rfl rfl (by kernel_rfl) (fun _ _ _ h => h) (Or.inl ⟨by rfl, ?_⟩) ?_ ?_
          rotate_left
          ·intro w'
           go_simp
           with_reducible rfl
          rotate_left
          ·simp only [Act.put, List.setIfInBounds_toArray, List.set_cons_zero, List.set_cons_succ, i64_w, i32_w]
           rfl
          refine last_ (i := 16) (N := none) #[true, true, true, true, true, true, true, true, true, true, true, true, true, true, true, true, true] rfl rfl (by kernel_rfl) (by decide) (fun K hK => ?_)
          have hs0 := (blk_cell BK6.out _).trans HC2.out
          have hf0 := blk_frozen BK6.out (b * 8 + a)
          refine skip_ (w1 := ?_) (by rfl) rfl ?_ ?_
          rotate_left
          ·go_simp
           rfl
          refine hK.out _ _ ?_
          clear hK K
          refine done_ (by kernel_rfl) ?_
          go_wp2
          go_roundg k3
          case measure => omega
          case rel => exact ⟨i + 1, _, rfl, ⟨by have := HK3.out; omega⟩, HREST2, ⟨cstep_ok HOK.out _⟩, ⟨blk_far BK4.out NBK4BK6.out _⟩, ⟨by rw [HST.out]; exact blk_put (cs := encs16 cv) BK6.out (b * 8 + a) _ (encs16_set cv (b * 8 + a) _)⟩, ⟨below_set HB.out GBK6.out⟩⟩
     ·rw [if_neg hv] at HOF
      have HBAD : Aside0 (buildP n l1 = none) := ⟨by rw [← HREST.out, HDROP.out]; unfold cstr; rw [if_neg]; unfold cOk; dsimp only; exact fun hx => hv hx.1⟩
      clear hv
      go_wp2_with (first | ((with_reducible refine gate_dst (N := 10) rfl ?_); refine box_event ?hg (N := 10) ?hd (cs := #[.int .i64 0, .int .i64 0, .slice none 0 0]) (t := 51) ?hr ?_; (case hd => rfl); (case hg => rfl); (case hr => first | (go_simp; done) | (go_simp; rfl) | (go_simp; kernel_rfl) | kernel_rfl); intro g10 hg w2 hbox hb; have BK10 := Aside0.mk hbox; have GBK10 := Aside0.mk (show w.heap.size ≤ g10 by rw [hg]; exact HB.out.size); have NBK4BK10 := Aside0.mk (show g4 ≠ g10 by rw [hg]; exact Nat.ne_of_lt (blk_lt BK4.out)); have NBK10BK4 := Aside0.mk (show g10 ≠ g4 by rw [hg]; exact Nat.ne_of_gt (blk_lt BK4.out)); have NBK6BK10 := Aside0.mk (show g6 ≠ g10 by rw [hg]; exact Nat.ne_of_lt (blk_lt BK6.out)); have NBK10BK6 := Aside0.mk (show g10 ≠ g6 by rw [hg]; exact Nat.ne_of_gt (blk_lt BK6.out)); have n0_ := Aside0.mk (below_step HB.out hb); have n1_ := Aside0.mk (blk_below BK4.out hb); have n2_ := Aside0.mk (blk_below BK6.out hb); clear HB BK4 BK6; have HB := n0_; have BK4 := n1_; have BK6 := n2_; clear n0_ n1_ n2_; clear hbox hb hg) | ((with_reducible refine gate_store (t := 51) (p := 10) (v := .tmp 38) rfl ?_); refine Blk.store_whole rfl rfl 51 (.tmp 10) (.tmp 38) rfl (#[.int .i64 f0, .int .i64 f1, .slice A2 f2.length c2]) rfl rfl rfl (by first | kernel_rfl | (rw [encs16_size]; kernel_rfl)) (by first | exact encs16_one _ | simp [Value.oneCell']) BK10.out (by first | rfl | (rw [encs16_size, encs16_size]; kernel_rfl)) ?_; intro w3 hb3 hg3; have n0_ := Aside0.mk (Blk.below_wrote HB.out hg3 GBK10.out HB.out.size); have n1_ := Aside0.mk (blk_grown BK4.out hg3 (by intro he; injection he with he; exact NBK4BK10.out he)); have n2_ := Aside0.mk (blk_grown BK6.out hg3 (by intro he; injection he with he; exact NBK6BK10.out he)); clear BK10; have BK10 := Aside0.mk hb3; clear HB BK4 BK6; have HB := n0_; have BK4 := n1_; have BK6 := n2_; clear n0_ n1_ n2_; clear hb3 hg3; have hl0 := (blk_cell BK10.out 0).trans rfl; have hl1 := (blk_cell BK10.out 1).trans rfl; have hl2 := (blk_cell BK10.out 2).trans rfl) | (go_at_call 42; (with_reducible refine (allen_of.calls k _ _ f2 _ _ _ ?side1 ?side2 HOF.out).mono ?_); (case side1 => exact Kd.C_below HFC.out HB.out); (case side2 => exact HFL.out); rintro e_ w9 ⟨rfl, hb⟩; have n0_ := Aside0.mk (below_step HB.out hb); have n1_ := Aside0.mk (blk_below BK4.out hb); have n2_ := Aside0.mk (blk_below BK6.out hb); have n3_ := Aside0.mk (blk_below BK10.out hb); clear HB BK4 BK6 BK10; have HB := n0_; have BK4 := n1_; have BK6 := n2_; have BK10 := n3_; clear n0_ n1_ n2_ n3_; clear hb; have hl0 := (blk_cell BK10.out 0).trans rfl; have hl1 := (blk_cell BK10.out 1).trans rfl) | ((with_reducible refine gate_dst (N := 11) rfl ?_); refine box_event ?hg (N := 11) ?hd (cs := #[.int .u16 0]) (t := 57) ?hr ?_; (case hd => rfl); (case hg => rfl); (case hr => first | (go_simp; done) | (go_simp; rfl) | (go_simp; kernel_rfl) | kernel_rfl); intro g11 hg w2 hbox hb; have BK11 := Aside0.mk hbox; have GBK11 := Aside0.mk (show w.heap.size ≤ g11 by rw [hg]; exact HB.out.size); have NBK4BK11 := Aside0.mk (show g4 ≠ g11 by rw [hg]; exact Nat.ne_of_lt (blk_lt BK4.out)); have NBK11BK4 := Aside0.mk (show g11 ≠ g4 by rw [hg]; exact Nat.ne_of_gt (blk_lt BK4.out)); have NBK6BK11 := Aside0.mk (show g6 ≠ g11 by rw [hg]; exact Nat.ne_of_lt (blk_lt BK6.out)); have NBK11BK6 := Aside0.mk (show g11 ≠ g6 by rw [hg]; exact Nat.ne_of_gt (blk_lt BK6.out)); have NBK10BK11 := Aside0.mk (show g10 ≠ g11 by rw [hg]; exact Nat.ne_of_lt (blk_lt BK10.out)); have NBK11BK10 := Aside0.mk (show g11 ≠ g10 by rw [hg]; exact Nat.ne_of_gt (blk_lt BK10.out)); have n0_ := Aside0.mk (below_step HB.out hb); have n1_ := Aside0.mk (blk_below BK4.out hb); have n2_ := Aside0.mk (blk_below BK6.out hb); have n3_ := Aside0.mk (blk_below BK10.out hb); clear HB BK4 BK6 BK10; have HB := n0_; have BK4 := n1_; have BK6 := n2_; have BK10 := n3_; clear n0_ n1_ n2_ n3_; clear hbox hb hg) | ((with_reducible refine gate_store (t := 57) (p := 11) (v := .tmp 43) rfl ?_); refine Blk.store_whole rfl rfl 57 (.tmp 11) (.tmp 43) rfl (#[.int .u16 (0)]) rfl rfl rfl (by first | kernel_rfl | (rw [encs16_size]; kernel_rfl)) (by first | exact encs16_one _ | simp [Value.oneCell']) BK11.out (by first | rfl | (rw [encs16_size, encs16_size]; kernel_rfl)) ?_; intro w3 hb3 hg3; have n0_ := Aside0.mk (Blk.below_wrote HB.out hg3 GBK11.out HB.out.size); have n1_ := Aside0.mk (blk_grown BK4.out hg3 (by intro he; injection he with he; exact NBK4BK11.out he)); have n2_ := Aside0.mk (blk_grown BK6.out hg3 (by intro he; injection he with he; exact NBK6BK11.out he)); have n3_ := Aside0.mk (blk_grown BK10.out hg3 (by intro he; injection he with he; exact NBK10BK11.out he)); clear BK11; have BK11 := Aside0.mk hb3; clear HB BK4 BK6 BK10; have HB := n0_; have BK4 := n1_; have BK6 := n2_; have BK10 := n3_; clear n0_ n1_ n2_ n3_; clear hb3 hg3; have hl0 := (blk_cell BK10.out 0).trans rfl; have hl1 := (blk_cell BK10.out 1).trans rfl; have hl2 := (blk_cell BK10.out 2).trans rfl) | ((with_reducible refine gate_store (t := 67) (p := 4) (v := .tmp 69) rfl ?_); refine Blk.store_whole rfl rfl 67 (.tmp 4) (.tmp 69) rfl (encs16 (List.replicate 64 0)) rfl rfl rfl (by kernel_rfl) (encs16_one _) BK4.out rfl ?_; intro w5 hb5 hg5; have n0_ := Aside0.mk (Blk.below_wrote HB.out hg5 GBK4.out HB.out.size); clear HB BK4; have HB := n0_; have BK4 := Aside0.mk hb5; clear n0_ hb5 hg5))
      refine bodyPost_ret (results_ct rfl _ _ g4 67 (encs16 (List.replicate 64 0)) (0, 0) _ rfl BK4.out Try.underlying67 rfl (by kernel_rfl)) rfl ?_
      exact ⟨by rw [HBAD.out]; rfl, HB.out⟩
    ·have ci : decide ((i : Int) < (l1.length : Int)) = false := decide_eq_false (by omega)
     have cci : decide (i < l1.length) = false := decide_eq_false (by omega)
     have HEi : Aside0 (i = l1.length) := ⟨by have := HK3.out; omega⟩
     clear hi
     have HBUILD := HREST.out
     rw [List.drop_eq_nil_of_le (by have := HEi.out; omega)] at HBUILD
     have HBU : Aside0 (buildP n l1 = some cu) := ⟨HBUILD.symm⟩
     clear HBUILD
     go_wp2_with (first | ((with_reducible refine gate_dst (N := 102) rfl ?_); refine wpList_load_row rfl 67 (.tmp 6) rfl g6 rfl 67 _ (0, 0) _ BK6.out Try.underlying67 rfl (by rw [encs16_size, HOK.out.1]; kernel_rfl) ?_) | ((with_reducible refine gate_store (t := 67) (p := 4) (v := .tmp 102) rfl ?_); refine Blk.store_whole rfl rfl 67 (.tmp 4) (.tmp 102) rfl (encs16 cu) rfl rfl rfl (by rw [encs16_size, HOK.out.1]; kernel_rfl) (encs16_one _) BK4.out (by rw [encs16_size, encs16_size, HOK.out.1]; rfl) ?_; intro w5 hb5 hg5; have n0_ := Aside0.mk (Blk.below_wrote HB.out hg5 GBK4.out HB.out.size); clear HB BK4; have HB := n0_; have BK4 := Aside0.mk hb5; clear n0_ hb5 hg5))
     refine bodyPost_ret (results_ct rfl _ _ g4 67 (encs16 cu) (0, 0) _ rfl BK4.out Try.underlying67 rfl (by rw [encs16_size, HOK.out.1]; kernel_rfl)) rfl ?_
     exact ⟨by rw [HBU.out]; rfl, HB.out⟩
end Go.Proofs.Ytoemcdkopnclbaa.A
