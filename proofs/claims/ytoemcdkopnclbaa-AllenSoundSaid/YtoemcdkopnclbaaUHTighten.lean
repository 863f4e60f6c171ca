/-
  allen.Tighten's contract: it answers what the plain functions say (lists of up to 999999 constraints of up to 999999 relations).
-/
import Derived.Test.YtoemcdkopnclbaaUHBuild
import Derived.Test.YtoemcdkopnclbaaUHComps
import Derived.Test.YtoemcdkopnclbaaUHEq
namespace Go.Proofs.Ytoemcdkopnclbaa.A
open Go.RowKit Go.Proofs.YtoemcdkopnclbaaW.PrintWords Go.Proofs.YtoemcdkopnclbaaW.PrintLast Go.Proofs.YtoemcdkopnclbaaW.PrintMore
attribute [local go_sem] max2_int min2_int max_two min_two max_three min_three max_four min_four
set_option linter.unusedVariables false
set_option linter.unusedSimpArgs false
def Z64 : List Nat := List.replicate 64 0
theorem Z64_len : Z64.length = 64 := List.length_replicate
theorem build_none (k n : Nat) (A1 : Option Addr) (c1 : Nat) (l1 : List S51) (w : World) (hn : n ≤ 8) (hr1 : Kd.C k51 w A1 l1.length l1) (hc1 : l1.length ≤ c1) (hg : gd k l1 = true) (h : buildP n l1 = none) :
  Calls Try.prog 37 #[.int .i64 (n : Int), .slice A1 l1.length c1] w fun e w' => e = .returned (.tuple #[.agg (encs16 Z64), .bool false]) ∧ Below w.heap.size w w' := by
 have := allen_build_calls k n A1 c1 l1 w hn hr1 hc1 hg
 rw [h] at this
 exact this
theorem build_some (k n : Nat) (A1 : Option Addr) (c1 : Nat) (l1 : List S51) (w : World) (w0 : List Nat) (hn : n ≤ 8) (hr1 : Kd.C k51 w A1 l1.length l1) (hc1 : l1.length ≤ c1) (hg : gd k l1 = true) (h : buildP n l1 = some w0) :
  Calls Try.prog 37 #[.int .i64 (n : Int), .slice A1 l1.length c1] w fun e w' => e = .returned (.tuple #[.agg (encs16 w0), .bool true]) ∧ Below w.heap.size w w' := by
 have := allen_build_calls k n A1 c1 l1 w hn hr1 hc1 hg
 rw [h] at this
 exact this
set_option maxHeartbeats 16000000 in
set_option maxRecDepth 100000 in
theorem allen_Tighten.calls (k : Nat) (a0 : Int) (A1 : Option Addr) (c1 : Nat) (l1 : List S51) (r1 : List S51) (r2 : Bool) (w : World) (hr1 : Kd.C k51 w A1 l1.length l1) (hc1 : l1.length ≤ c1) (h : allen_Tighten.f k a0 l1 = some (r1, r2)) :
  Calls Try.prog 25 #[.int .i64 a0, .slice A1 l1.length c1] w fun e w' => ∃ v0_ : Value, e = .returned (.tuple #[v0_, .bool r2]) ∧ Kd.S k51 51 w' w.heap.size (fun _ => True) v0_ r1 ∧ Below w.heap.size w w' := by
 have hu57 := Try.underlying57
 have hu65 := Try.underlying65
 have hu67 := Try.underlying67
 have HB := Aside0.mk (Below.refl w.heap.size w)
 have HR1 := Aside0.mk hr1
 have HC1 := Aside0.mk hc1
 unfold allen_Tighten.f at h
 have HGD : Aside0 (gd k l1 = true) := by
  by_cases hg : gd k l1 = true
  ·exact ⟨hg⟩
  ·rw [if_neg hg] at h; exact absurd h (by simp)
 rw [if_pos HGD.out] at h
 have h := Option.some.inj h
 clear hr1 hc1
 unfold tightP at h
 by_cases ha : a0 < 1
 ·rw [if_neg (by omega)] at h
  injection h with h1 h2
  subst h1 h2
  have d1 : decide (a0 < 1) = true := decide_eq_true ha
  clear ha
  go_enter Try.func25, Try.ntmps25
  go_wp2
  go_ret2
  exact ⟨_, rfl, Kd.S_nil _ _ _ _ _, HB.out⟩
 ·by_cases hb : 8 < a0
  ·rw [if_neg (by omega)] at h
   injection h with h1 h2
   subst h1 h2
   have d1 : decide (a0 < 1) = false := decide_eq_false ha
   have d2 : decide (8 < a0) = true := decide_eq_true hb
   clear ha hb
   go_enter Try.func25, Try.ntmps25
   go_wp2
   go_ret2
   exact ⟨_, rfl, Kd.S_nil _ _ _ _ _, HB.out⟩
  ·rw [if_pos (by omega)] at h
   obtain ⟨n, rfl⟩ : ∃ n : Nat, a0 = (n : Int) := ⟨a0.toNat, by omega⟩
   rw [Int.toNat_natCast] at h
   have HN : Aside0 (n ≤ 8) := ⟨by omega⟩
   have d1 : decide ((n : Int) < 1) = false := decide_eq_false ha
   have d2 : decide (8 < (n : Int)) = false := decide_eq_false hb
   clear ha hb
   cases hbu : buildP n l1 with
   | none =>
    rw [hbu] at h
    have HBU := Aside0.mk hbu
    injection h with h1 h2
    subst h1 h2
    clear hbu
    go_enter Try.func25, Try.ntmps25
    go_wp2_with (first | (go_at_call 37; (with_reducible refine (build_none k n _ _ l1 _ HN.out HR1.out HC1.out HGD.out HBU.out).mono ?_); rintro e_ w9 ⟨rfl, hb⟩; have n0_ := Aside0.mk (below_step HB.out hb); clear HB; have HB := n0_; clear n0_ hb) | ((with_reducible refine gate_dst (N := 6) rfl ?_); refine box_event ?hg (N := 6) ?hd (cs := encs16 (List.replicate 64 0)) (t := 67) ?hr ?_; (case hd => rfl); (case hg => rfl); (case hr => first | (go_simp; done) | (go_simp; rfl) | (go_simp; kernel_rfl) | kernel_rfl); intro g6 hg w2 hbox hb; have BK6 := Aside0.mk hbox; have GBK6 := Aside0.mk (show w.heap.size ≤ g6 by rw [hg]; exact HB.out.size); have n0_ := Aside0.mk (below_step HB.out hb); clear HB; have HB := n0_; clear n0_; clear hbox hb hg) | ((with_reducible refine gate_store (t := 67) (p := 6) (v := .tmp 23) rfl ?_); refine Blk.store_whole rfl rfl 67 (.tmp 6) (.tmp 23) rfl (encs16 Z64) rfl rfl rfl (by rw [encs16_size, Z64_len]; kernel_rfl) (encs16_one _) BK6.out (by rw [encs16_size, encs16_size, List.length_replicate, Z64_len]) ?_; intro w3 hb3 hg3; have n0_ := Aside0.mk (Blk.below_wrote HB.out hg3 GBK6.out HB.out.size); clear BK6; have BK6 := Aside0.mk hb3; clear HB; have HB := n0_; clear n0_; clear hb3 hg3))
    go_ret2
    exact ⟨_, rfl, Kd.S_nil _ _ _ _ _, HB.out⟩
   | some w0 =>
    rw [hbu] at h
    have HBU := Aside0.mk hbu
    have HR : Aside0 ((r1, r2) = pack (rout (lim n w0) n n [])) := ⟨h.symm⟩
    have HOK0 := Aside0.mk (cstr_ok n l1 _ _ (fillF_ok n n) hbu)
    clear hbu h
    go_enter Try.func25, Try.ntmps25
    go_wp2_with (first | (go_at_call 37; (with_reducible refine (build_some k n _ _ l1 _ w0 HN.out HR1.out HC1.out HGD.out HBU.out).mono ?_); rintro e_ w9 ⟨rfl, hb⟩; have n0_ := Aside0.mk (below_step HB.out hb); clear HB; have HB := n0_; clear n0_ hb) | ((with_reducible refine gate_dst (N := 6) rfl ?_); refine box_event ?hg (N := 6) ?hd (cs := encs16 (List.replicate 64 0)) (t := 67) ?hr ?_; (case hd => rfl); (case hg => rfl); (case hr => first | (go_simp; done) | (go_simp; rfl) | (go_simp; kernel_rfl) | kernel_rfl); intro g6 hg w2 hbox hb; have BK6 := Aside0.mk hbox; have GBK6 := Aside0.mk (show w.heap.size ≤ g6 by rw [hg]; exact HB.out.size); have n0_ := Aside0.mk (below_step HB.out hb); clear HB; have HB := n0_; clear n0_; clear hbox hb hg) | ((with_reducible refine gate_dst (N := 28) rfl ?_); refine wpList_load_row rfl 67 (.tmp 6) rfl g6 rfl 67 _ (0, 0) _ BK6.out Try.underlying67 rfl (by rw [encs16_size, HOK0.out.1]; kernel_rfl) ?_) | ((with_reducible refine gate_store (t := 67) (p := 6) (v := .tmp 23) rfl ?_); refine Blk.store_whole rfl rfl 67 (.tmp 6) (.tmp 23) rfl (encs16 w0) rfl rfl rfl (by rw [encs16_size, HOK0.out.1]; kernel_rfl) (encs16_one _) BK6.out (by rw [encs16_size, encs16_size, List.length_replicate, HOK0.out.1]) ?_; intro w3 hb3 hg3; have n0_ := Aside0.mk (Blk.below_wrote HB.out hg3 GBK6.out HB.out.size); clear BK6; have BK6 := Aside0.mk hb3; clear HB; have HB := n0_; clear n0_; clear hb3 hg3) | (go_at_call 34; (with_reducible refine (allen_compositions_calls _).mono ?_); rintro e_ w9 ⟨rfl, hb⟩; have n0_ := Aside0.mk (below_step HB.out hb); have n1_ := Aside0.mk (blk_below BK6.out hb); clear HB BK6; have HB := n0_; have BK6 := n1_; clear n0_ n1_; clear hb) | ((with_reducible refine gate_dst (N := 8) rfl ?_); refine box_event ?hg (N := 8) ?hd (cs := encs16 (List.replicate 169 0)) (t := 60) ?hr ?_; (case hd => rfl); (case hg => rfl); (case hr => first | (go_simp; done) | (go_simp; rfl) | (go_simp; kernel_rfl) | kernel_rfl); intro g8 hg w2 hbox hb; have BK8 := Aside0.mk hbox; have GBK8 := Aside0.mk (show w.heap.size ≤ g8 by rw [hg]; exact HB.out.size); have NBK6BK8 := Aside0.mk (show g6 ≠ g8 by rw [hg]; exact Nat.ne_of_lt (blk_lt BK6.out)); have NBK8BK6 := Aside0.mk (show g8 ≠ g6 by rw [hg]; exact Nat.ne_of_gt (blk_lt BK6.out)); have n0_ := Aside0.mk (below_step HB.out hb); have n1_ := Aside0.mk (blk_below BK6.out hb); clear HB BK6; have HB := n0_; have BK6 := n1_; clear n0_ n1_; clear hbox hb hg) | ((with_reducible refine gate_store (t := 60) (p := 8) (v := .tmp 27) rfl ?_); refine Blk.store_whole rfl rfl 60 (.tmp 8) (.tmp 27) rfl (encs16 TAB) rfl rfl rfl (by rw [encs16_size, TAB_len]; kernel_rfl) (encs16_one _) BK8.out (by rw [encs16_size, encs16_size, List.length_replicate, TAB_len]) ?_; intro w3 hb3 hg3; have n0_ := Aside0.mk (Blk.below_wrote HB.out hg3 GBK8.out HB.out.size); have n1_ := Aside0.mk (blk_grown BK6.out hg3 (by intro he; injection he with he; exact NBK6BK8.out he)); clear BK8; have BK8 := Aside0.mk hb3; clear HB BK6; have HB := n0_; have BK6 := n1_; clear n0_ n1_; clear hb3 hg3) | (go_at_call 38; (with_reducible refine (allen_narrowed_calls g8 n w0 HN.out HOK0.out _ BK8.out).mono ?_); rintro e_ w9 ⟨rfl, hb⟩; have n0_ := Aside0.mk (below_step HB.out hb); have n1_ := Aside0.mk (blk_below BK6.out hb); have n2_ := Aside0.mk (blk_below BK8.out hb); clear HB BK6 BK8; have HB := n0_; have BK6 := n1_; have BK8 := n2_; clear n0_ n1_ n2_; clear hb) | ((with_reducible refine gate_dst (N := 9) rfl ?_); refine box_event ?hg (N := 9) ?hd (cs := encs16 (List.replicate 64 0)) (t := 67) ?hr ?_; (case hd => rfl); (case hg => rfl); (case hr => first | (go_simp; done) | (go_simp; rfl) | (go_simp; kernel_rfl) | kernel_rfl); intro g9 hg w2 hbox hb; have BK9 := Aside0.mk hbox; have GBK9 := Aside0.mk (show w.heap.size ≤ g9 by rw [hg]; exact HB.out.size); have NBK6BK9 := Aside0.mk (show g6 ≠ g9 by rw [hg]; exact Nat.ne_of_lt (blk_lt BK6.out)); have NBK9BK6 := Aside0.mk (show g9 ≠ g6 by rw [hg]; exact Nat.ne_of_gt (blk_lt BK6.out)); have NBK8BK9 := Aside0.mk (show g8 ≠ g9 by rw [hg]; exact Nat.ne_of_lt (blk_lt BK8.out)); have NBK9BK8 := Aside0.mk (show g9 ≠ g8 by rw [hg]; exact Nat.ne_of_gt (blk_lt BK8.out)); have n0_ := Aside0.mk (below_step HB.out hb); have n1_ := Aside0.mk (blk_below BK6.out hb); have n2_ := Aside0.mk (blk_below BK8.out hb); clear HB BK6 BK8; have HB := n0_; have BK6 := n1_; have BK8 := n2_; clear n0_ n1_ n2_; clear hbox hb hg) | ((with_reducible refine gate_store (t := 67) (p := 9) (v := .tmp 30) rfl ?_); refine Blk.store_whole rfl rfl 67 (.tmp 9) (.tmp 30) rfl (encs16 (nwF w0 n)) rfl rfl rfl (by rw [encs16_size, (nwF_ok HOK0.out n).1]; kernel_rfl) (encs16_one _) BK9.out (by rw [encs16_size, encs16_size, List.length_replicate, (nwF_ok HOK0.out n).1]) ?_; intro w3 hb3 hg3; have n0_ := Aside0.mk (Blk.below_wrote HB.out hg3 GBK9.out HB.out.size); have n1_ := Aside0.mk (blk_grown BK6.out hg3 (by intro he; injection he with he; exact NBK6BK9.out he)); have n2_ := Aside0.mk (blk_grown BK8.out hg3 (by intro he; injection he with he; exact NBK8BK9.out he)); clear BK9; have BK9 := Aside0.mk hb3; clear HB BK6 BK8; have HB := n0_; have BK6 := n1_; have BK8 := n2_; clear n0_ n1_ n2_; clear hb3 hg3))
    (try simp only [Act.put, List.setIfInBounds_toArray, List.set_cons_zero, List.set_cons_succ])
    go_loopg [9] (w0.sum + 1) (fun kq v9 w' => ∃ (g9 : Nat) (m : List Nat), v9 = .pointer (some ⟨g9, 0, none⟩) ∧ Aside0 (kq = m.sum + 1) ∧ Aside0 (NetOk m) ∧ Aside0 (lim n m = lim n w0) ∧ Aside0 (w.heap.size ≤ g9) ∧ Aside0 (g6 ≠ g9) ∧ Aside0 (g8 ≠ g9) ∧ Aside0 (w'.heap[g6]? = some (.cells (encs16 m) 67 (0, 0))) ∧ Aside0 (w'.heap[g8]? = some (.cells (encs16 TAB) 60 (0, 0))) ∧ Aside0 (w'.heap[g9]? = some (.cells (encs16 (nwF m n)) 67 (0, 0))) ∧ Aside0 (Below w.heap.size w w'))
    case atStart => exact ⟨g9, w0, rfl, ⟨rfl⟩, HOK0, ⟨rfl⟩, GBK9, NBK6BK9, NBK8BK9, BK6, BK8, BK9, HB⟩
    case round =>
     clear HB BK6 BK8 BK9 GBK9 NBK6BK9 NBK8BK9 NBK9BK6 NBK9BK8
     obtain ⟨g9, m, rfl, HK1, HOK, HLIM, GBK9, NBK6BK9, NBK8BK9, BK6, BK8, BK9, HB⟩ := hrel
     have NBK9BK6 := Aside0.mk NBK6BK9.out.symm
     have NBK9BK8 := Aside0.mk NBK8BK9.out.symm
     have HOKF := Aside0.mk (nwF_ok HOK.out n)
     have hne := fun W => net_eq (nwF m n) m (nwF_ok HOK.out n).1 HOK.out.1 W
     by_cases hq : nwF m n = m
     ·rw [decide_eq_true hq] at hne
      have HM : Aside0 (lim n w0 = m) := ⟨by rw [← HLIM.out, lim_step, if_pos hq]⟩
      obtain ⟨RR, hRR⟩ : ∃ RR, RR = rout m n n [] := ⟨_, rfl⟩
      have HPK : Aside0 ((r1, r2) = pack RR) := ⟨by rw [hRR, ← HM.out]; exact HR.out⟩
      clear hq HK1
      have HRR := Aside0.mk hRR.symm
      clear hRR
      go_wp2_with (first | ((with_reducible refine gate_dst (N := 31) rfl ?_); refine wpList_load_row rfl 67 (.tmp 9) rfl g9 rfl 67 _ (0, 0) _ BK9.out Try.underlying67 rfl (by rw [encs16_size, HOKF.out.1]; kernel_rfl) ?_) | ((with_reducible refine gate_dst (N := 32) rfl ?_); refine wpList_load_row rfl 67 (.tmp 6) rfl g6 rfl 67 _ (0, 0) _ BK6.out Try.underlying67 rfl (by rw [encs16_size, HOK.out.1]; kernel_rfl) ?_))
      clear hne
      go_loopg [10, 40] n (fun kq v10 v40 w' => ∃ (i : Nat) (out : List S51), v40 = .int .i64 i ∧ Aside0 (kq + i = n) ∧ Aside0 (rout m n kq out = RR) ∧ Aside0 (out.length ≤ i * 8) ∧ Aside0 (Kd.S k51 51 w' w.heap.size (fun _ => True) v10 out) ∧ Aside0 (w'.heap[g6]? = some (.cells (encs16 m) 67 (0, 0))) ∧ Aside0 (Below w.heap.size w w'))
      case atStart => exact ⟨0, [], rfl, ⟨by omega⟩, HRR, ⟨by simp⟩, ⟨Kd.S_nil _ _ _ _ _⟩, BK6, HB⟩
      case round =>
       clear HB BK6
       obtain ⟨i, out, rfl, HK2, HRO0, HOUT, HO, BK6, HB⟩ := hrel
       by_cases hi : i < n
       ·have HIi := Aside0.mk hi
        have ci : decide ((i : Int) < (n : Int)) = true := decide_eq_true (by omega)
        have cci : decide (i < n) = true := decide_eq_true (by omega)
        obtain ⟨k1, rfl⟩ : ∃ m, gk = m + 1 := ⟨gk - 1, by have := HK2.out; omega⟩
        have hwi : IntKind.i64.wrap ((i : Int) + 1) = ((i + 1 : Nat) : Int) := i64_succ i (by have := HN.out; omega)
        have HRO : Aside0 ((rin m i n n out).bind (rout m n k1) = RR) := ⟨by have h0 := HRO0.out; rw [rout, show n - (k1 + 1) = i by have := HK2.out; omega] at h0; exact h0⟩
        clear hi HRO0
        go_wp2
        go_loopg [10, 44] n (fun kq v10 v44 w' => ∃ (kk : Nat) (out : List S51), v44 = .int .i64 kk ∧ Aside0 (kq + kk = n) ∧ Aside0 ((rin m i n kq out).bind (rout m n k1) = RR) ∧ Aside0 (out.length ≤ i * 8 + kk) ∧ Aside0 (Kd.S k51 51 w' w.heap.size (fun _ => True) v10 out) ∧ Aside0 (w'.heap[g6]? = some (.cells (encs16 m) 67 (0, 0))) ∧ Aside0 (Below w.heap.size w w'))
        case atStart => exact ⟨0, out, rfl, ⟨by omega⟩, HRO, ⟨by have := HOUT.out; omega⟩, HO, BK6, HB⟩
        case round =>
         clear HB BK6 HO HRO HOUT
         obtain ⟨kk, out, rfl, HK3, HRI, HOUT, HO, BK6, HB⟩ := hrel
         by_cases hk : kk < n
         ·have HIk := Aside0.mk hk
          have ck : decide ((kk : Int) < (n : Int)) = true := decide_eq_true (by omega)
          have cck : decide (kk < n) = true := decide_eq_true (by omega)
          obtain ⟨k3, rfl⟩ : ∃ m, gk = m + 1 := ⟨gk - 1, by have := HK3.out; omega⟩
          have hwk : IntKind.i64.wrap ((kk : Int) + 1) = ((kk + 1 : Nat) : Int) := i64_succ kk (by have := HN.out; omega)
          have HRI2 := HRI.out
          rw [rin, show n - (k3 + 1) = kk by have := HK3.out; omega] at HRI2
          have pi0 : (0 ≤ (i : Int)) = True := eq_true (by omega)
          have pi1 : ((i : Int) < 8) = True := eq_true (by have := HN.out; have := HIi.out; omega)
          have pk0 : (0 ≤ (kk : Int)) = True := eq_true (by omega)
          have pk1 : ((kk : Int) < 8) = True := eq_true (by have := HN.out; omega)
          have hcell := (blk_cell BK6.out (i * 8 + kk)).trans (encs16_net HOK.out i kk (by have := HN.out; have := HIi.out; omega) (by have := HN.out; omega))
          have hse := fun W => set_eq 9998 W (netAt m i kk : Int) 0
          clear hk HRI
          by_cases hz : netAt m i kk = 0
          ·rw [if_pos hz] at HRI2
           have HE := Aside0.mk (show RR = none from HRI2.symm)
           have hzb : ((netAt m i kk : Int) == 0) = true := beq_iff_eq.2 (by omega)
           clear HRI2 hz
           go_wp2
           go_ret2
           have hp := HPK.out
           rw [HE.out] at hp
           injection hp with h1 h2
           subst h1 h2
           exact ⟨_, rfl, Kd.S_nil _ _ _ _ _, HB.out⟩
          ·rw [if_neg hz] at HRI2
           have hzb : ((netAt m i kk : Int) == 0) = false := beq_eq_false_iff_ne.2 (by omega)
           have HLIST := Aside0.mk (list_f (netAt m i kk) 20 (Nat.lt_trans (HOK.out.at i kk) (by decide)) (by omega))
           obtain ⟨lx, hlx⟩ : ∃ lx, lx = listS (netAt m i kk) := ⟨_, rfl⟩
           rw [← hlx] at HLIST HRI2
           clear hlx hz
           have HLEN : Aside0 (out.length < 1000) := ⟨by have := HOUT.out; have := HN.out; have := HIi.out; have := HIk.out; omega⟩
           by_cases hik : i < kk
           ·rw [if_pos hik] at HRI2
            have HRI3 := Aside0.mk HRI2
            have d1 : decide ((i : Int) < (kk : Int)) = true := decide_eq_true (by omega)
            have d2 : decide (i < kk) = true := decide_eq_true hik
            clear HRI2 hik
            go_wp2_with (first | (go_at_call 35; (with_reducible refine (allen_set_list.calls 20 _ lx _ HLIST.out).mono ?_); rintro e_ w9 ⟨v_, rfl, ho, hb⟩; obtain ⟨Ao, co, eo⟩ := Kd.R_slice ho; subst eo; have HOL := Aside0.mk (Kd.R_lower ho (below_size HB.out)); have n1_ := Aside0.mk (show Kd.S k51 51 w9 w.heap.size (fun k_ => some k_ ≠ (Value.slice Ao lx.length co).ownBlock) u10 out from Kd.S_mono (Kd.S_below (Kd.S_bound HO.out) hb) (fun k_ hk he => absurd (Kd.R_base ho k_ he.symm) (Nat.not_le.2 hk.2.2.1))); have n0_ := Aside0.mk (below_step HB.out hb); have n2_ := Aside0.mk (blk_below BK6.out hb); clear HB HO BK6; have HB := n0_; have HO := n1_; have BK6 := n2_; clear n0_ n1_ n2_ hb ho) | ((with_reducible refine gate_builtin (b := .append) (xs := #[.tmp 57, .tmp 67]) rfl ?_); at_builtin; refine Kd.S_append k51 (w0 := w) w.heap.size rfl (.tmp 57) (.tmp 67) 40 51 (.agg #[(.int .i64 0), (.int .i64 0), (.slice none 0 0)]) 40 rfl Try.underlying40 info51 rfl (by decide) (by omega) u10 out (⟨(i : Int), (kk : Int), lx⟩ : S51) [.int .i64 (i : Int), .int .i64 (kk : Int), .slice Ao lx.length co] (fun _ => True) (fun k_ => some k_ = (Value.slice Ao lx.length co).ownBlock) rfl rfl ?aP (fun k_ hk_ => ((Kd.R_mono (ok' := fun k_ => ((fun _ => True)) k_ ∧ some k_ ≠ (u10 : Value).ownBlock) (Kd.R_apart' (HOL.out) (Kd.S_typed HO.out) (by decide)) (fun k_ hk => ⟨trivial, hk.2⟩))).1 k_ hk_.symm) ?aF ?aO ?aB ?aS ?aL ?_; (case aP => exact k51_mkM _ _ _ (⟨(i : Int), (kk : Int), lx⟩ : S51) (Kd.R_mono (Kd.R_tight rfl (Kd.R_mono (ok' := fun k_ => ((fun _ => True)) k_ ∧ some k_ ≠ (u10 : Value).ownBlock) (Kd.R_apart' (HOL.out) (Kd.S_typed HO.out) (by decide)) (fun k_ hk => ⟨trivial, hk.2⟩))) (fun _ h_ => h_))); (case aB => exact HB.out); (case aF => exact (fun _ _ => trivial)); (case aO => exact Kd.S_mono HO.out (fun k_ hk => ⟨trivial, fun e_ => hk e_⟩)); (case aS => exact (below_size HB.out)); (case aL => have := HLEN.out; omega); intro v9 w4 ho hb hg hat; have n0_ := Aside0.mk hb; have n1_ := Aside0.mk ho; have n2_ := Aside0.mk (blk_grown BK6.out hg (Kd.R_ne (Kd.S_R HO.out) BK6.out (by decide))); clear HB HO BK6 HOL; have HB := n0_; have HO := n1_; have BK6 := n2_; clear n0_ n1_ n2_ ho hb hg hat))
            go_roundg k3
            case measure => omega
            case rel => exact ⟨kk + 1, _, rfl, ⟨by have := HK3.out; omega⟩, HRI3, ⟨by rw [List.length_append]; have := HOUT.out; simp; omega⟩, HO, BK6, HB⟩
           ·rw [if_neg hik] at HRI2
            have HRI3 := Aside0.mk HRI2
            have d1 : decide ((i : Int) < (kk : Int)) = false := decide_eq_false (by omega)
            have d2 : decide (i < kk) = false := decide_eq_false hik
            clear HRI2 hik
            go_wp2
            go_roundg k3
            case measure => omega
            case rel => exact ⟨kk + 1, out, rfl, ⟨by have := HK3.out; omega⟩, HRI3, ⟨by have := HOUT.out; omega⟩, HO, BK6, HB⟩
         ·have ck : decide ((kk : Int) < (n : Int)) = false := decide_eq_false (by omega)
          have cck : decide (kk < n) = false := decide_eq_false (by omega)
          have HEk : Aside0 (kk = n) := ⟨by have := HK3.out; omega⟩
          obtain rfl : gk = 0 := by have := HK3.out; omega
          have HRO := Aside0.mk (show rout m n k1 out = RR from HRI.out)
          clear hk
          go_wp2
          go_roundg k1
          case measure => omega
          case rel => exact ⟨i + 1, out, rfl, ⟨by have := HK2.out; omega⟩, HRO, ⟨by have := HOUT.out; have := HN.out; have := HEk.out; omega⟩, HO, BK6, HB⟩
       ·have ci : decide ((i : Int) < (n : Int)) = false := decide_eq_false (by omega)
        have cci : decide (i < n) = false := decide_eq_false (by omega)
        obtain rfl : gk = 0 := by have := HK2.out; omega
        have HE := Aside0.mk (show RR = some out from HRO0.out.symm)
        clear hi
        go_wp2
        go_ret2
        have hp := HPK.out
        rw [HE.out] at hp
        injection hp with h1 h2
        subst h1 h2
        exact ⟨_, rfl, HO.out, HB.out⟩
     ·have HLT := Aside0.mk ((nwF_le m n).lt hq)
      have HLIM2 : Aside0 (lim n (nwF m n) = lim n w0) := ⟨by rw [← HLIM.out, lim_step n m, if_neg hq]⟩
      rw [decide_eq_false hq] at hne
      clear hq
      go_wp2_with (first | ((with_reducible refine gate_dst (N := 31) rfl ?_); refine wpList_load_row rfl 67 (.tmp 9) rfl g9 rfl 67 _ (0, 0) _ BK9.out Try.underlying67 rfl (by rw [encs16_size, HOKF.out.1]; kernel_rfl) ?_) | ((with_reducible refine gate_dst (N := 32) rfl ?_); refine wpList_load_row rfl 67 (.tmp 6) rfl g6 rfl 67 _ (0, 0) _ BK6.out Try.underlying67 rfl (by rw [encs16_size, HOK.out.1]; kernel_rfl) ?_) | ((with_reducible refine gate_dst (N := 37) rfl ?_); refine wpList_load_row rfl 67 (.tmp 9) rfl g9 rfl 67 _ (0, 0) _ BK9.out Try.underlying67 rfl (by rw [encs16_size, HOKF.out.1]; kernel_rfl) ?_) | ((with_reducible refine gate_store (t := 67) (p := 6) (v := .tmp 37) rfl ?_); refine Blk.store_whole rfl rfl 67 (.tmp 6) (.tmp 37) rfl (encs16 (nwF m n)) rfl rfl rfl (by rw [encs16_size, HOKF.out.1]; kernel_rfl) (encs16_one _) BK6.out (by rw [encs16_size, encs16_size, HOK.out.1, HOKF.out.1]) ?_; intro w3 hb3 hg3; have n0_ := Aside0.mk (Blk.below_wrote HB.out hg3 GBK6.out HB.out.size); have n1_ := Aside0.mk (blk_grown BK8.out hg3 (by intro he; injection he with he; exact NBK8BK6.out he)); have n2_ := Aside0.mk (blk_grown BK9.out hg3 (by intro he; injection he with he; exact NBK9BK6.out he)); clear BK6; have BK6 := Aside0.mk hb3; clear HB BK8 BK9; have HB := n0_; have BK8 := n1_; have BK9 := n2_; clear n0_ n1_ n2_; clear hb3 hg3) | ((with_reducible refine gate_dst (N := 38) rfl ?_); refine wpList_load_row rfl 67 (.tmp 9) rfl g9 rfl 67 _ (0, 0) _ BK9.out Try.underlying67 rfl (by rw [encs16_size, HOKF.out.1]; kernel_rfl) ?_) | ((with_reducible refine gate_dst (N := 9) rfl ?_); refine box_event ?hg (N := 9) ?hd (cs := encs16 (List.replicate 64 0)) (t := 67) ?hr ?_; (case hd => rfl); (case hg => rfl); (case hr => first | (go_simp; done) | (go_simp; rfl) | (go_simp; kernel_rfl) | kernel_rfl); intro gA hg w2 hbox hb; have BKA := Aside0.mk hbox; have GBKA := Aside0.mk (show w.heap.size ≤ gA by rw [hg]; exact HB.out.size); have NBK6BKA := Aside0.mk (show g6 ≠ gA by rw [hg]; exact Nat.ne_of_lt (blk_lt BK6.out)); have NBKABK6 := Aside0.mk (show gA ≠ g6 by rw [hg]; exact Nat.ne_of_gt (blk_lt BK6.out)); have NBK8BKA := Aside0.mk (show g8 ≠ gA by rw [hg]; exact Nat.ne_of_lt (blk_lt BK8.out)); have NBKABK8 := Aside0.mk (show gA ≠ g8 by rw [hg]; exact Nat.ne_of_gt (blk_lt BK8.out)); have NBK9BKA := Aside0.mk (show g9 ≠ gA by rw [hg]; exact Nat.ne_of_lt (blk_lt BK9.out)); have NBKABK9 := Aside0.mk (show gA ≠ g9 by rw [hg]; exact Nat.ne_of_gt (blk_lt BK9.out)); have n0_ := Aside0.mk (below_step HB.out hb); have n1_ := Aside0.mk (blk_below BK6.out hb); have n2_ := Aside0.mk (blk_below BK8.out hb); have n3_ := Aside0.mk (blk_below BK9.out hb); clear HB BK6 BK8 BK9; have HB := n0_; have BK6 := n1_; have BK8 := n2_; have BK9 := n3_; clear n0_ n1_ n2_ n3_; clear hbox hb hg) | ((with_reducible refine gate_store (t := 67) (p := 9) (v := .tmp 38) rfl ?_); refine Blk.store_whole rfl rfl 67 (.tmp 9) (.tmp 38) rfl (encs16 (nwF m n)) rfl rfl rfl (by rw [encs16_size, HOKF.out.1]; kernel_rfl) (encs16_one _) BKA.out (by rw [encs16_size, encs16_size, List.length_replicate, HOKF.out.1]) ?_; intro w3 hb3 hg3; have n0_ := Aside0.mk (Blk.below_wrote HB.out hg3 GBKA.out HB.out.size); have n1_ := Aside0.mk (blk_grown BK6.out hg3 (by intro he; injection he with he; exact NBK6BKA.out he)); have n2_ := Aside0.mk (blk_grown BK8.out hg3 (by intro he; injection he with he; exact NBK8BKA.out he)); have n3_ := Aside0.mk (blk_grown BK9.out hg3 (by intro he; injection he with he; exact NBK9BKA.out he)); clear BKA; have BKA := Aside0.mk hb3; clear HB BK6 BK8 BK9; have HB := n0_; have BK6 := n1_; have BK8 := n2_; have BK9 := n3_; clear n0_ n1_ n2_ n3_; clear hb3 hg3) | ((with_reducible refine gate_dst (N := 34) rfl ?_); refine wpList_load_row rfl 67 (.tmp 6) rfl g6 rfl 67 _ (0, 0) _ BK6.out Try.underlying67 rfl (by rw [encs16_size, HOKF.out.1]; kernel_rfl) ?_) | (go_at_call 38; (with_reducible refine (allen_narrowed_calls g8 n (nwF m n) HN.out HOKF.out _ BK8.out).mono ?_); rintro e_ w9 ⟨rfl, hb⟩; have n0_ := Aside0.mk (below_step HB.out hb); have n1_ := Aside0.mk (blk_below BK6.out hb); have n2_ := Aside0.mk (blk_below BK8.out hb); have n3_ := Aside0.mk (blk_below BK9.out hb); have n4_ := Aside0.mk (blk_below BKA.out hb); clear HB BK6 BK8 BK9 BKA; have HB := n0_; have BK6 := n1_; have BK8 := n2_; have BK9 := n3_; have BKA := n4_; clear n0_ n1_ n2_ n3_ n4_; clear hb) | ((with_reducible refine gate_store (t := 67) (p := 9) (v := .tmp 36) rfl ?_); refine Blk.store_whole rfl rfl 67 (.tmp 9) (.tmp 36) rfl (encs16 (nwF (nwF m n) n)) rfl rfl rfl (by rw [encs16_size, (nwF_ok HOKF.out n).1]; kernel_rfl) (encs16_one _) BKA.out (by rw [encs16_size, encs16_size, HOKF.out.1, (nwF_ok HOKF.out n).1]) ?_; intro w3 hb3 hg3; have n0_ := Aside0.mk (Blk.below_wrote HB.out hg3 GBKA.out HB.out.size); have n1_ := Aside0.mk (blk_grown BK6.out hg3 (by intro he; injection he with he; exact NBK6BKA.out he)); have n2_ := Aside0.mk (blk_grown BK8.out hg3 (by intro he; injection he with he; exact NBK8BKA.out he)); have n3_ := Aside0.mk (blk_grown BK9.out hg3 (by intro he; injection he with he; exact NBK9BKA.out he)); clear BKA; have BKA := Aside0.mk hb3; clear HB BK6 BK8 BK9; have HB := n0_; have BK6 := n1_; have BK8 := n2_; have BK9 := n3_; clear n0_ n1_ n2_ n3_; clear hb3 hg3))
      go_roundg ((nwF m n).sum + 1)
      case measure => have := HK1.out; have := HLT.out; omega
      case rel => exact ⟨gA, nwF m n, rfl, ⟨rfl⟩, HOKF, HLIM2, GBKA, NBK6BKA, NBK8BKA, BK6, BK8, BKA, HB⟩
end Go.Proofs.Ytoemcdkopnclbaa.A
