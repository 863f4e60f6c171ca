/-
  clock.Shown's contract: what the call computes (valid stamps, a reading; fewer than 2^43 stamps), and that it leaves all that was there.
-/
import Derived.Test.YtaipdnlfhhadjaaQHAdd
import Derived.Test.YtaipdnlfhhadjaaQBlk
namespace Go.Proofs.Ytaipdnlfhhadjaa.C
open Go.RowKit Go.Proofs.YtaipdnlfhhadjaaW.PrintWords Go.Proofs.YtaipdnlfhhadjaaW.PrintLast Go.Proofs.YtaipdnlfhhadjaaW.PrintMore
attribute [local go_sem] max2_int min2_int max_two min_two max_three min_three max_four min_four
set_option linter.unusedVariables false
set_option linter.unusedSimpArgs false
/-- What 'add' makes of the list. -/
def addF (xs : List S49) (p0 p1 : Int) : List S49 :=
  match xs.length with
  | 0 => [⟨p0, p1⟩]
  | m + 1 => match period_Merge.f (rd_T49 xs (m : Int)).f0 (rd_T49 xs (m : Int)).f1 p0 p1 with
    | some (m0, m1, true) => xs.set m ⟨m0, m1⟩
    | some (_, _, false) => xs ++ [⟨p0, p1⟩]
    | none => []
theorem addF_len (xs : List S49) (p0 p1 : Int) : (addF xs p0 p1).length ≤ xs.length + 1 := by
  unfold addF
  split
  · simp
  · split <;> simp
theorem merge_some (a b c d : Int) : ∃ r, period_Merge.f a b c d = some r := by
  unfold period_Merge.f period_Overlaps.f period_Adjacent.f period_Valid.f
  repeat' first | split | (simp only [Option.bind_some]) | exact ⟨_, rfl⟩
theorem add_calls (p0 p1 : Int) (B base : Nat) (v : Value) (xs : List S49) (w : World) (hb : w.heap[B]? = some (.cells #[v] 42 (0, 0))) (hR : Kd.R k49 49 w base (fun _ => True) v xs) (hbase : base ≤ B) (hlim : xs.length + 1 < 8796093022208) :
    Calls Try.prog 32 #[.agg #[.int .i64 p0, .int .i64 p1], .pointer (some ⟨B, 0, none⟩)] w (AddPost w base B (addF xs p0 p1)) := by
  unfold addF
  cases hm : xs.length with
  | zero =>
    obtain rfl : xs = [] := List.eq_nil_of_length_eq_zero hm
    exact add_first p0 p1 B base v w hb hR hbase
  | succ m =>
    obtain ⟨⟨m0, m1, mb⟩, hM⟩ := merge_some (rd_T49 xs (m : Int)).f0 (rd_T49 xs (m : Int)).f1 p0 p1
    simp only [hM]
    cases mb with
    | true => exact add_merge p0 p1 B base v xs m m0 m1 w hb hR hbase hm hM (by omega)
    | false => exact add_apart p0 p1 B base v xs m m0 m1 w hb hR hbase hm hM (by omega)
def shownNow (wall : Int) (from_ next : S34) : Bool := (decide (from_.f1 ≤ wall) && decide (wall ≤ next.f1)) || (decide (next.f1 < from_.f1) && (decide (from_.f1 ≤ wall) || decide (wall ≤ next.f1)))
def shownRun (wall : Int) : List S34 → S34 → List S49 → List S49
  | [], from_, out => if from_.f1 ≤ wall then addF out from_.f0 1099511627776 else out
  | n :: rest, from_, out => shownRun wall rest n (if shownNow wall from_ n = true then addF out from_.f0 n.f0 else out)
def clock_Shown.f (k : Nat) (l0 : List S34) (a1 : Int) : Option (List S49) :=
  (clock_Check.f k l0).bind fun e => if e = 0 then (clock_instant.f a1).bind fun b => (if b = true then (if l0.length + 2 < 8796093022208 then some (shownRun a1 l0 ⟨0, 0⟩ []) else none) else some []) else some []
theorem clock_Shown.mono : ∀ a0 a1 k, LeO (clock_Shown.f k a0 a1) (clock_Shown.f (k + 1) a0 a1) := by
  intro a0 a1 k
  unfold clock_Shown.f
  refine LeO.bind (clock_Check.mono a0 k) (fun _ => LeO.refl _)
theorem drop_rd (l : List S34) (i : Nat) (h : i < l.length) : l.drop i = rd_T34 l (i : Int) :: l.drop (i + 1) := by
  rw [List.drop_eq_getElem_cons h]
  simp [rd_T34, List.getD_eq_getElem?_getD, List.getElem?_eq_getElem h]
set_option maxHeartbeats 8000000 in
set_option maxRecDepth 100000 in
theorem clock_Shown.calls (k : Nat) (A0 : Option Addr) (c0 : Nat) (l0 : List (S34)) (a1 : Int) (r : List S49) (w : World) (hr0 : Kd.C k34 w A0 l0.length l0) (hc0 : l0.length ≤ c0) (h : clock_Shown.f k l0 a1 = some r) :
    Calls Try.prog 23 #[.slice A0 l0.length c0, .int .i64 a1] w fun e w' => ∃ v0_ : Value, e = .returned v0_ ∧ Kd.R k49 49 w' w.heap.size (fun _ => True) v0_ r ∧ Below w.heap.size w w' := by
  have hu34 := Try.underlying34
  have hu49 := Try.underlying49
  have hmf : ∀ (fn : Fn) (first cap : Array Value) (w : World), (Instr.makeFunc fn first cap).run Try.prog w = .ok (.func fn first cap) w := fun _ _ _ _ => rfl
  have HR0 := Aside0.mk hr0
  have HC0 := Aside0.mk hc0
  clear hr0 hc0
  have HB := Aside0.mk (Below.refl w.heap.size w)
  obtain ⟨e, he, h⟩ := Option.bind_eq_some_iff.mp (show ((clock_Check.f k l0).bind fun e => if e = 0 then (clock_instant.f a1).bind fun b => (if b = true then (if l0.length + 2 < 8796093022208 then some (shownRun a1 l0 ⟨0, 0⟩ []) else none) else some []) else some []) = some r from h)
  have HE := Aside0.mk he
  clear he
  by_cases c1 : e = 0
  · subst c1
    obtain ⟨b, hb, h⟩ := Option.bind_eq_some_iff.mp (show ((clock_instant.f a1).bind fun b => (if b = true then (if l0.length + 2 < 8796093022208 then some (shownRun a1 l0 ⟨0, 0⟩ []) else none) else some [])) = some r by rw [if_pos rfl] at h; exact h)
    have HI := Aside0.mk hb
    clear hb
    cases b with
    | false =>
      have H : ([] : List S49) = r := by simpa using h
      subst H
      clear h
      go_enter Try.func23, Try.ntmps23
      go_wp2_with (first | (go_at_call 15; (with_reducible refine (clock_Check.calls k _ _ l0 0 _ ?side1 ?side2 HE.out).mono ?_); (case side1 => exact HR0.out); (case side2 => exact HC0.out); rintro e_ w1 ⟨rfl, hb⟩; have n0_ := Aside0.mk (below_step HB.out hb); clear HB; have HB := n0_; clear n0_ hb) | (go_at_call 29; (with_reducible refine (clock_instant.calls a1 false _ HI.out).mono ?_); rintro e_ w' ⟨rfl, ⟨nd, rfl⟩⟩; have n0_ := Aside0.mk (pw_below_drewN HB.out nd); clear HB; have HB := n0_; clear n0_))
      go_ret
      exact ⟨_, rfl, Kd.R_nil _ _ _ _ _, HB.out⟩
    | true =>
      have h : (if l0.length + 2 < 8796093022208 then some (shownRun a1 l0 ⟨0, 0⟩ []) else none) = some r := h
      have HL : Aside0 (l0.length + 2 < 8796093022208) := by
        by_cases hq : l0.length + 2 < 8796093022208
        · exact ⟨hq⟩
        · rw [if_neg hq] at h; exact absurd h (by simp)
      have H : shownRun a1 l0 ⟨0, 0⟩ [] = r := by rw [if_pos HL.out] at h; exact Option.some.inj h
      have HRUN := Aside0.mk H
      clear h H
      go_enter Try.func23, Try.ntmps23
      go_wp2_with (first | (go_at_call 15; (with_reducible refine (clock_Check.calls k _ _ l0 0 _ ?side1 ?side2 HE.out).mono ?_); (case side1 => exact HR0.out); (case side2 => exact HC0.out); rintro e_ w1 ⟨rfl, hb⟩; have n0_ := Aside0.mk (below_step HB.out hb); clear HB; have HB := n0_; clear n0_ hb) | (go_at_call 29; (with_reducible refine (clock_instant.calls a1 true _ HI.out).mono ?_); rintro e_ w' ⟨rfl, ⟨nd, rfl⟩⟩; have n0_ := Aside0.mk (pw_below_drewN HB.out nd); clear HB; have HB := n0_; clear n0_) | ((with_reducible refine gate_dst (N := 5) rfl ?_); refine box_event ?hg (N := 5) ?hd (cs := #[.slice none 0 0]) (t := 42) ?hr ?_; (case hd => rfl); (case hg => rfl); (case hr => first | (go_simp; done) | (go_simp; rfl)); intro B hg w2 hbox hb; have BKB := Aside0.mk hbox; have GB := Aside0.mk (show w.heap.size ≤ B by rw [hg]; exact HB.out.size); have n0_ := Aside0.mk (below_step HB.out hb); clear HB; have HB := n0_; clear n0_ hbox hb hg) | ((with_reducible refine gate_dst (N := 7) rfl ?_); refine box_event ?hg (N := 7) ?hd (cs := #[.int .i64 0, .int .i64 0]) (t := 34) ?hr ?_; (case hd => rfl); (case hg => rfl); (case hr => first | (go_simp; done) | (go_simp; rfl)); intro F hg w3 hbox hb; have BKF := Aside0.mk hbox; have GF := Aside0.mk (show w.heap.size ≤ F by rw [hg]; exact HB.out.size); have n0_ := Aside0.mk (below_step HB.out hb); have n1_ := Aside0.mk (blk_below BKB.out hb); clear HB BKB; have HB := n0_; have BKB := n1_; clear n0_ n1_ hbox hb hg) | ((with_reducible refine gate_store (t := 34) (p := 7) (v := .tmp 21) rfl ?_); refine Blk.store_whole rfl rfl 34 (.tmp 7) (.tmp 21) rfl #[.int .i64 0, .int .i64 0] rfl rfl rfl (by kernel_rfl) (by simp [Value.oneCell']) BKF.out rfl ?_; intro w4 hb4 hg4; have n0_ := Aside0.mk (Blk.below_wrote HB.out hg4 GF.out HB.out.size); have n1_ := Aside0.mk (blk_grown BKB.out hg4 (by intro he; injection he with he; exact (blk_ne BKB.out BKF.out (by decide)) he)); clear HB BKB BKF; have HB := n0_; have BKB := n1_; have BKF := Aside0.mk hb4; clear n0_ n1_ hb4 hg4))
      have NFB : Aside0 (F ≠ B) := ⟨fun he => (blk_ne BKB.out BKF.out (by decide)) he.symm⟩
      go_loopg [24] l0.length (fun kq v24 w' => ∃ (x : Int) (out : List S49) (fr : S34) (v : Value), v24 = .int .i64 x ∧ Aside0 (0 ≤ x) ∧ Aside0 ((kq : Int) + x = l0.length) ∧ Aside0 ((out.length : Int) ≤ x) ∧ Aside0 (shownRun a1 (l0.drop x.toNat) fr out = r) ∧ Aside0 (w'.heap[B]? = some (.cells #[v] 42 (0, 0))) ∧ Aside0 (Kd.R k49 49 w' w.heap.size (fun _ => True) v out) ∧ Aside0 (w'.heap[F]? = some (.cells #[.int .i64 fr.f0, .int .i64 fr.f1] 34 (0, 0))) ∧ Aside0 (Below w.heap.size w w'))
      case atStart => exact ⟨0, [], ⟨0, 0⟩, .slice none 0 0, rfl, ⟨by omega⟩, ⟨by simp⟩, ⟨by simp⟩, ⟨by simpa using HRUN.out⟩, BKB, ⟨Kd.R_nil _ _ _ _ _⟩, BKF, HB⟩
      case round =>
        clear HRUN BKB BKF HB
        obtain ⟨x, out, fr, v, rfl, HX, HK, HOL, HRUN, BKB, HO, BKF, HB⟩ := hrel
        by_cases hlt : x < (l0.length : Int)
        · obtain ⟨k1, rfl⟩ : ∃ m, gk = m + 1 := ⟨gk - 1, by have := HK.out; omega⟩
          have HLT := Aside0.mk hlt
          have c2b0 : decide (x < (l0.length : Int)) = true := decide_eq_true hlt
          clear hlt
          have p1 : 0 ≤ (x : Int) := HX.out
          have q1 : x < (l0.length : Int) := HLT.out
          obtain ⟨ad, e1, hx0, hx1⟩ := at_T34 HR0.out x p1 q1
          cases e1
          obtain ⟨nx, hnx⟩ : ∃ nx : S34, nx = rd_T34 l0 x := ⟨_, rfl⟩
          rw [← hnx] at hx0 hx1
          have HNX := Aside0.mk hnx
          clear hnx
          have HRUN1 : Aside0 (shownRun a1 (l0.drop (x + 1).toNat) nx (if shownNow a1 fr nx = true then addF out fr.f0 nx.f0 else out) = r) := by
            refine ⟨?_⟩
            have h0 := HRUN.out
            have hxe : ((x.toNat : Nat) : Int) = x := by have := HX.out; omega
            rw [drop_rd l0 x.toNat (by have := HX.out; have := HLT.out; omega), hxe, ← HNX.out] at h0
            rw [show (x + 1).toNat = x.toNat + 1 by have := HX.out; omega]
            exact h0
          clear HRUN
          replace hx0 := (HB.out.cell (World.block_lt_of_cell? w _ hx0)).trans hx0
          replace hx1 := (HB.out.cell (World.block_lt_of_cell? w _ hx1)).trans hx1
          have hw1 : wrap64 (x + 1) = x + 1 := by have := HLT.out; have := HL.out; have := HX.out; unfold wrap64; omega
          have HW1 := Aside0.mk hw1
          clear hw1
          replace p1 := eq_true p1
          replace q1 := eq_true q1
          by_cases d1 : fr.f1 ≤ a1
          · by_cases d2 : a1 ≤ nx.f1
            · have d3 : ¬ nx.f1 < fr.f1 := by omega
              have c1b0 : decide (fr.f1 ≤ a1) = true := by simpa using d1
              have c1b1 : decide (a1 ≤ nx.f1) = true := by simpa using d2
              have c1b2 : decide (nx.f1 < fr.f1) = false := by simpa using d3
              have hs : shownNow a1 fr nx = true := by simp [shownNow, c1b0, c1b1, c1b2]
              have HRUN2 : Aside0 (shownRun a1 (l0.drop (x + 1).toNat) nx (addF out fr.f0 nx.f0) = r) := ⟨by have h0 := HRUN1.out; rw [hs] at h0; exact h0⟩
              clear d1 d2 d3 hs HRUN1
              go_wp2_with (first | ((with_reducible refine gate_dst (N := 9) rfl ?_); refine box_event ?hg (N := 9) ?hd (cs := #[.int .i64 0, .int .i64 0]) (t := 34) ?hr ?_; (case hd => rfl); (case hg => rfl); (case hr => first | (go_simp; done) | (go_simp; rfl)); intro N hg w2 hbox hb; have BKN := Aside0.mk hbox; have GN := Aside0.mk (show w.heap.size ≤ N by rw [hg]; exact HB.out.size); have NNB := Aside0.mk (show N ≠ B by rw [hg]; exact Nat.ne_of_gt (blk_lt BKB.out)); have NNF := Aside0.mk (show N ≠ F by rw [hg]; exact Nat.ne_of_gt (blk_lt BKF.out)); have n0_ := Aside0.mk (below_step HB.out hb); have n1_ := Aside0.mk (blk_below BKB.out hb); have n2_ := Aside0.mk (blk_below BKF.out hb); have n3_ := Aside0.mk (Kd.R_below HO.out hb); clear HB BKB BKF HO hx0 hx1; have HB := n0_; have BKB := n1_; have BKF := n2_; have HO := n3_; clear n0_ n1_ n2_ n3_ hbox hb hg) | ((with_reducible refine gate_store (t := 34) (p := 9) (v := .tmp 27) rfl ?_); refine Blk.store_whole rfl rfl 34 (.tmp 9) (.tmp 27) rfl #[.int .i64 nx.f0, .int .i64 nx.f1] rfl rfl rfl (by kernel_rfl) (by simp [Value.oneCell']) BKN.out rfl ?_; intro w4 hb4 hg4; have n0_ := Aside0.mk (Blk.below_wrote HB.out hg4 GN.out HB.out.size); have n1_ := Aside0.mk (blk_grown BKB.out hg4 (by intro he; injection he with he; exact NNB.out he.symm)); have n2_ := Aside0.mk (blk_grown BKF.out hg4 (by intro he; injection he with he; exact NNF.out he.symm)); have n3_ := Aside0.mk (Kd.R_mono (Kd.R_grown (Kd.R_types HO.out BKN.out (by decide)) hg4 (fun _ hk he => hk.2 (by injection he))) (fun _ _ => trivial)); clear HB BKB BKN BKF HO; have HB := n0_; have BKB := n1_; have BKF := n2_; have HO := n3_; have BKN := Aside0.mk hb4; have hcF0 := (blk_cell BKF.out 0).trans rfl; have hcF1 := (blk_cell BKF.out 1).trans rfl; have hcN0 := (blk_cell BKN.out 0).trans rfl; have hcN1 := (blk_cell BKN.out 1).trans rfl; clear n0_ n1_ n2_ n3_ hb4 hg4) | (go_at_call 32; (with_reducible refine (add_calls fr.f0 nx.f0 B w.heap.size v out _ BKB.out HO.out GB.out ?side1).mono ?_); (case side1 => have := HOL.out; have := HL.out; have := HLT.out; omega); rintro e_ w7 ⟨rfl, ⟨v', hb', hR'⟩, hfr, hbel, hsz⟩; have n0_ := Aside0.mk hb'; have n1_ := Aside0.mk hR'; have n2_ := Aside0.mk (HB.out.trans hbel); have n3_ := Aside0.mk (hfr F _ 34 BKF.out (by decide) NFB.out); have n4_ := Aside0.mk (hfr N _ 34 BKN.out (by decide) NNB.out); clear BKB HO HB BKF BKN hcF0 hcF1 hcN0 hcN1; have BKB := n0_; have HO := n1_; have HB := n2_; have BKF := n3_; have BKN := n4_; have hcN0 := (blk_cell BKN.out 0).trans rfl; have hcN1 := (blk_cell BKN.out 1).trans rfl; clear n0_ n1_ n2_ n3_ n4_ hb' hR' hfr hbel hsz) | ((with_reducible refine gate_store (t := 34) (p := 7) (v := .tmp 66) rfl ?_); refine Blk.store_whole rfl rfl 34 (.tmp 7) (.tmp 66) rfl #[.int .i64 nx.f0, .int .i64 nx.f1] rfl rfl rfl (by kernel_rfl) (by simp [Value.oneCell']) BKF.out rfl ?_; intro w8 hb8 hg8; have n0_ := Aside0.mk (Blk.below_wrote HB.out hg8 GF.out HB.out.size); have n1_ := Aside0.mk (blk_grown BKB.out hg8 (by intro he; injection he with he; exact NFB.out he.symm)); have n3_ := Aside0.mk (Kd.R_mono (Kd.R_grown (Kd.R_types HO.out BKF.out (by decide)) hg8 (fun _ hk he => hk.2 (by injection he))) (fun _ _ => trivial)); clear HB BKB BKF HO; (try clear hcF0 hcF1); have HB := n0_; have BKB := n1_; have BKF := Aside0.mk hb8; have HO := n3_; clear n0_ n1_ n3_ hb8 hg8))
              go_roundg k1
              case measure => omega
              case rel => exact ⟨x + 1, _, nx, _, (by first | rfl | (rw [← HW1.out]; rfl) | (simp [HW1.out]; done) | (rw [HW1.out])), ⟨by have := HX.out; omega⟩, ⟨by have := HK.out; omega⟩, ⟨by have := HOL.out; have := addF_len out fr.f0 nx.f0; omega⟩, HRUN2, BKB, HO, BKF, HB⟩
            · by_cases d3 : nx.f1 < fr.f1
              · have c1b0 : decide (fr.f1 ≤ a1) = true := by simpa using d1
                have c1b1 : decide (a1 ≤ nx.f1) = false := by simpa using d2
                have c1b2 : decide (nx.f1 < fr.f1) = true := by simpa using d3
                have hs : shownNow a1 fr nx = true := by simp [shownNow, c1b0, c1b1, c1b2]
                have HRUN2 : Aside0 (shownRun a1 (l0.drop (x + 1).toNat) nx (addF out fr.f0 nx.f0) = r) := ⟨by have h0 := HRUN1.out; rw [hs] at h0; exact h0⟩
                clear d1 d2 d3 hs HRUN1
                go_wp2_with (first | ((with_reducible refine gate_dst (N := 9) rfl ?_); refine box_event ?hg (N := 9) ?hd (cs := #[.int .i64 0, .int .i64 0]) (t := 34) ?hr ?_; (case hd => rfl); (case hg => rfl); (case hr => first | (go_simp; done) | (go_simp; rfl)); intro N hg w2 hbox hb; have BKN := Aside0.mk hbox; have GN := Aside0.mk (show w.heap.size ≤ N by rw [hg]; exact HB.out.size); have NNB := Aside0.mk (show N ≠ B by rw [hg]; exact Nat.ne_of_gt (blk_lt BKB.out)); have NNF := Aside0.mk (show N ≠ F by rw [hg]; exact Nat.ne_of_gt (blk_lt BKF.out)); have n0_ := Aside0.mk (below_step HB.out hb); have n1_ := Aside0.mk (blk_below BKB.out hb); have n2_ := Aside0.mk (blk_below BKF.out hb); have n3_ := Aside0.mk (Kd.R_below HO.out hb); clear HB BKB BKF HO hx0 hx1; have HB := n0_; have BKB := n1_; have BKF := n2_; have HO := n3_; clear n0_ n1_ n2_ n3_ hbox hb hg) | ((with_reducible refine gate_store (t := 34) (p := 9) (v := .tmp 27) rfl ?_); refine Blk.store_whole rfl rfl 34 (.tmp 9) (.tmp 27) rfl #[.int .i64 nx.f0, .int .i64 nx.f1] rfl rfl rfl (by kernel_rfl) (by simp [Value.oneCell']) BKN.out rfl ?_; intro w4 hb4 hg4; have n0_ := Aside0.mk (Blk.below_wrote HB.out hg4 GN.out HB.out.size); have n1_ := Aside0.mk (blk_grown BKB.out hg4 (by intro he; injection he with he; exact NNB.out he.symm)); have n2_ := Aside0.mk (blk_grown BKF.out hg4 (by intro he; injection he with he; exact NNF.out he.symm)); have n3_ := Aside0.mk (Kd.R_mono (Kd.R_grown (Kd.R_types HO.out BKN.out (by decide)) hg4 (fun _ hk he => hk.2 (by injection he))) (fun _ _ => trivial)); clear HB BKB BKN BKF HO; have HB := n0_; have BKB := n1_; have BKF := n2_; have HO := n3_; have BKN := Aside0.mk hb4; have hcF0 := (blk_cell BKF.out 0).trans rfl; have hcF1 := (blk_cell BKF.out 1).trans rfl; have hcN0 := (blk_cell BKN.out 0).trans rfl; have hcN1 := (blk_cell BKN.out 1).trans rfl; clear n0_ n1_ n2_ n3_ hb4 hg4) | (go_at_call 32; (with_reducible refine (add_calls fr.f0 nx.f0 B w.heap.size v out _ BKB.out HO.out GB.out ?side1).mono ?_); (case side1 => have := HOL.out; have := HL.out; have := HLT.out; omega); rintro e_ w7 ⟨rfl, ⟨v', hb', hR'⟩, hfr, hbel, hsz⟩; have n0_ := Aside0.mk hb'; have n1_ := Aside0.mk hR'; have n2_ := Aside0.mk (HB.out.trans hbel); have n3_ := Aside0.mk (hfr F _ 34 BKF.out (by decide) NFB.out); have n4_ := Aside0.mk (hfr N _ 34 BKN.out (by decide) NNB.out); clear BKB HO HB BKF BKN hcF0 hcF1 hcN0 hcN1; have BKB := n0_; have HO := n1_; have HB := n2_; have BKF := n3_; have BKN := n4_; have hcN0 := (blk_cell BKN.out 0).trans rfl; have hcN1 := (blk_cell BKN.out 1).trans rfl; clear n0_ n1_ n2_ n3_ n4_ hb' hR' hfr hbel hsz) | ((with_reducible refine gate_store (t := 34) (p := 7) (v := .tmp 66) rfl ?_); refine Blk.store_whole rfl rfl 34 (.tmp 7) (.tmp 66) rfl #[.int .i64 nx.f0, .int .i64 nx.f1] rfl rfl rfl (by kernel_rfl) (by simp [Value.oneCell']) BKF.out rfl ?_; intro w8 hb8 hg8; have n0_ := Aside0.mk (Blk.below_wrote HB.out hg8 GF.out HB.out.size); have n1_ := Aside0.mk (blk_grown BKB.out hg8 (by intro he; injection he with he; exact NFB.out he.symm)); have n3_ := Aside0.mk (Kd.R_mono (Kd.R_grown (Kd.R_types HO.out BKF.out (by decide)) hg8 (fun _ hk he => hk.2 (by injection he))) (fun _ _ => trivial)); clear HB BKB BKF HO; (try clear hcF0 hcF1); have HB := n0_; have BKB := n1_; have BKF := Aside0.mk hb8; have HO := n3_; clear n0_ n1_ n3_ hb8 hg8))
                go_roundg k1
                case measure => omega
                case rel => exact ⟨x + 1, _, nx, _, (by first | rfl | (rw [← HW1.out]; rfl) | (simp [HW1.out]; done) | (rw [HW1.out])), ⟨by have := HX.out; omega⟩, ⟨by have := HK.out; omega⟩, ⟨by have := HOL.out; have := addF_len out fr.f0 nx.f0; omega⟩, HRUN2, BKB, HO, BKF, HB⟩
              · have c1b0 : decide (fr.f1 ≤ a1) = true := by simpa using d1
                have c1b1 : decide (a1 ≤ nx.f1) = false := by simpa using d2
                have c1b2 : decide (nx.f1 < fr.f1) = false := by simpa using d3
                have hs : shownNow a1 fr nx = false := by simp [shownNow, c1b0, c1b1, c1b2]
                have HRUN2 : Aside0 (shownRun a1 (l0.drop (x + 1).toNat) nx (out) = r) := ⟨by have h0 := HRUN1.out; rw [hs] at h0; exact h0⟩
                clear d1 d2 d3 hs HRUN1
                go_wp2_with (first | ((with_reducible refine gate_dst (N := 9) rfl ?_); refine box_event ?hg (N := 9) ?hd (cs := #[.int .i64 0, .int .i64 0]) (t := 34) ?hr ?_; (case hd => rfl); (case hg => rfl); (case hr => first | (go_simp; done) | (go_simp; rfl)); intro N hg w2 hbox hb; have BKN := Aside0.mk hbox; have GN := Aside0.mk (show w.heap.size ≤ N by rw [hg]; exact HB.out.size); have NNB := Aside0.mk (show N ≠ B by rw [hg]; exact Nat.ne_of_gt (blk_lt BKB.out)); have NNF := Aside0.mk (show N ≠ F by rw [hg]; exact Nat.ne_of_gt (blk_lt BKF.out)); have n0_ := Aside0.mk (below_step HB.out hb); have n1_ := Aside0.mk (blk_below BKB.out hb); have n2_ := Aside0.mk (blk_below BKF.out hb); have n3_ := Aside0.mk (Kd.R_below HO.out hb); clear HB BKB BKF HO hx0 hx1; have HB := n0_; have BKB := n1_; have BKF := n2_; have HO := n3_; clear n0_ n1_ n2_ n3_ hbox hb hg) | ((with_reducible refine gate_store (t := 34) (p := 9) (v := .tmp 27) rfl ?_); refine Blk.store_whole rfl rfl 34 (.tmp 9) (.tmp 27) rfl #[.int .i64 nx.f0, .int .i64 nx.f1] rfl rfl rfl (by kernel_rfl) (by simp [Value.oneCell']) BKN.out rfl ?_; intro w4 hb4 hg4; have n0_ := Aside0.mk (Blk.below_wrote HB.out hg4 GN.out HB.out.size); have n1_ := Aside0.mk (blk_grown BKB.out hg4 (by intro he; injection he with he; exact NNB.out he.symm)); have n2_ := Aside0.mk (blk_grown BKF.out hg4 (by intro he; injection he with he; exact NNF.out he.symm)); have n3_ := Aside0.mk (Kd.R_mono (Kd.R_grown (Kd.R_types HO.out BKN.out (by decide)) hg4 (fun _ hk he => hk.2 (by injection he))) (fun _ _ => trivial)); clear HB BKB BKN BKF HO; have HB := n0_; have BKB := n1_; have BKF := n2_; have HO := n3_; have BKN := Aside0.mk hb4; have hcF0 := (blk_cell BKF.out 0).trans rfl; have hcF1 := (blk_cell BKF.out 1).trans rfl; have hcN0 := (blk_cell BKN.out 0).trans rfl; have hcN1 := (blk_cell BKN.out 1).trans rfl; clear n0_ n1_ n2_ n3_ hb4 hg4) | ((with_reducible refine gate_store (t := 34) (p := 7) (v := .tmp 66) rfl ?_); refine Blk.store_whole rfl rfl 34 (.tmp 7) (.tmp 66) rfl #[.int .i64 nx.f0, .int .i64 nx.f1] rfl rfl rfl (by kernel_rfl) (by simp [Value.oneCell']) BKF.out rfl ?_; intro w8 hb8 hg8; have n0_ := Aside0.mk (Blk.below_wrote HB.out hg8 GF.out HB.out.size); have n1_ := Aside0.mk (blk_grown BKB.out hg8 (by intro he; injection he with he; exact NFB.out he.symm)); have n3_ := Aside0.mk (Kd.R_mono (Kd.R_grown (Kd.R_types HO.out BKF.out (by decide)) hg8 (fun _ hk he => hk.2 (by injection he))) (fun _ _ => trivial)); clear HB BKB BKF HO; (try clear hcF0 hcF1); have HB := n0_; have BKB := n1_; have BKF := Aside0.mk hb8; have HO := n3_; clear n0_ n1_ n3_ hb8 hg8))
                go_roundg k1
                case measure => omega
                case rel => exact ⟨x + 1, _, nx, _, (by first | rfl | (rw [← HW1.out]; rfl) | (simp [HW1.out]; done) | (rw [HW1.out])), ⟨by have := HX.out; omega⟩, ⟨by have := HK.out; omega⟩, ⟨by have := HOL.out; have := addF_len out fr.f0 nx.f0; omega⟩, HRUN2, BKB, HO, BKF, HB⟩
          · by_cases d3 : nx.f1 < fr.f1
            · by_cases d2 : a1 ≤ nx.f1
              · have c1b0 : decide (fr.f1 ≤ a1) = false := by simpa using d1
                have c1b1 : decide (a1 ≤ nx.f1) = true := by simpa using d2
                have c1b2 : decide (nx.f1 < fr.f1) = true := by simpa using d3
                have hs : shownNow a1 fr nx = true := by simp [shownNow, c1b0, c1b1, c1b2]
                have HRUN2 : Aside0 (shownRun a1 (l0.drop (x + 1).toNat) nx (addF out fr.f0 nx.f0) = r) := ⟨by have h0 := HRUN1.out; rw [hs] at h0; exact h0⟩
                clear d1 d2 d3 hs HRUN1
                go_wp2_with (first | ((with_reducible refine gate_dst (N := 9) rfl ?_); refine box_event ?hg (N := 9) ?hd (cs := #[.int .i64 0, .int .i64 0]) (t := 34) ?hr ?_; (case hd => rfl); (case hg => rfl); (case hr => first | (go_simp; done) | (go_simp; rfl)); intro N hg w2 hbox hb; have BKN := Aside0.mk hbox; have GN := Aside0.mk (show w.heap.size ≤ N by rw [hg]; exact HB.out.size); have NNB := Aside0.mk (show N ≠ B by rw [hg]; exact Nat.ne_of_gt (blk_lt BKB.out)); have NNF := Aside0.mk (show N ≠ F by rw [hg]; exact Nat.ne_of_gt (blk_lt BKF.out)); have n0_ := Aside0.mk (below_step HB.out hb); have n1_ := Aside0.mk (blk_below BKB.out hb); have n2_ := Aside0.mk (blk_below BKF.out hb); have n3_ := Aside0.mk (Kd.R_below HO.out hb); clear HB BKB BKF HO hx0 hx1; have HB := n0_; have BKB := n1_; have BKF := n2_; have HO := n3_; clear n0_ n1_ n2_ n3_ hbox hb hg) | ((with_reducible refine gate_store (t := 34) (p := 9) (v := .tmp 27) rfl ?_); refine Blk.store_whole rfl rfl 34 (.tmp 9) (.tmp 27) rfl #[.int .i64 nx.f0, .int .i64 nx.f1] rfl rfl rfl (by kernel_rfl) (by simp [Value.oneCell']) BKN.out rfl ?_; intro w4 hb4 hg4; have n0_ := Aside0.mk (Blk.below_wrote HB.out hg4 GN.out HB.out.size); have n1_ := Aside0.mk (blk_grown BKB.out hg4 (by intro he; injection he with he; exact NNB.out he.symm)); have n2_ := Aside0.mk (blk_grown BKF.out hg4 (by intro he; injection he with he; exact NNF.out he.symm)); have n3_ := Aside0.mk (Kd.R_mono (Kd.R_grown (Kd.R_types HO.out BKN.out (by decide)) hg4 (fun _ hk he => hk.2 (by injection he))) (fun _ _ => trivial)); clear HB BKB BKN BKF HO; have HB := n0_; have BKB := n1_; have BKF := n2_; have HO := n3_; have BKN := Aside0.mk hb4; have hcF0 := (blk_cell BKF.out 0).trans rfl; have hcF1 := (blk_cell BKF.out 1).trans rfl; have hcN0 := (blk_cell BKN.out 0).trans rfl; have hcN1 := (blk_cell BKN.out 1).trans rfl; clear n0_ n1_ n2_ n3_ hb4 hg4) | (go_at_call 32; (with_reducible refine (add_calls fr.f0 nx.f0 B w.heap.size v out _ BKB.out HO.out GB.out ?side1).mono ?_); (case side1 => have := HOL.out; have := HL.out; have := HLT.out; omega); rintro e_ w7 ⟨rfl, ⟨v', hb', hR'⟩, hfr, hbel, hsz⟩; have n0_ := Aside0.mk hb'; have n1_ := Aside0.mk hR'; have n2_ := Aside0.mk (HB.out.trans hbel); have n3_ := Aside0.mk (hfr F _ 34 BKF.out (by decide) NFB.out); have n4_ := Aside0.mk (hfr N _ 34 BKN.out (by decide) NNB.out); clear BKB HO HB BKF BKN hcF0 hcF1 hcN0 hcN1; have BKB := n0_; have HO := n1_; have HB := n2_; have BKF := n3_; have BKN := n4_; have hcN0 := (blk_cell BKN.out 0).trans rfl; have hcN1 := (blk_cell BKN.out 1).trans rfl; clear n0_ n1_ n2_ n3_ n4_ hb' hR' hfr hbel hsz) | ((with_reducible refine gate_store (t := 34) (p := 7) (v := .tmp 66) rfl ?_); refine Blk.store_whole rfl rfl 34 (.tmp 7) (.tmp 66) rfl #[.int .i64 nx.f0, .int .i64 nx.f1] rfl rfl rfl (by kernel_rfl) (by simp [Value.oneCell']) BKF.out rfl ?_; intro w8 hb8 hg8; have n0_ := Aside0.mk (Blk.below_wrote HB.out hg8 GF.out HB.out.size); have n1_ := Aside0.mk (blk_grown BKB.out hg8 (by intro he; injection he with he; exact NFB.out he.symm)); have n3_ := Aside0.mk (Kd.R_mono (Kd.R_grown (Kd.R_types HO.out BKF.out (by decide)) hg8 (fun _ hk he => hk.2 (by injection he))) (fun _ _ => trivial)); clear HB BKB BKF HO; (try clear hcF0 hcF1); have HB := n0_; have BKB := n1_; have BKF := Aside0.mk hb8; have HO := n3_; clear n0_ n1_ n3_ hb8 hg8))
                go_roundg k1
                case measure => omega
                case rel => exact ⟨x + 1, _, nx, _, (by first | rfl | (rw [← HW1.out]; rfl) | (simp [HW1.out]; done) | (rw [HW1.out])), ⟨by have := HX.out; omega⟩, ⟨by have := HK.out; omega⟩, ⟨by have := HOL.out; have := addF_len out fr.f0 nx.f0; omega⟩, HRUN2, BKB, HO, BKF, HB⟩
              · have c1b0 : decide (fr.f1 ≤ a1) = false := by simpa using d1
                have c1b1 : decide (a1 ≤ nx.f1) = false := by simpa using d2
                have c1b2 : decide (nx.f1 < fr.f1) = true := by simpa using d3
                have hs : shownNow a1 fr nx = false := by simp [shownNow, c1b0, c1b1, c1b2]
                have HRUN2 : Aside0 (shownRun a1 (l0.drop (x + 1).toNat) nx (out) = r) := ⟨by have h0 := HRUN1.out; rw [hs] at h0; exact h0⟩
                clear d1 d2 d3 hs HRUN1
                go_wp2_with (first | ((with_reducible refine gate_dst (N := 9) rfl ?_); refine box_event ?hg (N := 9) ?hd (cs := #[.int .i64 0, .int .i64 0]) (t := 34) ?hr ?_; (case hd => rfl); (case hg => rfl); (case hr => first | (go_simp; done) | (go_simp; rfl)); intro N hg w2 hbox hb; have BKN := Aside0.mk hbox; have GN := Aside0.mk (show w.heap.size ≤ N by rw [hg]; exact HB.out.size); have NNB := Aside0.mk (show N ≠ B by rw [hg]; exact Nat.ne_of_gt (blk_lt BKB.out)); have NNF := Aside0.mk (show N ≠ F by rw [hg]; exact Nat.ne_of_gt (blk_lt BKF.out)); have n0_ := Aside0.mk (below_step HB.out hb); have n1_ := Aside0.mk (blk_below BKB.out hb); have n2_ := Aside0.mk (blk_below BKF.out hb); have n3_ := Aside0.mk (Kd.R_below HO.out hb); clear HB BKB BKF HO hx0 hx1; have HB := n0_; have BKB := n1_; have BKF := n2_; have HO := n3_; clear n0_ n1_ n2_ n3_ hbox hb hg) | ((with_reducible refine gate_store (t := 34) (p := 9) (v := .tmp 27) rfl ?_); refine Blk.store_whole rfl rfl 34 (.tmp 9) (.tmp 27) rfl #[.int .i64 nx.f0, .int .i64 nx.f1] rfl rfl rfl (by kernel_rfl) (by simp [Value.oneCell']) BKN.out rfl ?_; intro w4 hb4 hg4; have n0_ := Aside0.mk (Blk.below_wrote HB.out hg4 GN.out HB.out.size); have n1_ := Aside0.mk (blk_grown BKB.out hg4 (by intro he; injection he with he; exact NNB.out he.symm)); have n2_ := Aside0.mk (blk_grown BKF.out hg4 (by intro he; injection he with he; exact NNF.out he.symm)); have n3_ := Aside0.mk (Kd.R_mono (Kd.R_grown (Kd.R_types HO.out BKN.out (by decide)) hg4 (fun _ hk he => hk.2 (by injection he))) (fun _ _ => trivial)); clear HB BKB BKN BKF HO; have HB := n0_; have BKB := n1_; have BKF := n2_; have HO := n3_; have BKN := Aside0.mk hb4; have hcF0 := (blk_cell BKF.out 0).trans rfl; have hcF1 := (blk_cell BKF.out 1).trans rfl; have hcN0 := (blk_cell BKN.out 0).trans rfl; have hcN1 := (blk_cell BKN.out 1).trans rfl; clear n0_ n1_ n2_ n3_ hb4 hg4) | ((with_reducible refine gate_store (t := 34) (p := 7) (v := .tmp 66) rfl ?_); refine Blk.store_whole rfl rfl 34 (.tmp 7) (.tmp 66) rfl #[.int .i64 nx.f0, .int .i64 nx.f1] rfl rfl rfl (by kernel_rfl) (by simp [Value.oneCell']) BKF.out rfl ?_; intro w8 hb8 hg8; have n0_ := Aside0.mk (Blk.below_wrote HB.out hg8 GF.out HB.out.size); have n1_ := Aside0.mk (blk_grown BKB.out hg8 (by intro he; injection he with he; exact NFB.out he.symm)); have n3_ := Aside0.mk (Kd.R_mono (Kd.R_grown (Kd.R_types HO.out BKF.out (by decide)) hg8 (fun _ hk he => hk.2 (by injection he))) (fun _ _ => trivial)); clear HB BKB BKF HO; (try clear hcF0 hcF1); have HB := n0_; have BKB := n1_; have BKF := Aside0.mk hb8; have HO := n3_; clear n0_ n1_ n3_ hb8 hg8))
                go_roundg k1
                case measure => omega
                case rel => exact ⟨x + 1, _, nx, _, (by first | rfl | (rw [← HW1.out]; rfl) | (simp [HW1.out]; done) | (rw [HW1.out])), ⟨by have := HX.out; omega⟩, ⟨by have := HK.out; omega⟩, ⟨by have := HOL.out; have := addF_len out fr.f0 nx.f0; omega⟩, HRUN2, BKB, HO, BKF, HB⟩
            · by_cases d2 : a1 ≤ nx.f1
              · have c1b0 : decide (fr.f1 ≤ a1) = false := by simpa using d1
                have c1b1 : decide (a1 ≤ nx.f1) = true := by simpa using d2
                have c1b2 : decide (nx.f1 < fr.f1) = false := by simpa using d3
                have hs : shownNow a1 fr nx = false := by simp [shownNow, c1b0, c1b1, c1b2]
                have HRUN2 : Aside0 (shownRun a1 (l0.drop (x + 1).toNat) nx (out) = r) := ⟨by have h0 := HRUN1.out; rw [hs] at h0; exact h0⟩
                clear d1 d2 d3 hs HRUN1
                go_wp2_with (first | ((with_reducible refine gate_dst (N := 9) rfl ?_); refine box_event ?hg (N := 9) ?hd (cs := #[.int .i64 0, .int .i64 0]) (t := 34) ?hr ?_; (case hd => rfl); (case hg => rfl); (case hr => first | (go_simp; done) | (go_simp; rfl)); intro N hg w2 hbox hb; have BKN := Aside0.mk hbox; have GN := Aside0.mk (show w.heap.size ≤ N by rw [hg]; exact HB.out.size); have NNB := Aside0.mk (show N ≠ B by rw [hg]; exact Nat.ne_of_gt (blk_lt BKB.out)); have NNF := Aside0.mk (show N ≠ F by rw [hg]; exact Nat.ne_of_gt (blk_lt BKF.out)); have n0_ := Aside0.mk (below_step HB.out hb); have n1_ := Aside0.mk (blk_below BKB.out hb); have n2_ := Aside0.mk (blk_below BKF.out hb); have n3_ := Aside0.mk (Kd.R_below HO.out hb); clear HB BKB BKF HO hx0 hx1; have HB := n0_; have BKB := n1_; have BKF := n2_; have HO := n3_; clear n0_ n1_ n2_ n3_ hbox hb hg) | ((with_reducible refine gate_store (t := 34) (p := 9) (v := .tmp 27) rfl ?_); refine Blk.store_whole rfl rfl 34 (.tmp 9) (.tmp 27) rfl #[.int .i64 nx.f0, .int .i64 nx.f1] rfl rfl rfl (by kernel_rfl) (by simp [Value.oneCell']) BKN.out rfl ?_; intro w4 hb4 hg4; have n0_ := Aside0.mk (Blk.below_wrote HB.out hg4 GN.out HB.out.size); have n1_ := Aside0.mk (blk_grown BKB.out hg4 (by intro he; injection he with he; exact NNB.out he.symm)); have n2_ := Aside0.mk (blk_grown BKF.out hg4 (by intro he; injection he with he; exact NNF.out he.symm)); have n3_ := Aside0.mk (Kd.R_mono (Kd.R_grown (Kd.R_types HO.out BKN.out (by decide)) hg4 (fun _ hk he => hk.2 (by injection he))) (fun _ _ => trivial)); clear HB BKB BKN BKF HO; have HB := n0_; have BKB := n1_; have BKF := n2_; have HO := n3_; have BKN := Aside0.mk hb4; have hcF0 := (blk_cell BKF.out 0).trans rfl; have hcF1 := (blk_cell BKF.out 1).trans rfl; have hcN0 := (blk_cell BKN.out 0).trans rfl; have hcN1 := (blk_cell BKN.out 1).trans rfl; clear n0_ n1_ n2_ n3_ hb4 hg4) | ((with_reducible refine gate_store (t := 34) (p := 7) (v := .tmp 66) rfl ?_); refine Blk.store_whole rfl rfl 34 (.tmp 7) (.tmp 66) rfl #[.int .i64 nx.f0, .int .i64 nx.f1] rfl rfl rfl (by kernel_rfl) (by simp [Value.oneCell']) BKF.out rfl ?_; intro w8 hb8 hg8; have n0_ := Aside0.mk (Blk.below_wrote HB.out hg8 GF.out HB.out.size); have n1_ := Aside0.mk (blk_grown BKB.out hg8 (by intro he; injection he with he; exact NFB.out he.symm)); have n3_ := Aside0.mk (Kd.R_mono (Kd.R_grown (Kd.R_types HO.out BKF.out (by decide)) hg8 (fun _ hk he => hk.2 (by injection he))) (fun _ _ => trivial)); clear HB BKB BKF HO; (try clear hcF0 hcF1); have HB := n0_; have BKB := n1_; have BKF := Aside0.mk hb8; have HO := n3_; clear n0_ n1_ n3_ hb8 hg8))
                go_roundg k1
                case measure => omega
                case rel => exact ⟨x + 1, _, nx, _, (by first | rfl | (rw [← HW1.out]; rfl) | (simp [HW1.out]; done) | (rw [HW1.out])), ⟨by have := HX.out; omega⟩, ⟨by have := HK.out; omega⟩, ⟨by have := HOL.out; have := addF_len out fr.f0 nx.f0; omega⟩, HRUN2, BKB, HO, BKF, HB⟩
              · have c1b0 : decide (fr.f1 ≤ a1) = false := by simpa using d1
                have c1b1 : decide (a1 ≤ nx.f1) = false := by simpa using d2
                have c1b2 : decide (nx.f1 < fr.f1) = false := by simpa using d3
                have hs : shownNow a1 fr nx = false := by simp [shownNow, c1b0, c1b1, c1b2]
                have HRUN2 : Aside0 (shownRun a1 (l0.drop (x + 1).toNat) nx (out) = r) := ⟨by have h0 := HRUN1.out; rw [hs] at h0; exact h0⟩
                clear d1 d2 d3 hs HRUN1
                go_wp2_with (first | ((with_reducible refine gate_dst (N := 9) rfl ?_); refine box_event ?hg (N := 9) ?hd (cs := #[.int .i64 0, .int .i64 0]) (t := 34) ?hr ?_; (case hd => rfl); (case hg => rfl); (case hr => first | (go_simp; done) | (go_simp; rfl)); intro N hg w2 hbox hb; have BKN := Aside0.mk hbox; have GN := Aside0.mk (show w.heap.size ≤ N by rw [hg]; exact HB.out.size); have NNB := Aside0.mk (show N ≠ B by rw [hg]; exact Nat.ne_of_gt (blk_lt BKB.out)); have NNF := Aside0.mk (show N ≠ F by rw [hg]; exact Nat.ne_of_gt (blk_lt BKF.out)); have n0_ := Aside0.mk (below_step HB.out hb); have n1_ := Aside0.mk (blk_below BKB.out hb); have n2_ := Aside0.mk (blk_below BKF.out hb); have n3_ := Aside0.mk (Kd.R_below HO.out hb); clear HB BKB BKF HO hx0 hx1; have HB := n0_; have BKB := n1_; have BKF := n2_; have HO := n3_; clear n0_ n1_ n2_ n3_ hbox hb hg) | ((with_reducible refine gate_store (t := 34) (p := 9) (v := .tmp 27) rfl ?_); refine Blk.store_whole rfl rfl 34 (.tmp 9) (.tmp 27) rfl #[.int .i64 nx.f0, .int .i64 nx.f1] rfl rfl rfl (by kernel_rfl) (by simp [Value.oneCell']) BKN.out rfl ?_; intro w4 hb4 hg4; have n0_ := Aside0.mk (Blk.below_wrote HB.out hg4 GN.out HB.out.size); have n1_ := Aside0.mk (blk_grown BKB.out hg4 (by intro he; injection he with he; exact NNB.out he.symm)); have n2_ := Aside0.mk (blk_grown BKF.out hg4 (by intro he; injection he with he; exact NNF.out he.symm)); have n3_ := Aside0.mk (Kd.R_mono (Kd.R_grown (Kd.R_types HO.out BKN.out (by decide)) hg4 (fun _ hk he => hk.2 (by injection he))) (fun _ _ => trivial)); clear HB BKB BKN BKF HO; have HB := n0_; have BKB := n1_; have BKF := n2_; have HO := n3_; have BKN := Aside0.mk hb4; have hcF0 := (blk_cell BKF.out 0).trans rfl; have hcF1 := (blk_cell BKF.out 1).trans rfl; have hcN0 := (blk_cell BKN.out 0).trans rfl; have hcN1 := (blk_cell BKN.out 1).trans rfl; clear n0_ n1_ n2_ n3_ hb4 hg4) | ((with_reducible refine gate_store (t := 34) (p := 7) (v := .tmp 66) rfl ?_); refine Blk.store_whole rfl rfl 34 (.tmp 7) (.tmp 66) rfl #[.int .i64 nx.f0, .int .i64 nx.f1] rfl rfl rfl (by kernel_rfl) (by simp [Value.oneCell']) BKF.out rfl ?_; intro w8 hb8 hg8; have n0_ := Aside0.mk (Blk.below_wrote HB.out hg8 GF.out HB.out.size); have n1_ := Aside0.mk (blk_grown BKB.out hg8 (by intro he; injection he with he; exact NFB.out he.symm)); have n3_ := Aside0.mk (Kd.R_mono (Kd.R_grown (Kd.R_types HO.out BKF.out (by decide)) hg8 (fun _ hk he => hk.2 (by injection he))) (fun _ _ => trivial)); clear HB BKB BKF HO; (try clear hcF0 hcF1); have HB := n0_; have BKB := n1_; have BKF := Aside0.mk hb8; have HO := n3_; clear n0_ n1_ n3_ hb8 hg8))
                go_roundg k1
                case measure => omega
                case rel => exact ⟨x + 1, _, nx, _, (by first | rfl | (rw [← HW1.out]; rfl) | (simp [HW1.out]; done) | (rw [HW1.out])), ⟨by have := HX.out; omega⟩, ⟨by have := HK.out; omega⟩, ⟨by have := HOL.out; have := addF_len out fr.f0 nx.f0; omega⟩, HRUN2, BKB, HO, BKF, HB⟩
        · have hge : x = (l0.length : Int) := by have := HK.out; omega
          subst hge
          have c2b0 : decide ((l0.length : Int) < (l0.length : Int)) = false := by simp
          clear hlt
          have H : (if fr.f1 ≤ a1 then addF out fr.f0 1099511627776 else out) = r := by
            have h0 := HRUN.out
            rw [List.drop_eq_nil_of_le (by omega)] at h0
            exact h0
          have HRUN1 := Aside0.mk H
          clear H HRUN
          have hcF0 : wr.cell? ⟨F, 0, none⟩ = some (.int .i64 fr.f0) := (blk_cell BKF.out 0).trans rfl
          have hcF1 : wr.cell? ⟨F, 1, none⟩ = some (.int .i64 fr.f1) := (blk_cell BKF.out 1).trans rfl
          by_cases c1 : fr.f1 ≤ a1
          · have c1b0 : decide (fr.f1 ≤ a1) = true := decide_eq_true c1
            have hr : addF out fr.f0 1099511627776 = r := by have h0 := HRUN1.out; rwa [if_pos c1] at h0
            have HRR := Aside0.mk hr
            clear c1 hr HRUN1
            go_wp2_with (first | (go_at_call 32; (with_reducible refine (add_calls fr.f0 1099511627776 B w.heap.size v out _ BKB.out HO.out GB.out ?side1).mono ?_); (case side1 => have := HOL.out; have := HL.out; omega); rintro e_ w7 ⟨rfl, ⟨v', hb', hR'⟩, hfr, hbel, hsz⟩; have n0_ := Aside0.mk hb'; have n1_ := Aside0.mk hR'; have n2_ := Aside0.mk (HB.out.trans hbel); clear BKB HO HB hcF0 hcF1; have BKB := n0_; have HO := n1_; have HB := n2_; have hcB := (blk_cell BKB.out 0).trans rfl; clear n0_ n1_ n2_ hb' hR' hfr hbel hsz))
            go_ret
            exact ⟨_, rfl, by rw [← HRR.out]; exact HO.out, HB.out⟩
          · have c1b0 : decide (fr.f1 ≤ a1) = false := decide_eq_false c1
            have hr : out = r := by have h0 := HRUN1.out; rwa [if_neg c1] at h0
            have HRR := Aside0.mk hr
            have hcB := (blk_cell BKB.out 0).trans rfl
            clear c1 hr HRUN1
            go_wp2_with (fail)
            go_ret
            exact ⟨_, rfl, by rw [← HRR.out]; exact HO.out, HB.out⟩
  · have H : ([] : List S49) = r := by rw [if_neg c1] at h; simpa using h
    subst H
    clear h
    have c1b : (e == 0) = false := beq_eq_false_iff_ne.mpr c1
    have c1c : (e != 0) = true := bne_iff_ne.mpr c1
    go_enter Try.func23, Try.ntmps23
    go_wp2_with (first | (go_at_call 15; (with_reducible refine (clock_Check.calls k _ _ l0 e _ ?side1 ?side2 HE.out).mono ?_); (case side1 => exact HR0.out); (case side2 => exact HC0.out); rintro e_ w1 ⟨rfl, hb⟩; have n0_ := Aside0.mk (below_step HB.out hb); clear HB; have HB := n0_; clear n0_ hb) | (go_at_call 29; (with_reducible refine (clock_instant.calls a1 true _ HI.out).mono ?_); rintro e_ w' ⟨rfl, ⟨nd, rfl⟩⟩; have n0_ := Aside0.mk (pw_below_drewN HB.out nd); clear HB; have HB := n0_; clear n0_))
    go_ret
    exact ⟨_, rfl, Kd.R_nil _ _ _ _ _, HB.out⟩
end Go.Proofs.Ytaipdnlfhhadjaa.C
