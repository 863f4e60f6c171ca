/-
  The reference's Shown: what the call computes (valid stamps, a reading; fewer than 2^43 stamps), and that it leaves all that was there.
-/
import Derived.Test.YtaipdnlfhhadjaaCx8
import Derived.Test.YtaipdnlfhhadjaaCx9
import Derived.Test.YtaipdnlfhhadjaaBlk
namespace Go.Proofs.Ytaipdnlfhhadjaa.C
open Go.RowKit Go.Proofs.YtaipdnlfhhadjaaW.PrintWords Go.Proofs.YtaipdnlfhhadjaaW.PrintLast Go.Proofs.YtaipdnlfhhadjaaW.PrintMore
attribute [local go_sem] max2_int min2_int max_two min_two max_three min_three max_four min_four
set_option linter.unusedVariables false
set_option linter.unusedSimpArgs false

def refAdd (xs : List S49) (p0 p1 : Int) : List S49 :=
  match xs.length with
  | 0 => [⟨p0, p1⟩]
  | m + 1 => if (rd_T49 xs (m : Int)).f1 = p0 then xs.set m ⟨(rd_T49 xs (m : Int)).f0, p1⟩ else xs ++ [⟨p0, p1⟩]
theorem refAdd_len (xs : List S49) (p0 p1 : Int) : (refAdd xs p0 p1).length ≤ xs.length + 1 := by
  unfold refAdd
  split
  · simp
  · split <;> simp
theorem refAdd_zero {xs : List S49} (h : xs.length = 0) (p0 p1 : Int) : refAdd xs p0 p1 = xs ++ [⟨p0, p1⟩] := by
  obtain rfl : xs = [] := List.eq_nil_of_length_eq_zero h
  rfl
theorem refAdd_hit {xs : List S49} {m : Nat} (h : xs.length = m + 1) {p0 : Int} (hp : (rd_T49 xs (m : Int)).f1 = p0) (p1 : Int) : refAdd xs p0 p1 = xs.set m ⟨(rd_T49 xs (m : Int)).f0, p1⟩ := by
  unfold refAdd
  rw [h]
  simp only [if_pos hp]
theorem refAdd_miss {xs : List S49} {m : Nat} (h : xs.length = m + 1) {p0 : Int} (hp : ¬ (rd_T49 xs (m : Int)).f1 = p0) (p1 : Int) : refAdd xs p0 p1 = xs ++ [⟨p0, p1⟩] := by
  unfold refAdd
  rw [h]
  simp only [if_neg hp]
def refMay (wall : Int) (a b : S34) : Bool := if b.f1 ≥ a.f1 then (decide (wall ≥ a.f1) && decide (wall ≤ b.f1)) else (decide (wall ≥ a.f1) || decide (wall ≤ b.f1))
def refRun (wall : Int) : List S34 → List S49 → List S49
  | [], out => out
  | [a], out => if wall ≥ a.f1 then refAdd out a.f0 1099511627776 else out
  | a :: b :: rest, out => refRun wall (b :: rest) (if refMay wall a b = true then refAdd out a.f0 b.f0 else out)
def bitemporalref06_Shown.f (k : Nat) (l0 : List S34) (a1 : Int) : Option (List S49) :=
  (bitemporalref06_Check.f k l0).bind fun e => if e = 0 then (bitemporalref06_Reading.f a1).bind fun b => (if b = true then (if l0.length + 2 < 8796093022208 then some (refRun a1 (⟨0, 0⟩ :: l0) []) else none) else some []) else some []
theorem bitemporalref06_Shown.mono : ∀ a0 a1 k, LeO (bitemporalref06_Shown.f k a0 a1) (bitemporalref06_Shown.f (k + 1) a0 a1) := by
  intro a0 a1 k
  unfold bitemporalref06_Shown.f
  refine LeO.bind (bitemporalref06_Check.mono a0 k) (fun _ => LeO.refl _)

theorem drop_rd' (l : List S34) (i : Nat) (h : i < l.length) : l.drop i = rd_T34 l (i : Int) :: l.drop (i + 1) := by
  rw [List.drop_eq_getElem_cons h]
  simp [rd_T34, List.getD_eq_getElem?_getD, List.getElem?_eq_getElem h]
theorem may_last (l : List S34) (x wall : Int) (h0 : 0 ≤ x) (h1 : x + 1 = (l.length : Int)) (hl : l.length < 8796093022208) : bitemporalref06_may.f l x wall = some (decide (wall ≥ (rd_T34 l x).f1)) := by
  have hw : wrap64 (x + 1) = x + 1 := by unfold wrap64; omega
  unfold bitemporalref06_may.f
  rw [hw, if_pos h0, if_pos (by omega), if_pos h1]
theorem may_mid (l : List S34) (x wall : Int) (h0 : 0 ≤ x) (h1 : x + 1 < (l.length : Int)) (hl : l.length < 8796093022208) : bitemporalref06_may.f l x wall = some (refMay wall (rd_T34 l x) (rd_T34 l (x + 1))) := by
  have hw : wrap64 (x + 1) = x + 1 := by unfold wrap64; omega
  unfold bitemporalref06_may.f refMay
  rw [hw, if_pos h0, if_pos (by omega), if_neg (by omega), if_pos (by omega), if_pos h1]
  by_cases c1 : (rd_T34 l (x + 1)).f1 ≥ (rd_T34 l x).f1
  · rw [if_pos c1, if_pos c1]
    by_cases c2 : wall ≥ (rd_T34 l x).f1 <;> simp [c2]
  · rw [if_neg c1, if_neg c1]
    by_cases c2 : wall ≥ (rd_T34 l x).f1 <;> simp [c2]
theorem run_last (l : List S34) (x wall : Int) (out : List S49) (h0 : 0 ≤ x) (h1 : x + 1 = (l.length : Int)) : refRun wall (l.drop x.toNat) out = if wall ≥ (rd_T34 l x).f1 then refAdd out (rd_T34 l x).f0 1099511627776 else out := by
  have hx : ((x.toNat : Nat) : Int) = x := by omega
  rw [drop_rd' l x.toNat (by omega), List.drop_eq_nil_of_le (by omega), hx]
  rfl
theorem run_mid (l : List S34) (x wall : Int) (out : List S49) (h0 : 0 ≤ x) (h1 : x + 1 < (l.length : Int)) : refRun wall (l.drop x.toNat) out = refRun wall (l.drop (x + 1).toNat) (if refMay wall (rd_T34 l x) (rd_T34 l (x + 1)) = true then refAdd out (rd_T34 l x).f0 (rd_T34 l (x + 1)).f0 else out) := by
  have hx : ((x.toNat : Nat) : Int) = x := by omega
  have hx1 : (x + 1).toNat = x.toNat + 1 := by omega
  have hx2 : ((x.toNat + 1 : Nat) : Int) = x + 1 := by omega
  rw [hx1, drop_rd' l x.toNat (by omega), drop_rd' l (x.toNat + 1) (by omega), hx, hx2]
  rfl
theorem run_done (l : List S34) (x wall : Int) (out : List S49) (h1 : x = (l.length : Int)) : refRun wall (l.drop x.toNat) out = out := by
  rw [List.drop_eq_nil_of_le (by omega)]
  rfl

theorem add_block (a : Addr) (n : Nat) : (a.add n).block = a.block := by unfold Addr.add; split <;> rfl
theorem cell_keep {W w1 : World} {g : Nat} {a : Addr} {v : Value} (hg : W.grownBy w1 (some g)) (hc : W.cell? a = some v) (hne : a.block ≠ g) : w1.cell? (a) = some v :=
  (World.cell?_of_block (hg.block a.block (World.block_lt_of_cell? _ _ hc) (fun he => hne (by injection he)))).trans hc
theorem last_cells {W : World} {base g m c : Nat} {ok : Nat → Prop} {out : List S49} (h : Kd.R k49 49 W base ok (.slice (some ⟨g, 0, none⟩) (m + 1) c) out) (hm : out.length = m + 1) :
    W.cell? ⟨g, m * 2, none⟩ = some (.int .i64 (rd_T49 out m).f0) ∧ W.cell? ⟨g, m * 2 + 1, none⟩ = some (.int .i64 (rd_T49 out m).f1) := by
  obtain ⟨ad, e, x0, x1⟩ := at_T49 (Kd.R_reads' h).2.2 m (by omega) (by omega)
  injection e with e
  subst e
  rw [add_plain] at x0 x1
  exact ⟨by simpa using x0, by simpa using x1⟩
/-- Rows of stamps lie in none of the blocks of a row of periods. -/
theorem Kd.R_apart34 {W : World} {b b' : Nat} {ok ok' : Nat → Prop} {u v : Value} {xs : List S34} {ys : List S49} (h : Kd.R k34 34 W b ok u xs) (h' : Kd.R k49 49 W b' ok' v ys) : Kd.R k34 34 W b (fun k => ok k ∧ some k ≠ v.ownBlock) u xs := by
  refine Kd.R_mono (Kd.R_bound h) (fun k hk => ⟨hk.1, fun he => ?_⟩)
  obtain ⟨_, _, _, q, hq, cells, hc⟩ := hk
  obtain ⟨cells', hc'⟩ := Kd.R_typed h' k he.symm
  rw [hc] at hc'
  injection hc' with hc'
  injection hc' with _ hc'
  rcases List.mem_cons.1 hq with hq | hq
  · rw [hq] at hc'; exact absurd hc' (by decide)
  · exact absurd hq (by simp [k34, Kd.iso, Kd.pair, Kd.int, Kd.scalar])

set_option maxHeartbeats 16000000 in
set_option maxRecDepth 100000 in
theorem bitemporalref06_Shown.calls (k : Nat) (A0 : Option Addr) (c0 : Nat) (l0 : List (S34)) (a1 : Int) (r : List S49) (w : World) (hr0 : Kd.C k34 w A0 l0.length l0) (hc0 : l0.length ≤ c0) (h : bitemporalref06_Shown.f k l0 a1 = some r) :
    Calls Try.prog 24 #[.slice A0 l0.length c0, .int .i64 a1] w fun e w' => ∃ v0_ : Value, e = .returned v0_ ∧ Kd.R k49 49 w' w.heap.size (fun _ => True) v0_ r ∧ Below w.heap.size w w' := by
  have hu34 := Try.underlying34
  have hu49 := Try.underlying49
  have HR0 := Aside0.mk hr0
  have HC0 := Aside0.mk hc0
  clear hr0 hc0
  have HB := Aside0.mk (Below.refl w.heap.size w)
  obtain ⟨e, he, h⟩ := Option.bind_eq_some_iff.mp (show ((bitemporalref06_Check.f k l0).bind fun e => if e = 0 then (bitemporalref06_Reading.f a1).bind fun b => (if b = true then (if l0.length + 2 < 8796093022208 then some (refRun a1 (⟨0, 0⟩ :: l0) []) else none) else some []) else some []) = some r from h)
  have HE := Aside0.mk he
  clear he
  by_cases c1 : e = 0
  · subst c1
    obtain ⟨b, hb, h⟩ := Option.bind_eq_some_iff.mp (show ((bitemporalref06_Reading.f a1).bind fun b => (if b = true then (if l0.length + 2 < 8796093022208 then some (refRun a1 (⟨0, 0⟩ :: l0) []) else none) else some [])) = some r by rw [if_pos rfl] at h; exact h)
    have HI := Aside0.mk hb
    clear hb
    cases b with
    | false =>
      have H : ([] : List S49) = r := by simpa using h
      subst H
      clear h
      go_enter Try.func24, Try.ntmps24
      go_wp2_with (first | (go_at_call 16; (with_reducible refine (bitemporalref06_Check.calls k _ _ l0 0 _ ?side1 ?side2 HE.out).mono ?_); (case side1 => exact HR0.out); (case side2 => exact HC0.out); rintro e_ w1 ⟨rfl, hb⟩; have n0_ := Aside0.mk (below_step HB.out hb); clear HB; have HB := n0_; clear n0_ hb) | (go_at_call 31; (with_reducible refine (bitemporalref06_Reading.calls a1 false _ HI.out).mono ?_); rintro e_ w' ⟨rfl, ⟨nd, rfl⟩⟩; have n0_ := Aside0.mk (pw_below_drewN HB.out nd); clear HB; have HB := n0_; clear n0_))
      go_ret
      exact ⟨_, rfl, Kd.R_nil _ _ _ _ _, HB.out⟩
    | true =>
      have h : (if l0.length + 2 < 8796093022208 then some (refRun a1 (⟨0, 0⟩ :: l0) []) else none) = some r := h
      have HL : Aside0 (l0.length + 2 < 8796093022208) := by
        by_cases hq : l0.length + 2 < 8796093022208
        · exact ⟨hq⟩
        · rw [if_neg hq] at h; exact absurd h (by simp)
      have H : refRun a1 (⟨0, 0⟩ :: l0) [] = r := by rw [if_pos HL.out] at h; exact Option.some.inj h
      obtain ⟨all, hall⟩ : ∃ all : List S34, all = [⟨0, 0⟩] ++ l0 := ⟨_, rfl⟩
      have HRUN : Aside0 (refRun a1 all [] = r) := ⟨by rw [hall]; exact H⟩
      have HN : Aside0 (all.length = l0.length + 1) := ⟨by rw [hall]; simp⟩
      have HALL := Aside0.mk hall
      clear h H hall
      go_enter Try.func24, Try.ntmps24
      go_wp2_with (first | (go_at_call 16; (with_reducible refine (bitemporalref06_Check.calls k _ _ l0 0 _ ?side1 ?side2 HE.out).mono ?_); (case side1 => exact HR0.out); (case side2 => exact HC0.out); rintro e_ w1 ⟨rfl, hb⟩; have n0_ := Aside0.mk (below_step HB.out hb); clear HB; have HB := n0_; clear n0_ hb) | (go_at_call 31; (with_reducible refine (bitemporalref06_Reading.calls a1 true _ HI.out).mono ?_); rintro e_ w' ⟨rfl, ⟨nd, rfl⟩⟩; have n0_ := Aside0.mk (pw_below_drewN HB.out nd); clear HB; have HB := n0_; clear n0_) | ((with_reducible refine gate_dst (N := 19) rfl ?_); refine Kd.R_lit k34 _ 34 ?hg (N := 19) ?hd (xs := ([(⟨0, 0⟩ : S34)] : List (S34))) (inner := [.int .i64 0, .int .i64 0]) (ok := fun _ => True) (okp := fun _ => True) ?hr ?hp (fun _ hk => hk) trivial (Below.refl _ _) (Nat.le_refl _) (by simp) ?_; (case hd => rfl); (case hg => rfl); (case hr => first | (go_simp; done) | (go_simp; rfl)); (case hp => exact (Reps.c2 (show Kd.M k34 _ _ _ (⟨0, 0⟩ : S34) [.int .i64 0, .int .i64 0] from (k34_mkM _ _ _ (⟨0, 0⟩ : S34) )) (Reps.none _ _))); intro v1 w2 ho hb hg_ hnew_; have HO1 := Aside0.mk (Kd.R_lower ho HB.out.size); have n1_ := Aside0.mk (below_step HB.out hb); clear HB; have HB := n1_; clear n1_ hb ho hg_ hnew_) | ((with_reducible refine gate_builtin (b := .append) (xs := #[.tmp 19, .tmp 20]) rfl ?_); at_builtin; refine Kd.R_append_rows k34 (w0 := w) w.heap.size rfl (.tmp 19) (.tmp 20) 30 34 (.agg #[(.int .i64 0), (.int .i64 0)]) 16 rfl Try.underlying30 info34 rfl (by decide) (by omega) v1 [(⟨0, 0⟩ : S34)] l0 _ _ _ (fun _ => True) (fun _ => False) rfl rfl ?aO ?aR (fun _ _ h => h) (fun _ h => h.elim) ?aF ?aB ?aS ?aL ?_; (case aR => exact (Kd.C_below HR0.out HB.out)); (case aB => exact HB.out); (case aF => exact (fun _ _ => trivial)); (case aO => exact HO1.out); (case aS => exact HB.out.size); (case aL => have := HL.out; simp only [List.length_singleton]; omega); intro v2 w3 ho hb hg hat; rw [← HALL.out] at ho; have n0_ := Aside0.mk hb; have HOA := Aside0.mk ho; clear HB HO1; have HB := n0_; clear n0_ ho hb hg hat; obtain ⟨AA, cA, eA⟩ := Kd.R_slice HOA.out; subst eA))
      go_loopg [6, 24] (all.length) (fun kq v6 v24 w' => ∃ (x : Int) (out : List S49), v24 = .int .i64 x ∧ Aside0 (0 ≤ x) ∧ Aside0 ((kq : Int) + x = all.length) ∧ Aside0 ((out.length : Int) ≤ x) ∧ Aside0 (refRun a1 (all.drop x.toNat) out = r) ∧ Aside0 (Kd.R k34 34 w' w.heap.size (fun _ => True) (.slice AA all.length cA) all) ∧ Aside0 (Kd.R k49 49 w' w.heap.size (fun _ => True) v6 out) ∧ Aside0 (Below w.heap.size w w'))
      case atStart => exact ⟨0, [], rfl, ⟨by omega⟩, ⟨by simp⟩, ⟨by simp⟩, ⟨by simpa using HRUN.out⟩, HOA, ⟨Kd.R_nil _ _ _ _ _⟩, HB⟩
      case round =>
        clear HRUN HOA HB
        obtain ⟨x, out, rfl, HX, HK, HOL, HRUN, HOA, HO, HB⟩ := hrel
        by_cases hlt : x < (all.length : Int)
        · obtain ⟨k1, rfl⟩ : ∃ m, gk = m + 1 := ⟨gk - 1, by have := HK.out; omega⟩
          have HLT := Aside0.mk hlt
          have c2b0 : decide (x < (all.length : Int)) = true := decide_eq_true hlt
          clear hlt
          have p1 : 0 ≤ (x : Int) := HX.out
          have q1 : x < (all.length : Int) := HLT.out
          obtain ⟨a, ha⟩ : ∃ a : S34, a = rd_T34 all x := ⟨_, rfl⟩
          have hcA : ∃ ad, AA = some ad ∧ wr.cell? (ad.add (x.toNat * 2)) = some (.int .i64 a.f0) := by
            obtain ⟨ad, e1, hx0, _⟩ := at_T34 (Kd.R_reads' HOA.out).2.2 x p1 q1
            exact ⟨ad, e1, by rw [ha]; exact hx0⟩
          obtain ⟨ad, e1, hx0⟩ := hcA
          subst e1
          have HXA := Aside0.mk hx0
          have HA := Aside0.mk ha
          clear ha hx0
          obtain ⟨y, hy⟩ : ∃ y : Int, y = x + 1 := ⟨_, rfl⟩
          have hyw : IntKind.i64.wrap (x + 1) = y := by have := HLT.out; have := HL.out; have := HN.out; have := HX.out; rw [IntKind.wrap_i64, hy]; omega
          have HY := Aside0.mk hy
          clear hy
          replace p1 := eq_true p1
          replace q1 := eq_true q1
          by_cases hmid : y < (all.length : Int)
          · have hml : Aside0 (bitemporalref06_may.f all x a1 = some (refMay a1 a (rd_T34 all y))) := ⟨by rw [may_mid all x a1 HX.out (by have := HY.out; omega) (by have := HN.out; have := HL.out; omega), ← HY.out, ← HA.out]⟩
            have hrn : Aside0 (refRun a1 (all.drop y.toNat) (if refMay a1 a (rd_T34 all y) = true then refAdd out a.f0 (rd_T34 all y).f0 else out) = r) := ⟨by have h0 := HRUN.out; rw [run_mid all x a1 out HX.out (by have := HY.out; omega), ← HY.out, ← HA.out] at h0; exact h0⟩
            have hp2 : 0 ≤ (y : Int) := by have := HY.out; have := HX.out; omega
            obtain ⟨b, hb⟩ : ∃ b : S34, b = rd_T34 all y := ⟨_, rfl⟩
            rw [← hb] at hml hrn
            have hyc : wr.cell? (ad.add (y.toNat * 2)) = some (.int .i64 b.f0) := by
              obtain ⟨ad', e1, hx0, _⟩ := at_T34 (Kd.R_reads' HOA.out).2.2 y hp2 hmid
              injection e1 with e1
              subst e1
              rw [hb]; exact hx0
            have HYC := Aside0.mk hyc
            have HBB := Aside0.mk hb
            have c3b0 : decide (y < (all.length : Int)) = true := decide_eq_true hmid
            have HMID := Aside0.mk hmid
            clear hyc hb hmid HRUN
            have p2 := eq_true hp2
            have q2 := eq_true HMID.out
            clear hp2
            by_cases hmb : refMay a1 a b = true
            · have HMAY : Aside0 (bitemporalref06_may.f all x a1 = some true) := ⟨by rw [hml.out]; simp [hmb]⟩
              clear hml
              cases hol : out.length with
              | zero =>
                have hz := hol
                clear hol
                have HN2 : Aside0 (refRun a1 (all.drop y.toNat) (out ++ [⟨a.f0, b.f0⟩]) = r) := ⟨by have h0 := hrn.out; rw [if_pos hmb, refAdd_zero hz a.f0 b.f0] at h0; exact h0⟩
                have HZ := Aside0.mk hz
                obtain ⟨A6, c6, e6, _, _⟩ := Kd.R_reads HO.out
                rw [hz] at e6
                subst e6
                clear hz hmb hrn
                go_upto_region 13 with (first | (go_at_call 34; (with_reducible refine (bitemporalref06_may.calls _ _ all x a1 true _ ?side1 ?side2 HMAY.out).mono ?_); (case side1 => exact (Kd.R_reads' HOA.out).2.2); (case side2 => exact (Kd.R_reads' HOA.out).2.1); rintro e_ w' ⟨rfl, ⟨nd, rfl⟩⟩; have n0_ := Aside0.mk (pw_below_drewN HB.out nd); have n1_ := Aside0.mk (Kd.R_drewN HOA.out nd); have n2_ := Aside0.mk (Kd.R_drewN HO.out nd); have hxa : (wr.drewN nd).cell? (ad.add (x.toNat * 2)) = some (.int .i64 a.f0) := HXA.out; have HXAD := Aside0.mk hxa; have hya : (wr.drewN nd).cell? (ad.add (y.toNat * 2)) = some (.int .i64 b.f0) := HYC.out; have HYAD := Aside0.mk hya; clear HB HOA HO; have HB := n0_; have HOA := n1_; have HO := n2_; clear n0_ n1_ n2_; generalize wr.drewN nd = wd at *) | ((with_reducible refine gate_dst (N := 8) rfl ?_); refine box_event ?hg (N := 8) ?hd (cs := #[.int .i64 0, .int .i64 0]) (t := 49) ?hr ?_; (case hd => rfl); (case hg => rfl); (case hr => first | (go_simp; done) | (go_simp; rfl)); intro N hg w4 hbox hb; have BKN := Aside0.mk hbox; have GN := Aside0.mk (show w.heap.size ≤ N by rw [hg]; exact HB.out.size); have NADN := Aside0.mk (show ad.block ≠ N by rw [hg, ← add_block ad (x.toNat * 2)]; exact Nat.ne_of_lt (World.block_lt_of_cell? _ _ HXAD.out)); have NSN := Aside0.mk (show some N ≠ ((.slice A6 0 c6) : Value).ownBlock by rw [hg]; exact Kd.R_ne_new HO.out 0); have n0_ := Aside0.mk (below_step HB.out hb); have n1_ := Aside0.mk (Kd.R_below HOA.out hb); have n2_ := Aside0.mk (Kd.R_below HO.out hb); have hxa4 := pw_cell_below hb HXAD.out; have HX4 := Aside0.mk hxa4; have hya4 := pw_cell_below hb HYAD.out; have HY4 := Aside0.mk hya4; clear hya; clear HB HOA HO hxa; have HB := n0_; have HOA := n1_; have HO := n2_; clear n0_ n1_ n2_ hbox hb hg) | ((with_reducible refine gate_store (t := 49) (p := 8) (v := .tmp 37) rfl ?_); refine Blk.store_whole rfl rfl 49 (.tmp 8) (.tmp 37) rfl #[.int .i64 a.f0, .int .i64 1099511627776] rfl rfl rfl (by kernel_rfl) (by simp [Value.oneCell']) BKN.out rfl ?_; intro w5 hb5 hg5; have n0_ := Aside0.mk (Blk.below_wrote HB.out hg5 GN.out HB.out.size); have n1_ := Aside0.mk (Kd.R_mono (Kd.R_grown (Kd.R_types HOA.out BKN.out (by decide)) hg5 (fun _ hk he => hk.2 (by injection he))) (fun _ _ => trivial)); have n2_ := Aside0.mk (Kd.R_grown1 HO.out rfl hg5 NSN.out); have hxa5 := (cell_keep hg5 HX4.out (by rw [add_block]; exact NADN.out)); have hya5 := (cell_keep hg5 HY4.out (by rw [add_block]; exact NADN.out)); have HY5 := Aside0.mk hya5; clear hya4; clear hxa4;  clear HB HOA HO BKN; have HB := n0_; have HOA := n1_; have HO := n2_; have BKN := Aside0.mk hb5; have hcN0 := (blk_cell BKN.out 0).trans rfl; have hcN1 := (blk_cell BKN.out 1).trans rfl; clear n0_ n1_ n2_ hb5 hg5) | ((with_reducible refine gate_store (t := 3) (p := 49) (v := .tmp 48) rfl ?_); refine Blk.store_part rfl rfl 3 (.tmp 49) (.tmp 48) rfl [.int .i64 b.f0] rfl rfl rfl (by kernel_rfl) (by simp [Value.oneCell']) BKN.out (by simp) ?_; intro w6 cs6 hb6 hs6 hl6 hg6; obtain rfl : cs6 = #[.int .i64 a.f0, .int .i64 b.f0] := Array.ext' (by rw [hl6]; rfl); have n0_ := Aside0.mk (Blk.below_wrote HB.out hg6 GN.out HB.out.size); have n1_ := Aside0.mk (Kd.R_mono (Kd.R_grown (Kd.R_types HOA.out BKN.out (by decide)) hg6 (fun _ hk he => hk.2 (by injection he))) (fun _ _ => trivial)); have n2_ := Aside0.mk (Kd.R_grown1 HO.out rfl hg6 NSN.out); clear HB HOA HO BKN hcN0 hcN1 hxa5 hya5; have HB := n0_; have HOA := n1_; have HO := n2_; have BKN := Aside0.mk hb6; have hcN0 := (blk_cell BKN.out 0).trans rfl; have hcN1 := (blk_cell BKN.out 1).trans rfl; clear n0_ n1_ n2_ hb6 hg6 hs6 hl6))
                go_quiet (fail)
                go_wp2_with (first | ((with_reducible refine gate_builtin (b := .append) (xs := #[.tmp 72, .tmp 74]) rfl ?_); at_builtin; refine Kd.R_append k49 (w0 := w) w.heap.size rfl (.tmp 72) (.tmp 74) 42 49 (.agg #[(.int .i64 0), (.int .i64 0)]) 16 rfl Try.underlying42 info49 rfl (by decide) (by omega) (.slice A6 0 c6) out (⟨a.f0, b.f0⟩ : S49) [.int .i64 a.f0, .int .i64 b.f0] (fun _ => True) (fun _ => False) rfl (by first | (go_simp; done) | (go_simp; rfl)) ?aP (fun _ hk => hk.elim) ?aF ?aO ?aB ?aS ?aL ?_; (case aP => exact k49_mkM _ _ _ (⟨a.f0, b.f0⟩ : S49)); (case aF => exact (fun _ _ => trivial)); (case aO => exact (by (with_reducible repeat (first | apply Kd.R_alloc | apply Kd.R_drewN | apply Kd.R_drew)); exact HO.out)); (case aB => exact (by repeat (first | (with_reducible first | exact HB.out | apply below_alloc | apply pw_below_drewN | apply below_drew1) | exact HB.out))); (case aS => exact below_size (by repeat (first | (with_reducible first | exact HB.out | apply below_alloc | apply pw_below_drewN | apply below_drew1) | exact HB.out))); (case aL => have := HOL.out; have := HLT.out; have := HL.out; have := HN.out; omega); intro v7 w7 ho7 hb7 hg7 hat7; have n0_ := Aside0.mk hb7; have n1_ := Aside0.mk (Kd.R_mono (Kd.R_grown (Kd.R_apart34 (by (with_reducible repeat (first | apply Kd.R_alloc | apply Kd.R_drewN | apply Kd.R_drew)); exact HOA.out) (by (with_reducible repeat (first | apply Kd.R_alloc | apply Kd.R_drewN | apply Kd.R_drew)); exact HO.out)) hg7 (fun _ hk he => hk.2 he)) (fun _ _ => trivial)); have n2_ := Aside0.mk ho7; clear HB HOA HO; have HB := n0_; have HOA := n1_; have HO := n2_; clear n0_ n1_ n2_ ho7 hb7 hg7 hat7))
                go_roundg k1
                case measure => omega
                case rel => exact ⟨y, _, rfl, ⟨by have := HX.out; have := HY.out; omega⟩, ⟨by have := HK.out; have := HY.out; omega⟩, ⟨by have := HOL.out; have := HY.out; simp only [List.length_append, List.length_singleton]; omega⟩, HN2, HOA, HO, HB⟩
              | succ m =>
                have hm := hol
                clear hol
                obtain ⟨q, hq⟩ : ∃ q : S49, q = rd_T49 out m := ⟨_, rfl⟩
                have HQ := Aside0.mk hq
                clear hq
                by_cases hpe : q.f1 = a.f0
                · have HN2 : Aside0 (refRun a1 (all.drop y.toNat) (out.set m ⟨q.f0, b.f0⟩) = r) := ⟨by have h0 := hrn.out; rw [if_pos hmb, (refAdd_hit hm (by rw [← HQ.out]; exact hpe) b.f0).trans (by rw [← HQ.out])] at h0; exact h0⟩
                  have HM := Aside0.mk hm
                  obtain ⟨g, c6, e6, _⟩ := Kd.R_form HO.out (by omega)
                  rw [hm] at e6
                  subst e6
                  clear hm hmb hrn
                  have e1 : IntKind.i64.wrap ((m : Int) + 1 - 1) = (m : Int) := by have := HM.out; have := HOL.out; have := HLT.out; have := HL.out; have := HN.out; rw [IntKind.wrap_i64]; omega
                  have e1a : IntKind.i64.wrap (m : Int) = (m : Int) := by have := HM.out; have := HOL.out; have := HLT.out; have := HL.out; have := HN.out; rw [IntKind.wrap_i64]; omega
                  have e2 : (0 : Int) ≤ (m : Int) := by omega
                  have e3 : (m : Int) < (m : Int) + 1 := by omega
                  have HPE := Aside0.mk hpe
                  clear hpe
                  go_upto_region 13 with (first | (go_at_call 34; (with_reducible refine (bitemporalref06_may.calls _ _ all x a1 true _ ?side1 ?side2 HMAY.out).mono ?_); (case side1 => exact (Kd.R_reads' HOA.out).2.2); (case side2 => exact (Kd.R_reads' HOA.out).2.1); rintro e_ w' ⟨rfl, ⟨nd, rfl⟩⟩; have n0_ := Aside0.mk (pw_below_drewN HB.out nd); have n1_ := Aside0.mk (Kd.R_drewN HOA.out nd); have n2_ := Aside0.mk (Kd.R_drewN HO.out nd); have hxa : (wr.drewN nd).cell? (ad.add (x.toNat * 2)) = some (.int .i64 a.f0) := HXA.out; have HXAD := Aside0.mk hxa; have hya : (wr.drewN nd).cell? (ad.add (y.toNat * 2)) = some (.int .i64 b.f0) := HYC.out; have HYAD := Aside0.mk hya; clear HB HOA HO; have HB := n0_; have HOA := n1_; have HO := n2_; clear n0_ n1_ n2_; generalize wr.drewN nd = wd at *) | ((with_reducible refine gate_dst (N := 8) rfl ?_); refine box_event ?hg (N := 8) ?hd (cs := #[.int .i64 0, .int .i64 0]) (t := 49) ?hr ?_; (case hd => rfl); (case hg => rfl); (case hr => first | (go_simp; done) | (go_simp; rfl)); intro N hg w4 hbox hb; have BKN := Aside0.mk hbox; have GN := Aside0.mk (show w.heap.size ≤ N by rw [hg]; exact HB.out.size); have NADN := Aside0.mk (show ad.block ≠ N by rw [hg, ← add_block ad (x.toNat * 2)]; exact Nat.ne_of_lt (World.block_lt_of_cell? _ _ HXAD.out)); have NSN := Aside0.mk (show some N ≠ ((.slice (some ⟨g, 0, none⟩) (m + 1) c6) : Value).ownBlock by rw [hg]; exact Kd.R_ne_new HO.out 0); have n0_ := Aside0.mk (below_step HB.out hb); have n1_ := Aside0.mk (Kd.R_below HOA.out hb); have n2_ := Aside0.mk (Kd.R_below HO.out hb); have hxa4 := pw_cell_below hb HXAD.out; have HX4 := Aside0.mk hxa4; have hya4 := pw_cell_below hb HYAD.out; have HY4 := Aside0.mk hya4; clear hya; clear HB HOA HO hxa; have HB := n0_; have HOA := n1_; have HO := n2_; clear n0_ n1_ n2_ hbox hb hg) | ((with_reducible refine gate_store (t := 49) (p := 8) (v := .tmp 37) rfl ?_); refine Blk.store_whole rfl rfl 49 (.tmp 8) (.tmp 37) rfl #[.int .i64 a.f0, .int .i64 1099511627776] rfl rfl rfl (by kernel_rfl) (by simp [Value.oneCell']) BKN.out rfl ?_; intro w5 hb5 hg5; have n0_ := Aside0.mk (Blk.below_wrote HB.out hg5 GN.out HB.out.size); have n1_ := Aside0.mk (Kd.R_mono (Kd.R_grown (Kd.R_types HOA.out BKN.out (by decide)) hg5 (fun _ hk he => hk.2 (by injection he))) (fun _ _ => trivial)); have n2_ := Aside0.mk (Kd.R_grown1 HO.out rfl hg5 NSN.out); have hxa5 := (cell_keep hg5 HX4.out (by rw [add_block]; exact NADN.out)); have hya5 := (cell_keep hg5 HY4.out (by rw [add_block]; exact NADN.out)); have HY5 := Aside0.mk hya5; clear hya4; clear hxa4;  clear HB HOA HO BKN; have HB := n0_; have HOA := n1_; have HO := n2_; have BKN := Aside0.mk hb5; have hcN0 := (blk_cell BKN.out 0).trans rfl; have hcN1 := (blk_cell BKN.out 1).trans rfl; clear n0_ n1_ n2_ hb5 hg5) | ((with_reducible refine gate_store (t := 3) (p := 49) (v := .tmp 48) rfl ?_); refine Blk.store_part rfl rfl 3 (.tmp 49) (.tmp 48) rfl [.int .i64 b.f0] rfl rfl rfl (by kernel_rfl) (by simp [Value.oneCell']) BKN.out (by simp) ?_; intro w6 cs6 hb6 hs6 hl6 hg6; obtain rfl : cs6 = #[.int .i64 a.f0, .int .i64 b.f0] := Array.ext' (by rw [hl6]; rfl); have n0_ := Aside0.mk (Blk.below_wrote HB.out hg6 GN.out HB.out.size); have n1_ := Aside0.mk (Kd.R_mono (Kd.R_grown (Kd.R_types HOA.out BKN.out (by decide)) hg6 (fun _ hk he => hk.2 (by injection he))) (fun _ _ => trivial)); have n2_ := Aside0.mk (Kd.R_grown1 HO.out rfl hg6 NSN.out); clear HB HOA HO BKN hcN0 hcN1 hxa5 hya5; have HB := n0_; have HOA := n1_; have HO := n2_; have BKN := Aside0.mk hb6; have hcN0 := (blk_cell BKN.out 0).trans rfl; have hcN1 := (blk_cell BKN.out 1).trans rfl; clear n0_ n1_ n2_ hb6 hg6 hs6 hl6))
                  obtain ⟨h0, h1⟩ := last_cells HO.out HM.out
                  rw [← HQ.out] at h0 h1
                  have H0C := Aside0.mk h0
                  have H1C := Aside0.mk h1
                  have tb : (q.f1 == a.f0) = true := by exact beq_iff_eq.mpr HPE.out
                  go_quiet (fail)
                  go_wp2_with (first | ((with_reducible refine gate_store (t := 3) (p := 71) (v := .tmp 69) rfl ?_); refine Kd.R_store k49 (w0 := w) w.heap.size rfl rfl 3 (.tmp 71) (.tmp 69) rfl 49 (m : Int) 1 out (⟨q.f0, b.f0⟩ : S49) (.int .i64 b.f0) [.int .i64 b.f0] [.int .i64 q.f0, .int .i64 q.f1] (fun _ => True) (fun _ => False) rfl ?hO rfl rfl ?hT ?h1 (by (with_reducible repeat (first | apply Kd.R_alloc | apply Kd.R_drewN | apply Kd.R_drew)); exact HO.out) e2 ?hi rfl ?hcc ?hj ?hM (fun _ h => h.elim) ?hBB ?_; (case hO => show m * 2 + 1 = (m : Int).toNat * 2 + 1; simp); (case hT => kernel_rfl); (case h1 => simp [Value.oneCell']); (case hi => omega); (case hcc => intro j u hu; exact cell2 (n := m * 2) (by show (m : Int).toNat * 2 = m * 2; simp) H0C.out H1C.out j u hu); (case hj => exact Nat.le_refl _); (case hM => exact k49_mkM _ _ _ (⟨q.f0, b.f0⟩ : S49)); (case hBB => exact (by repeat (first | (with_reducible first | exact HB.out | apply below_alloc | apply pw_below_drewN | apply below_drew1) | exact HB.out))); intro w7 ho7 hb7 hg7; have n0_ := Aside0.mk hb7; have n1_ := Aside0.mk (Kd.R_mono (Kd.R_grown (Kd.R_apart34 (v := .slice (some ⟨g, 0, none⟩) (m + 1) c6) (by (with_reducible repeat (first | apply Kd.R_alloc | apply Kd.R_drewN | apply Kd.R_drew)); exact HOA.out) (by (with_reducible repeat (first | apply Kd.R_alloc | apply Kd.R_drewN | apply Kd.R_drew)); exact HO.out)) hg7 (fun _ hk he => hk.2 he)) (fun _ _ => trivial)); have n2_ := Aside0.mk ho7; clear HB HOA HO; have HB := n0_; have HOA := n1_; have HO := n2_; clear n0_ n1_ n2_ ho7 hb7 hg7))
                  go_roundg k1
                  case measure => omega
                  case rel => exact ⟨y, _, rfl, ⟨by have := HX.out; have := HY.out; omega⟩, ⟨by have := HK.out; have := HY.out; omega⟩, ⟨by have := HOL.out; have := HY.out; simp only [List.length_set]; omega⟩, HN2, HOA, HO, HB⟩
                · have HN2 : Aside0 (refRun a1 (all.drop y.toNat) (out ++ [⟨a.f0, b.f0⟩]) = r) := ⟨by have h0 := hrn.out; rw [if_pos hmb, refAdd_miss hm (by rw [← HQ.out]; exact hpe) b.f0] at h0; exact h0⟩
                  have HM := Aside0.mk hm
                  obtain ⟨g, c6, e6, _⟩ := Kd.R_form HO.out (by omega)
                  rw [hm] at e6
                  subst e6
                  clear hm hmb hrn
                  have e1 : IntKind.i64.wrap ((m : Int) + 1 - 1) = (m : Int) := by have := HM.out; have := HOL.out; have := HLT.out; have := HL.out; have := HN.out; rw [IntKind.wrap_i64]; omega
                  have e1a : IntKind.i64.wrap (m : Int) = (m : Int) := by have := HM.out; have := HOL.out; have := HLT.out; have := HL.out; have := HN.out; rw [IntKind.wrap_i64]; omega
                  have e2 : (0 : Int) ≤ (m : Int) := by omega
                  have e3 : (m : Int) < (m : Int) + 1 := by omega
                  have HPE := Aside0.mk hpe
                  clear hpe
                  go_upto_region 13 with (first | (go_at_call 34; (with_reducible refine (bitemporalref06_may.calls _ _ all x a1 true _ ?side1 ?side2 HMAY.out).mono ?_); (case side1 => exact (Kd.R_reads' HOA.out).2.2); (case side2 => exact (Kd.R_reads' HOA.out).2.1); rintro e_ w' ⟨rfl, ⟨nd, rfl⟩⟩; have n0_ := Aside0.mk (pw_below_drewN HB.out nd); have n1_ := Aside0.mk (Kd.R_drewN HOA.out nd); have n2_ := Aside0.mk (Kd.R_drewN HO.out nd); have hxa : (wr.drewN nd).cell? (ad.add (x.toNat * 2)) = some (.int .i64 a.f0) := HXA.out; have HXAD := Aside0.mk hxa; have hya : (wr.drewN nd).cell? (ad.add (y.toNat * 2)) = some (.int .i64 b.f0) := HYC.out; have HYAD := Aside0.mk hya; clear HB HOA HO; have HB := n0_; have HOA := n1_; have HO := n2_; clear n0_ n1_ n2_; generalize wr.drewN nd = wd at *) | ((with_reducible refine gate_dst (N := 8) rfl ?_); refine box_event ?hg (N := 8) ?hd (cs := #[.int .i64 0, .int .i64 0]) (t := 49) ?hr ?_; (case hd => rfl); (case hg => rfl); (case hr => first | (go_simp; done) | (go_simp; rfl)); intro N hg w4 hbox hb; have BKN := Aside0.mk hbox; have GN := Aside0.mk (show w.heap.size ≤ N by rw [hg]; exact HB.out.size); have NADN := Aside0.mk (show ad.block ≠ N by rw [hg, ← add_block ad (x.toNat * 2)]; exact Nat.ne_of_lt (World.block_lt_of_cell? _ _ HXAD.out)); have NSN := Aside0.mk (show some N ≠ ((.slice (some ⟨g, 0, none⟩) (m + 1) c6) : Value).ownBlock by rw [hg]; exact Kd.R_ne_new HO.out 0); have n0_ := Aside0.mk (below_step HB.out hb); have n1_ := Aside0.mk (Kd.R_below HOA.out hb); have n2_ := Aside0.mk (Kd.R_below HO.out hb); have hxa4 := pw_cell_below hb HXAD.out; have HX4 := Aside0.mk hxa4; have hya4 := pw_cell_below hb HYAD.out; have HY4 := Aside0.mk hya4; clear hya; clear HB HOA HO hxa; have HB := n0_; have HOA := n1_; have HO := n2_; clear n0_ n1_ n2_ hbox hb hg) | ((with_reducible refine gate_store (t := 49) (p := 8) (v := .tmp 37) rfl ?_); refine Blk.store_whole rfl rfl 49 (.tmp 8) (.tmp 37) rfl #[.int .i64 a.f0, .int .i64 1099511627776] rfl rfl rfl (by kernel_rfl) (by simp [Value.oneCell']) BKN.out rfl ?_; intro w5 hb5 hg5; have n0_ := Aside0.mk (Blk.below_wrote HB.out hg5 GN.out HB.out.size); have n1_ := Aside0.mk (Kd.R_mono (Kd.R_grown (Kd.R_types HOA.out BKN.out (by decide)) hg5 (fun _ hk he => hk.2 (by injection he))) (fun _ _ => trivial)); have n2_ := Aside0.mk (Kd.R_grown1 HO.out rfl hg5 NSN.out); have hxa5 := (cell_keep hg5 HX4.out (by rw [add_block]; exact NADN.out)); have hya5 := (cell_keep hg5 HY4.out (by rw [add_block]; exact NADN.out)); have HY5 := Aside0.mk hya5; clear hya4; clear hxa4;  clear HB HOA HO BKN; have HB := n0_; have HOA := n1_; have HO := n2_; have BKN := Aside0.mk hb5; have hcN0 := (blk_cell BKN.out 0).trans rfl; have hcN1 := (blk_cell BKN.out 1).trans rfl; clear n0_ n1_ n2_ hb5 hg5) | ((with_reducible refine gate_store (t := 3) (p := 49) (v := .tmp 48) rfl ?_); refine Blk.store_part rfl rfl 3 (.tmp 49) (.tmp 48) rfl [.int .i64 b.f0] rfl rfl rfl (by kernel_rfl) (by simp [Value.oneCell']) BKN.out (by simp) ?_; intro w6 cs6 hb6 hs6 hl6 hg6; obtain rfl : cs6 = #[.int .i64 a.f0, .int .i64 b.f0] := Array.ext' (by rw [hl6]; rfl); have n0_ := Aside0.mk (Blk.below_wrote HB.out hg6 GN.out HB.out.size); have n1_ := Aside0.mk (Kd.R_mono (Kd.R_grown (Kd.R_types HOA.out BKN.out (by decide)) hg6 (fun _ hk he => hk.2 (by injection he))) (fun _ _ => trivial)); have n2_ := Aside0.mk (Kd.R_grown1 HO.out rfl hg6 NSN.out); clear HB HOA HO BKN hcN0 hcN1 hxa5 hya5; have HB := n0_; have HOA := n1_; have HO := n2_; have BKN := Aside0.mk hb6; have hcN0 := (blk_cell BKN.out 0).trans rfl; have hcN1 := (blk_cell BKN.out 1).trans rfl; clear n0_ n1_ n2_ hb6 hg6 hs6 hl6))
                  obtain ⟨h0, h1⟩ := last_cells HO.out HM.out
                  rw [← HQ.out] at h0 h1
                  have H0C := Aside0.mk h0
                  have H1C := Aside0.mk h1
                  have tb : (q.f1 == a.f0) = false := by exact beq_eq_false_iff_ne.mpr HPE.out
                  go_quiet (fail)
                  go_wp2_with (first | ((with_reducible refine gate_builtin (b := .append) (xs := #[.tmp 72, .tmp 74]) rfl ?_); at_builtin; refine Kd.R_append k49 (w0 := w) w.heap.size rfl (.tmp 72) (.tmp 74) 42 49 (.agg #[(.int .i64 0), (.int .i64 0)]) 16 rfl Try.underlying42 info49 rfl (by decide) (by omega) (.slice (some ⟨g, 0, none⟩) (m + 1) c6) out (⟨a.f0, b.f0⟩ : S49) [.int .i64 a.f0, .int .i64 b.f0] (fun _ => True) (fun _ => False) rfl (by first | (go_simp; done) | (go_simp; rfl)) ?aP (fun _ hk => hk.elim) ?aF ?aO ?aB ?aS ?aL ?_; (case aP => exact k49_mkM _ _ _ (⟨a.f0, b.f0⟩ : S49)); (case aF => exact (fun _ _ => trivial)); (case aO => exact (by (with_reducible repeat (first | apply Kd.R_alloc | apply Kd.R_drewN | apply Kd.R_drew)); exact HO.out)); (case aB => exact (by repeat (first | (with_reducible first | exact HB.out | apply below_alloc | apply pw_below_drewN | apply below_drew1) | exact HB.out))); (case aS => exact below_size (by repeat (first | (with_reducible first | exact HB.out | apply below_alloc | apply pw_below_drewN | apply below_drew1) | exact HB.out))); (case aL => have := HOL.out; have := HLT.out; have := HL.out; have := HN.out; omega); intro v7 w7 ho7 hb7 hg7 hat7; have n0_ := Aside0.mk hb7; have n1_ := Aside0.mk (Kd.R_mono (Kd.R_grown (Kd.R_apart34 (by (with_reducible repeat (first | apply Kd.R_alloc | apply Kd.R_drewN | apply Kd.R_drew)); exact HOA.out) (by (with_reducible repeat (first | apply Kd.R_alloc | apply Kd.R_drewN | apply Kd.R_drew)); exact HO.out)) hg7 (fun _ hk he => hk.2 he)) (fun _ _ => trivial)); have n2_ := Aside0.mk ho7; clear HB HOA HO; have HB := n0_; have HOA := n1_; have HO := n2_; clear n0_ n1_ n2_ ho7 hb7 hg7 hat7))
                  go_roundg k1
                  case measure => omega
                  case rel => exact ⟨y, _, rfl, ⟨by have := HX.out; have := HY.out; omega⟩, ⟨by have := HK.out; have := HY.out; omega⟩, ⟨by have := HOL.out; have := HY.out; simp only [List.length_append, List.length_singleton]; omega⟩, HN2, HOA, HO, HB⟩
            · have HMAY : Aside0 (bitemporalref06_may.f all x a1 = some false) := ⟨by rw [hml.out]; simp [hmb]⟩
              clear hml
              have HN2 : Aside0 (refRun a1 (all.drop y.toNat) out = r) := ⟨by have h0 := hrn.out; rw [if_neg hmb] at h0; exact h0⟩
              clear hmb hrn
              go_wp2_with (first | (go_at_call 34; (with_reducible refine (bitemporalref06_may.calls _ _ all x a1 false _ ?side1 ?side2 HMAY.out).mono ?_); (case side1 => exact (Kd.R_reads' HOA.out).2.2); (case side2 => exact (Kd.R_reads' HOA.out).2.1); rintro e_ w' ⟨rfl, ⟨nd, rfl⟩⟩; have n0_ := Aside0.mk (pw_below_drewN HB.out nd); have n1_ := Aside0.mk (Kd.R_drewN HOA.out nd); have n2_ := Aside0.mk (Kd.R_drewN HO.out nd); have hxa : (wr.drewN nd).cell? (ad.add (x.toNat * 2)) = some (.int .i64 a.f0) := HXA.out; have HXAD := Aside0.mk hxa; have hya : (wr.drewN nd).cell? (ad.add (y.toNat * 2)) = some (.int .i64 b.f0) := HYC.out; have HYAD := Aside0.mk hya; clear HB HOA HO; have HB := n0_; have HOA := n1_; have HO := n2_; clear n0_ n1_ n2_; generalize wr.drewN nd = wd at *))
              go_roundg k1
              case measure => omega
              case rel => exact ⟨y, _, rfl, ⟨by have := HX.out; have := HY.out; omega⟩, ⟨by have := HK.out; have := HY.out; omega⟩, ⟨by have := HOL.out; have := HY.out; omega⟩, HN2, HOA, HO, HB⟩
          · have hye : y = (all.length : Int) := by have := HLT.out; have := HY.out; omega
            have hml : Aside0 (bitemporalref06_may.f all x a1 = some (decide (a1 ≥ a.f1))) := ⟨by rw [may_last all x a1 HX.out (by have := HY.out; omega) (by have := HN.out; have := HL.out; omega), ← HA.out]⟩
            have hrn : Aside0 ((if a1 ≥ a.f1 then refAdd out a.f0 1099511627776 else out) = r) := ⟨by have h0 := HRUN.out; rw [run_last all x a1 out HX.out (by have := HY.out; omega), ← HA.out] at h0; exact h0⟩
            have c3b0 : decide (y < (all.length : Int)) = false := decide_eq_false hmid
            have HYE := Aside0.mk hye
            clear hye hmid HRUN
            by_cases hmb : a1 ≥ a.f1
            · have HMAY : Aside0 (bitemporalref06_may.f all x a1 = some true) := ⟨by rw [hml.out]; simp [hmb]⟩
              clear hml
              cases hol : out.length with
              | zero =>
                have hz := hol
                clear hol
                have HN2 : Aside0 (refRun a1 (all.drop y.toNat) (out ++ [⟨a.f0, 1099511627776⟩]) = r) := ⟨by have h0 := hrn.out; rw [if_pos hmb, refAdd_zero hz a.f0 1099511627776] at h0; rw [run_done all y a1 _ HYE.out]; exact h0⟩
                have HZ := Aside0.mk hz
                obtain ⟨A6, c6, e6, _, _⟩ := Kd.R_reads HO.out
                rw [hz] at e6
                subst e6
                clear hz hmb hrn
                go_upto_region 13 with (first | (go_at_call 34; (with_reducible refine (bitemporalref06_may.calls _ _ all x a1 true _ ?side1 ?side2 HMAY.out).mono ?_); (case side1 => exact (Kd.R_reads' HOA.out).2.2); (case side2 => exact (Kd.R_reads' HOA.out).2.1); rintro e_ w' ⟨rfl, ⟨nd, rfl⟩⟩; have n0_ := Aside0.mk (pw_below_drewN HB.out nd); have n1_ := Aside0.mk (Kd.R_drewN HOA.out nd); have n2_ := Aside0.mk (Kd.R_drewN HO.out nd); have hxa : (wr.drewN nd).cell? (ad.add (x.toNat * 2)) = some (.int .i64 a.f0) := HXA.out; have HXAD := Aside0.mk hxa;  clear HB HOA HO; have HB := n0_; have HOA := n1_; have HO := n2_; clear n0_ n1_ n2_; generalize wr.drewN nd = wd at *) | ((with_reducible refine gate_dst (N := 8) rfl ?_); refine box_event ?hg (N := 8) ?hd (cs := #[.int .i64 0, .int .i64 0]) (t := 49) ?hr ?_; (case hd => rfl); (case hg => rfl); (case hr => first | (go_simp; done) | (go_simp; rfl)); intro N hg w4 hbox hb; have BKN := Aside0.mk hbox; have GN := Aside0.mk (show w.heap.size ≤ N by rw [hg]; exact HB.out.size); have NADN := Aside0.mk (show ad.block ≠ N by rw [hg, ← add_block ad (x.toNat * 2)]; exact Nat.ne_of_lt (World.block_lt_of_cell? _ _ HXAD.out)); have NSN := Aside0.mk (show some N ≠ ((.slice A6 0 c6) : Value).ownBlock by rw [hg]; exact Kd.R_ne_new HO.out 0); have n0_ := Aside0.mk (below_step HB.out hb); have n1_ := Aside0.mk (Kd.R_below HOA.out hb); have n2_ := Aside0.mk (Kd.R_below HO.out hb); have hxa4 := pw_cell_below hb HXAD.out; have HX4 := Aside0.mk hxa4;  clear HB HOA HO hxa; have HB := n0_; have HOA := n1_; have HO := n2_; clear n0_ n1_ n2_ hbox hb hg) | ((with_reducible refine gate_store (t := 49) (p := 8) (v := .tmp 37) rfl ?_); refine Blk.store_whole rfl rfl 49 (.tmp 8) (.tmp 37) rfl #[.int .i64 a.f0, .int .i64 1099511627776] rfl rfl rfl (by kernel_rfl) (by simp [Value.oneCell']) BKN.out rfl ?_; intro w5 hb5 hg5; have n0_ := Aside0.mk (Blk.below_wrote HB.out hg5 GN.out HB.out.size); have n1_ := Aside0.mk (Kd.R_mono (Kd.R_grown (Kd.R_types HOA.out BKN.out (by decide)) hg5 (fun _ hk he => hk.2 (by injection he))) (fun _ _ => trivial)); have n2_ := Aside0.mk (Kd.R_grown1 HO.out rfl hg5 NSN.out); have hxa5 := (cell_keep hg5 HX4.out (by rw [add_block]; exact NADN.out)); clear hxa4;  clear HB HOA HO BKN; have HB := n0_; have HOA := n1_; have HO := n2_; have BKN := Aside0.mk hb5; have hcN0 := (blk_cell BKN.out 0).trans rfl; have hcN1 := (blk_cell BKN.out 1).trans rfl; clear n0_ n1_ n2_ hb5 hg5))
                go_quiet (fail)
                go_wp2_with (first | ((with_reducible refine gate_builtin (b := .append) (xs := #[.tmp 72, .tmp 74]) rfl ?_); at_builtin; refine Kd.R_append k49 (w0 := w) w.heap.size rfl (.tmp 72) (.tmp 74) 42 49 (.agg #[(.int .i64 0), (.int .i64 0)]) 16 rfl Try.underlying42 info49 rfl (by decide) (by omega) (.slice A6 0 c6) out (⟨a.f0, 1099511627776⟩ : S49) [.int .i64 a.f0, .int .i64 1099511627776] (fun _ => True) (fun _ => False) rfl (by first | (go_simp; done) | (go_simp; rfl)) ?aP (fun _ hk => hk.elim) ?aF ?aO ?aB ?aS ?aL ?_; (case aP => exact k49_mkM _ _ _ (⟨a.f0, 1099511627776⟩ : S49)); (case aF => exact (fun _ _ => trivial)); (case aO => exact (by (with_reducible repeat (first | apply Kd.R_alloc | apply Kd.R_drewN | apply Kd.R_drew)); exact HO.out)); (case aB => exact (by repeat (first | (with_reducible first | exact HB.out | apply below_alloc | apply pw_below_drewN | apply below_drew1) | exact HB.out))); (case aS => exact below_size (by repeat (first | (with_reducible first | exact HB.out | apply below_alloc | apply pw_below_drewN | apply below_drew1) | exact HB.out))); (case aL => have := HOL.out; have := HLT.out; have := HL.out; have := HN.out; omega); intro v7 w7 ho7 hb7 hg7 hat7; have n0_ := Aside0.mk hb7; have n1_ := Aside0.mk (Kd.R_mono (Kd.R_grown (Kd.R_apart34 (by (with_reducible repeat (first | apply Kd.R_alloc | apply Kd.R_drewN | apply Kd.R_drew)); exact HOA.out) (by (with_reducible repeat (first | apply Kd.R_alloc | apply Kd.R_drewN | apply Kd.R_drew)); exact HO.out)) hg7 (fun _ hk he => hk.2 he)) (fun _ _ => trivial)); have n2_ := Aside0.mk ho7; clear HB HOA HO; have HB := n0_; have HOA := n1_; have HO := n2_; clear n0_ n1_ n2_ ho7 hb7 hg7 hat7))
                go_roundg k1
                case measure => omega
                case rel => exact ⟨y, _, rfl, ⟨by have := HX.out; have := HY.out; omega⟩, ⟨by have := HK.out; have := HY.out; omega⟩, ⟨by have := HOL.out; have := HY.out; simp only [List.length_append, List.length_singleton]; omega⟩, HN2, HOA, HO, HB⟩
              | succ m =>
                have hm := hol
                clear hol
                obtain ⟨q, hq⟩ : ∃ q : S49, q = rd_T49 out m := ⟨_, rfl⟩
                have HQ := Aside0.mk hq
                clear hq
                by_cases hpe : q.f1 = a.f0
                · have HN2 : Aside0 (refRun a1 (all.drop y.toNat) (out.set m ⟨q.f0, 1099511627776⟩) = r) := ⟨by have h0 := hrn.out; rw [if_pos hmb, (refAdd_hit hm (by rw [← HQ.out]; exact hpe) 1099511627776).trans (by rw [← HQ.out])] at h0; rw [run_done all y a1 _ HYE.out]; exact h0⟩
                  have HM := Aside0.mk hm
                  obtain ⟨g, c6, e6, _⟩ := Kd.R_form HO.out (by omega)
                  rw [hm] at e6
                  subst e6
                  clear hm hmb hrn
                  have e1 : IntKind.i64.wrap ((m : Int) + 1 - 1) = (m : Int) := by have := HM.out; have := HOL.out; have := HLT.out; have := HL.out; have := HN.out; rw [IntKind.wrap_i64]; omega
                  have e1a : IntKind.i64.wrap (m : Int) = (m : Int) := by have := HM.out; have := HOL.out; have := HLT.out; have := HL.out; have := HN.out; rw [IntKind.wrap_i64]; omega
                  have e2 : (0 : Int) ≤ (m : Int) := by omega
                  have e3 : (m : Int) < (m : Int) + 1 := by omega
                  have HPE := Aside0.mk hpe
                  clear hpe
                  go_upto_region 13 with (first | (go_at_call 34; (with_reducible refine (bitemporalref06_may.calls _ _ all x a1 true _ ?side1 ?side2 HMAY.out).mono ?_); (case side1 => exact (Kd.R_reads' HOA.out).2.2); (case side2 => exact (Kd.R_reads' HOA.out).2.1); rintro e_ w' ⟨rfl, ⟨nd, rfl⟩⟩; have n0_ := Aside0.mk (pw_below_drewN HB.out nd); have n1_ := Aside0.mk (Kd.R_drewN HOA.out nd); have n2_ := Aside0.mk (Kd.R_drewN HO.out nd); have hxa : (wr.drewN nd).cell? (ad.add (x.toNat * 2)) = some (.int .i64 a.f0) := HXA.out; have HXAD := Aside0.mk hxa;  clear HB HOA HO; have HB := n0_; have HOA := n1_; have HO := n2_; clear n0_ n1_ n2_; generalize wr.drewN nd = wd at *) | ((with_reducible refine gate_dst (N := 8) rfl ?_); refine box_event ?hg (N := 8) ?hd (cs := #[.int .i64 0, .int .i64 0]) (t := 49) ?hr ?_; (case hd => rfl); (case hg => rfl); (case hr => first | (go_simp; done) | (go_simp; rfl)); intro N hg w4 hbox hb; have BKN := Aside0.mk hbox; have GN := Aside0.mk (show w.heap.size ≤ N by rw [hg]; exact HB.out.size); have NADN := Aside0.mk (show ad.block ≠ N by rw [hg, ← add_block ad (x.toNat * 2)]; exact Nat.ne_of_lt (World.block_lt_of_cell? _ _ HXAD.out)); have NSN := Aside0.mk (show some N ≠ ((.slice (some ⟨g, 0, none⟩) (m + 1) c6) : Value).ownBlock by rw [hg]; exact Kd.R_ne_new HO.out 0); have n0_ := Aside0.mk (below_step HB.out hb); have n1_ := Aside0.mk (Kd.R_below HOA.out hb); have n2_ := Aside0.mk (Kd.R_below HO.out hb); have hxa4 := pw_cell_below hb HXAD.out; have HX4 := Aside0.mk hxa4;  clear HB HOA HO hxa; have HB := n0_; have HOA := n1_; have HO := n2_; clear n0_ n1_ n2_ hbox hb hg) | ((with_reducible refine gate_store (t := 49) (p := 8) (v := .tmp 37) rfl ?_); refine Blk.store_whole rfl rfl 49 (.tmp 8) (.tmp 37) rfl #[.int .i64 a.f0, .int .i64 1099511627776] rfl rfl rfl (by kernel_rfl) (by simp [Value.oneCell']) BKN.out rfl ?_; intro w5 hb5 hg5; have n0_ := Aside0.mk (Blk.below_wrote HB.out hg5 GN.out HB.out.size); have n1_ := Aside0.mk (Kd.R_mono (Kd.R_grown (Kd.R_types HOA.out BKN.out (by decide)) hg5 (fun _ hk he => hk.2 (by injection he))) (fun _ _ => trivial)); have n2_ := Aside0.mk (Kd.R_grown1 HO.out rfl hg5 NSN.out); have hxa5 := (cell_keep hg5 HX4.out (by rw [add_block]; exact NADN.out)); clear hxa4;  clear HB HOA HO BKN; have HB := n0_; have HOA := n1_; have HO := n2_; have BKN := Aside0.mk hb5; have hcN0 := (blk_cell BKN.out 0).trans rfl; have hcN1 := (blk_cell BKN.out 1).trans rfl; clear n0_ n1_ n2_ hb5 hg5))
                  obtain ⟨h0, h1⟩ := last_cells HO.out HM.out
                  rw [← HQ.out] at h0 h1
                  have H0C := Aside0.mk h0
                  have H1C := Aside0.mk h1
                  have tb : (q.f1 == a.f0) = true := by exact beq_iff_eq.mpr HPE.out
                  go_quiet (fail)
                  go_wp2_with (first | ((with_reducible refine gate_store (t := 3) (p := 71) (v := .tmp 69) rfl ?_); refine Kd.R_store k49 (w0 := w) w.heap.size rfl rfl 3 (.tmp 71) (.tmp 69) rfl 49 (m : Int) 1 out (⟨q.f0, 1099511627776⟩ : S49) (.int .i64 1099511627776) [.int .i64 1099511627776] [.int .i64 q.f0, .int .i64 q.f1] (fun _ => True) (fun _ => False) rfl ?hO rfl rfl ?hT ?h1 (by (with_reducible repeat (first | apply Kd.R_alloc | apply Kd.R_drewN | apply Kd.R_drew)); exact HO.out) e2 ?hi rfl ?hcc ?hj ?hM (fun _ h => h.elim) ?hBB ?_; (case hO => show m * 2 + 1 = (m : Int).toNat * 2 + 1; simp); (case hT => kernel_rfl); (case h1 => simp [Value.oneCell']); (case hi => omega); (case hcc => intro j u hu; exact cell2 (n := m * 2) (by show (m : Int).toNat * 2 = m * 2; simp) H0C.out H1C.out j u hu); (case hj => exact Nat.le_refl _); (case hM => exact k49_mkM _ _ _ (⟨q.f0, 1099511627776⟩ : S49)); (case hBB => exact (by repeat (first | (with_reducible first | exact HB.out | apply below_alloc | apply pw_below_drewN | apply below_drew1) | exact HB.out))); intro w7 ho7 hb7 hg7; have n0_ := Aside0.mk hb7; have n1_ := Aside0.mk (Kd.R_mono (Kd.R_grown (Kd.R_apart34 (v := .slice (some ⟨g, 0, none⟩) (m + 1) c6) (by (with_reducible repeat (first | apply Kd.R_alloc | apply Kd.R_drewN | apply Kd.R_drew)); exact HOA.out) (by (with_reducible repeat (first | apply Kd.R_alloc | apply Kd.R_drewN | apply Kd.R_drew)); exact HO.out)) hg7 (fun _ hk he => hk.2 he)) (fun _ _ => trivial)); have n2_ := Aside0.mk ho7; clear HB HOA HO; have HB := n0_; have HOA := n1_; have HO := n2_; clear n0_ n1_ n2_ ho7 hb7 hg7))
                  go_roundg k1
                  case measure => omega
                  case rel => exact ⟨y, _, rfl, ⟨by have := HX.out; have := HY.out; omega⟩, ⟨by have := HK.out; have := HY.out; omega⟩, ⟨by have := HOL.out; have := HY.out; simp only [List.length_set]; omega⟩, HN2, HOA, HO, HB⟩
                · have HN2 : Aside0 (refRun a1 (all.drop y.toNat) (out ++ [⟨a.f0, 1099511627776⟩]) = r) := ⟨by have h0 := hrn.out; rw [if_pos hmb, refAdd_miss hm (by rw [← HQ.out]; exact hpe) 1099511627776] at h0; rw [run_done all y a1 _ HYE.out]; exact h0⟩
                  have HM := Aside0.mk hm
                  obtain ⟨g, c6, e6, _⟩ := Kd.R_form HO.out (by omega)
                  rw [hm] at e6
                  subst e6
                  clear hm hmb hrn
                  have e1 : IntKind.i64.wrap ((m : Int) + 1 - 1) = (m : Int) := by have := HM.out; have := HOL.out; have := HLT.out; have := HL.out; have := HN.out; rw [IntKind.wrap_i64]; omega
                  have e1a : IntKind.i64.wrap (m : Int) = (m : Int) := by have := HM.out; have := HOL.out; have := HLT.out; have := HL.out; have := HN.out; rw [IntKind.wrap_i64]; omega
                  have e2 : (0 : Int) ≤ (m : Int) := by omega
                  have e3 : (m : Int) < (m : Int) + 1 := by omega
                  have HPE := Aside0.mk hpe
                  clear hpe
                  go_upto_region 13 with (first | (go_at_call 34; (with_reducible refine (bitemporalref06_may.calls _ _ all x a1 true _ ?side1 ?side2 HMAY.out).mono ?_); (case side1 => exact (Kd.R_reads' HOA.out).2.2); (case side2 => exact (Kd.R_reads' HOA.out).2.1); rintro e_ w' ⟨rfl, ⟨nd, rfl⟩⟩; have n0_ := Aside0.mk (pw_below_drewN HB.out nd); have n1_ := Aside0.mk (Kd.R_drewN HOA.out nd); have n2_ := Aside0.mk (Kd.R_drewN HO.out nd); have hxa : (wr.drewN nd).cell? (ad.add (x.toNat * 2)) = some (.int .i64 a.f0) := HXA.out; have HXAD := Aside0.mk hxa;  clear HB HOA HO; have HB := n0_; have HOA := n1_; have HO := n2_; clear n0_ n1_ n2_; generalize wr.drewN nd = wd at *) | ((with_reducible refine gate_dst (N := 8) rfl ?_); refine box_event ?hg (N := 8) ?hd (cs := #[.int .i64 0, .int .i64 0]) (t := 49) ?hr ?_; (case hd => rfl); (case hg => rfl); (case hr => first | (go_simp; done) | (go_simp; rfl)); intro N hg w4 hbox hb; have BKN := Aside0.mk hbox; have GN := Aside0.mk (show w.heap.size ≤ N by rw [hg]; exact HB.out.size); have NADN := Aside0.mk (show ad.block ≠ N by rw [hg, ← add_block ad (x.toNat * 2)]; exact Nat.ne_of_lt (World.block_lt_of_cell? _ _ HXAD.out)); have NSN := Aside0.mk (show some N ≠ ((.slice (some ⟨g, 0, none⟩) (m + 1) c6) : Value).ownBlock by rw [hg]; exact Kd.R_ne_new HO.out 0); have n0_ := Aside0.mk (below_step HB.out hb); have n1_ := Aside0.mk (Kd.R_below HOA.out hb); have n2_ := Aside0.mk (Kd.R_below HO.out hb); have hxa4 := pw_cell_below hb HXAD.out; have HX4 := Aside0.mk hxa4;  clear HB HOA HO hxa; have HB := n0_; have HOA := n1_; have HO := n2_; clear n0_ n1_ n2_ hbox hb hg) | ((with_reducible refine gate_store (t := 49) (p := 8) (v := .tmp 37) rfl ?_); refine Blk.store_whole rfl rfl 49 (.tmp 8) (.tmp 37) rfl #[.int .i64 a.f0, .int .i64 1099511627776] rfl rfl rfl (by kernel_rfl) (by simp [Value.oneCell']) BKN.out rfl ?_; intro w5 hb5 hg5; have n0_ := Aside0.mk (Blk.below_wrote HB.out hg5 GN.out HB.out.size); have n1_ := Aside0.mk (Kd.R_mono (Kd.R_grown (Kd.R_types HOA.out BKN.out (by decide)) hg5 (fun _ hk he => hk.2 (by injection he))) (fun _ _ => trivial)); have n2_ := Aside0.mk (Kd.R_grown1 HO.out rfl hg5 NSN.out); have hxa5 := (cell_keep hg5 HX4.out (by rw [add_block]; exact NADN.out)); clear hxa4;  clear HB HOA HO BKN; have HB := n0_; have HOA := n1_; have HO := n2_; have BKN := Aside0.mk hb5; have hcN0 := (blk_cell BKN.out 0).trans rfl; have hcN1 := (blk_cell BKN.out 1).trans rfl; clear n0_ n1_ n2_ hb5 hg5))
                  obtain ⟨h0, h1⟩ := last_cells HO.out HM.out
                  rw [← HQ.out] at h0 h1
                  have H0C := Aside0.mk h0
                  have H1C := Aside0.mk h1
                  have tb : (q.f1 == a.f0) = false := by exact beq_eq_false_iff_ne.mpr HPE.out
                  go_quiet (fail)
                  go_wp2_with (first | ((with_reducible refine gate_builtin (b := .append) (xs := #[.tmp 72, .tmp 74]) rfl ?_); at_builtin; refine Kd.R_append k49 (w0 := w) w.heap.size rfl (.tmp 72) (.tmp 74) 42 49 (.agg #[(.int .i64 0), (.int .i64 0)]) 16 rfl Try.underlying42 info49 rfl (by decide) (by omega) (.slice (some ⟨g, 0, none⟩) (m + 1) c6) out (⟨a.f0, 1099511627776⟩ : S49) [.int .i64 a.f0, .int .i64 1099511627776] (fun _ => True) (fun _ => False) rfl (by first | (go_simp; done) | (go_simp; rfl)) ?aP (fun _ hk => hk.elim) ?aF ?aO ?aB ?aS ?aL ?_; (case aP => exact k49_mkM _ _ _ (⟨a.f0, 1099511627776⟩ : S49)); (case aF => exact (fun _ _ => trivial)); (case aO => exact (by (with_reducible repeat (first | apply Kd.R_alloc | apply Kd.R_drewN | apply Kd.R_drew)); exact HO.out)); (case aB => exact (by repeat (first | (with_reducible first | exact HB.out | apply below_alloc | apply pw_below_drewN | apply below_drew1) | exact HB.out))); (case aS => exact below_size (by repeat (first | (with_reducible first | exact HB.out | apply below_alloc | apply pw_below_drewN | apply below_drew1) | exact HB.out))); (case aL => have := HOL.out; have := HLT.out; have := HL.out; have := HN.out; omega); intro v7 w7 ho7 hb7 hg7 hat7; have n0_ := Aside0.mk hb7; have n1_ := Aside0.mk (Kd.R_mono (Kd.R_grown (Kd.R_apart34 (by (with_reducible repeat (first | apply Kd.R_alloc | apply Kd.R_drewN | apply Kd.R_drew)); exact HOA.out) (by (with_reducible repeat (first | apply Kd.R_alloc | apply Kd.R_drewN | apply Kd.R_drew)); exact HO.out)) hg7 (fun _ hk he => hk.2 he)) (fun _ _ => trivial)); have n2_ := Aside0.mk ho7; clear HB HOA HO; have HB := n0_; have HOA := n1_; have HO := n2_; clear n0_ n1_ n2_ ho7 hb7 hg7 hat7))
                  go_roundg k1
                  case measure => omega
                  case rel => exact ⟨y, _, rfl, ⟨by have := HX.out; have := HY.out; omega⟩, ⟨by have := HK.out; have := HY.out; omega⟩, ⟨by have := HOL.out; have := HY.out; simp only [List.length_append, List.length_singleton]; omega⟩, HN2, HOA, HO, HB⟩
            · have HMAY : Aside0 (bitemporalref06_may.f all x a1 = some false) := ⟨by rw [hml.out]; simp [hmb]⟩
              clear hml
              have HN2 : Aside0 (refRun a1 (all.drop y.toNat) out = r) := ⟨by have h0 := hrn.out; rw [if_neg hmb] at h0; rw [run_done all y a1 _ HYE.out]; exact h0⟩
              clear hmb hrn
              go_wp2_with (first | (go_at_call 34; (with_reducible refine (bitemporalref06_may.calls _ _ all x a1 false _ ?side1 ?side2 HMAY.out).mono ?_); (case side1 => exact (Kd.R_reads' HOA.out).2.2); (case side2 => exact (Kd.R_reads' HOA.out).2.1); rintro e_ w' ⟨rfl, ⟨nd, rfl⟩⟩; have n0_ := Aside0.mk (pw_below_drewN HB.out nd); have n1_ := Aside0.mk (Kd.R_drewN HOA.out nd); have n2_ := Aside0.mk (Kd.R_drewN HO.out nd); have hxa : (wr.drewN nd).cell? (ad.add (x.toNat * 2)) = some (.int .i64 a.f0) := HXA.out; have HXAD := Aside0.mk hxa;  clear HB HOA HO; have HB := n0_; have HOA := n1_; have HO := n2_; clear n0_ n1_ n2_; generalize wr.drewN nd = wd at *))
              go_roundg k1
              case measure => omega
              case rel => exact ⟨y, _, rfl, ⟨by have := HX.out; have := HY.out; omega⟩, ⟨by have := HK.out; have := HY.out; omega⟩, ⟨by have := HOL.out; have := HY.out; omega⟩, HN2, HOA, HO, HB⟩
        · have hge : x = (all.length : Int) := by have := HK.out; omega
          have hr : out = r := by have h0 := HRUN.out; rwa [run_done all x a1 out hge] at h0
          subst hge
          have HRR := Aside0.mk hr
          clear hlt hr HRUN
          have c2b0 : decide ((all.length : Int) < (all.length : Int)) = false := by simp
          go_wp2_with (fail)
          go_ret
          exact ⟨_, rfl, by rw [← HRR.out]; exact HO.out, HB.out⟩
  · have H : ([] : List S49) = r := by rw [if_neg c1] at h; simpa using h
    subst H
    clear h
    have c1b : (e == 0) = false := beq_eq_false_iff_ne.mpr c1
    have c1c : (e != 0) = true := bne_iff_ne.mpr c1
    go_enter Try.func24, Try.ntmps24
    go_wp2_with (first | (go_at_call 16; (with_reducible refine (bitemporalref06_Check.calls k _ _ l0 e _ ?side1 ?side2 HE.out).mono ?_); (case side1 => exact HR0.out); (case side2 => exact HC0.out); rintro e_ w1 ⟨rfl, hb⟩; have n0_ := Aside0.mk (below_step HB.out hb); clear HB; have HB := n0_; clear n0_ hb) | (go_at_call 31; (with_reducible refine (bitemporalref06_Reading.calls a1 true _ HI.out).mono ?_); rintro e_ w' ⟨rfl, ⟨nd, rfl⟩⟩; have n0_ := Aside0.mk (pw_below_drewN HB.out nd); clear HB; have HB := n0_; clear n0_))
    go_ret
    exact ⟨_, rfl, Kd.R_nil _ _ _ _ _, HB.out⟩

end Go.Proofs.Ytaipdnlfhhadjaa.C
