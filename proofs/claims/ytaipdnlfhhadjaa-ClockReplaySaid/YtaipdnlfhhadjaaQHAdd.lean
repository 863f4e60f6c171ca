/-
  The contract of the closure 'add' inside clock.Shown: it appends a period to the captured slice, or merges it into the last one.
-/
import Derived.Test.YtaipdnlfhhadjaaQCx4
namespace Go.Proofs.Ytaipdnlfhhadjaa.C
open Go.RowKit Go.Proofs.YtaipdnlfhhadjaaW.PrintWords Go.Proofs.YtaipdnlfhhadjaaW.PrintLast Go.Proofs.YtaipdnlfhhadjaaW.PrintMore
attribute [local go_sem] max2_int min2_int max_two min_two max_three min_three max_four min_four
set_option linter.unusedVariables false
set_option linter.unusedSimpArgs false
/-- What 'add' leaves: the captured variable (block B) holds the row r; blocks of other element types than periods are as they were. -/
def AddPost (w : World) (base B : Nat) (r : List S49) (e : Ending) (w' : World) : Prop :=
  e = .returned (.tuple #[]) ∧ (∃ v', w'.heap[B]? = some (.cells #[v'] 42 (0, 0)) ∧ Kd.R k49 49 w' base (fun _ => True) v' r) ∧
    (∀ i cells t, w.heap[i]? = some (.cells cells t (0, 0)) → t ≠ 49 → i ≠ B → w'.heap[i]? = some (.cells cells t (0, 0))) ∧ Below base w w' ∧ w.heap.size ≤ w'.heap.size
theorem add_end {w w1 w2 : World} {base B : Nat} {v v1 v2 : Value} {xs ys : List S49} (hb1 : Below w.heap.size w w1) (hR1 : Kd.R k49 49 w1 base (fun _ => True) v xs) (hg : w1.grownBy w2 v.ownBlock)
    (hO2 : Kd.R k49 49 w2 base (fun _ => True) v2 ys) (hBB2 : w2.heap[B]? = some (.cells #[v1] 42 (0, 0))) (hB2 : Below base w w2) (hbase : base ≤ B) :
    AddPost w base B ys (.returned (.tuple #[])) (w2.setCell ⟨B, 0, none⟩ v2) := by
  refine ⟨rfl, ⟨v2, blk_put hBB2 0 v2 rfl, Kd.R_set hO2 hBB2 (by decide) 0 v2⟩, fun i cells t hi ht hne => ?_, hB2.setCell hbase _, ?_⟩
  · have h1 := blk_below hi hb1
    have h2 := blk_grown h1 hg (Kd.R_ne hR1 h1 (Ne.symm ht))
    exact blk_far h2 hne v2
  · have := hb1.size; have := hg.size; simp only [World.setCell, Array.size_modify]; omega
theorem add_end2 {w w1 w2 : World} {base B : Nat} {v v2 : Value} {xs ys : List S49} (hb1 : Below w.heap.size w w1) (hR1 : Kd.R k49 49 w1 base (fun _ => True) v xs) (hBB1 : w1.heap[B]? = some (.cells #[v2] 42 (0, 0))) (hg : w1.grownBy w2 v.ownBlock)
    (hO2 : Kd.R k49 49 w2 base (fun _ => True) v2 ys) (hB2 : Below base w w2) :
    AddPost w base B ys (.returned (.tuple #[])) w2 := by
  refine ⟨rfl, ⟨v2, blk_grown hBB1 hg (Kd.R_ne hR1 hBB1 (by decide)), hO2⟩, fun i cells t hi ht hne => ?_, hB2, ?_⟩
  · have h1 := blk_below hi hb1
    exact blk_grown h1 hg (Kd.R_ne hR1 h1 (Ne.symm ht))
  · have := hb1.size; have := hg.size; omega
theorem cell2 {w : World} {g n a : Nat} {x y : Value} (hn : a = n) (h0 : w.cell? ⟨g, n, none⟩ = some x) (h1 : w.cell? ⟨g, n + 1, none⟩ = some y) : ∀ (j : Nat) (u : Value), [x, y][j]? = some u → w.cell? ⟨g, a + j, none⟩ = some u := by
  subst hn
  intro j u hu
  match j, hu with
  | 0, hu => simp at hu; subst hu; exact h0
  | 1, hu => simp at hu; subst hu; exact h1
  | j + 2, hu => simp at hu
set_option maxHeartbeats 8000000 in
set_option maxRecDepth 100000 in
theorem add_first (p0 p1 : Int) (B base : Nat) (v : Value) (w : World) (hb : w.heap[B]? = some (.cells #[v] 42 (0, 0))) (hR : Kd.R k49 49 w base (fun _ => True) v ([] : List S49)) (hbase : base ≤ B) :
    Calls Try.prog 32 #[.agg #[.int .i64 p0, .int .i64 p1], .pointer (some ⟨B, 0, none⟩)] w (AddPost w base B [⟨p0, p1⟩]) := by
  have hu49 := Try.underlying49
  obtain ⟨A, c, hv, hl, hC⟩ := Kd.R_reads hR
  subst hv
  have HR := Aside0.mk hR
  have HC := Aside0.mk hl
  have HBB := Aside0.mk hb
  have HBS := Aside0.mk hbase
  have HLE := Aside0.mk (Nat.le_trans hbase (Nat.le_of_lt (blk_lt hb)))
  clear hR hl hC hb hbase
  have hcB : w.cell? ⟨B, 0, none⟩ = some (.slice A 0 c) := (blk_cell HBB.out 0).trans rfl
  have hfB := blk_frozen HBB.out 0
  go_enter Try.func32, Try.ntmps32
  go_wp2_with (first | ((with_reducible refine gate_dst (N := 2) rfl ?_); refine box_event ?hg (N := 2) ?hd (cs := #[.int .i64 p0, .int .i64 p1]) (t := 49) ?hr ?_; (case hd => rfl); (case hg => rfl); (case hr => first | (go_simp; done) | (go_simp; rfl)); intro gp hg w1 hbox hb; have BP := Aside0.mk hbox; have BB1 := Aside0.mk (blk_below HBB.out hb); have HR1 := Aside0.mk (Kd.R_below HR.out hb); have HB1 := Aside0.mk hb; have hcB1 := (blk_cell BB1.out 0).trans rfl; have hfB1 := blk_frozen BB1.out 0; have hcP0 := (blk_cell BP.out 0).trans rfl; have hcP1 := (blk_cell BP.out 1).trans rfl; clear hcB hfB hbox hb hg) | ((with_reducible refine gate_builtin (b := .append) (xs := #[.tmp 26, .tmp 28]) rfl ?_); at_builtin; refine Kd.R_append k49 (w0 := w) base rfl (.tmp 26) (.tmp 28) 42 49 (.agg #[(.int .i64 0), (.int .i64 0)]) 16 rfl Try.underlying42 info49 rfl (by decide) (by omega) (.slice A 0 c) [] (⟨p0, p1⟩ : S49) [.int .i64 p0, .int .i64 p1] (fun _ => True) (fun _ => False) rfl (by first | (go_simp; done) | (go_simp; rfl)) ?aP (fun _ hk => hk.elim) ?aF ?aO ?aB ?aS ?aL ?_; (case aP => exact k49_mkM _ _ _ (⟨p0, p1⟩ : S49)); (case aF => exact (fun _ _ => trivial)); (case aO => exact HR1.out); (case aB => exact HB1.out.mono HLE.out); (case aS => exact Nat.le_trans HLE.out HB1.out.size); (case aL => simp); intro v2 w2 ho hb2 hg2 hat2; have HO2 := Aside0.mk ho; have HB2 := Aside0.mk hb2; have BB2 := Aside0.mk (blk_grown BB1.out hg2 (Kd.R_ne HR1.out BB1.out (by decide))); have HG2 := Aside0.mk hg2; obtain ⟨A2, c2, hv2, _, _⟩ := Kd.R_reads ho; subst hv2; have hcB2 := (blk_cell BB2.out 0).trans rfl; have hfB2 := blk_frozen BB2.out 0; clear hcB1 hfB1 hcP0 hcP1 ho hb2 hg2 hat2))
  go_end0
  exact add_end HB1.out HR1.out HG2.out HO2.out BB2.out HB2.out HBS.out
set_option maxHeartbeats 8000000 in
set_option maxRecDepth 100000 in
theorem add_merge (p0 p1 : Int) (B base : Nat) (v : Value) (xs : List S49) (m : Nat) (m0 m1 : Int) (w : World) (hb : w.heap[B]? = some (.cells #[v] 42 (0, 0))) (hR : Kd.R k49 49 w base (fun _ => True) v xs) (hbase : base ≤ B) (hm : xs.length = m + 1)
    (hM : period_Merge.f (rd_T49 xs m).f0 (rd_T49 xs m).f1 p0 p1 = some (m0, m1, true)) (hlim : m + 2 < 8796093022208) :
    Calls Try.prog 32 #[.agg #[.int .i64 p0, .int .i64 p1], .pointer (some ⟨B, 0, none⟩)] w (AddPost w base B (xs.set m ⟨m0, m1⟩)) := by
  have hu49 := Try.underlying49
  obtain ⟨g, c, hv, hl, hC⟩ := Kd.R_form hR (by omega)
  rw [hm] at hv
  subst hv
  have HR := Aside0.mk hR
  have HM := Aside0.mk hM
  have HLM := Aside0.mk hlim
  have HBB := Aside0.mk hb
  have HBS := Aside0.mk hbase
  have HLE := Aside0.mk (Nat.le_trans hbase (Nat.le_of_lt (blk_lt hb)))
  have HL := Aside0.mk hm
  clear hR hl hC hb hbase hM hm
  have hcB : w.cell? ⟨B, 0, none⟩ = some (.slice (some ⟨g, 0, none⟩) (m + 1) c) := (blk_cell HBB.out 0).trans rfl
  have hfB := blk_frozen HBB.out 0
  go_enter Try.func32, Try.ntmps32
  go_wp2_with (first | ((with_reducible refine gate_dst (N := 2) rfl ?_); refine box_event ?hg (N := 2) ?hd (cs := #[.int .i64 p0, .int .i64 p1]) (t := 49) ?hr ?_; (case hd => rfl); (case hg => rfl); (case hr => first | (go_simp; done) | (go_simp; rfl)); intro gp hg w1 hbox hb; have BP := Aside0.mk hbox; have BB1 := Aside0.mk (blk_below HBB.out hb); have HR1 := Aside0.mk (Kd.R_below HR.out hb); have HB1 := Aside0.mk hb; have hcB1 := (blk_cell BB1.out 0).trans rfl; have hfB1 := blk_frozen BB1.out 0; have hcP0 := (blk_cell BP.out 0).trans rfl; have hcP1 := (blk_cell BP.out 1).trans rfl; clear hcB hfB hbox hb hg))
  obtain ⟨q, hq⟩ : ∃ q : S49, q = rd_T49 xs m := ⟨_, rfl⟩
  obtain ⟨h0, h1⟩ : w1.cell? ⟨g, m * 2, none⟩ = some (.int .i64 q.f0) ∧ w1.cell? ⟨g, m * 2 + 1, none⟩ = some (.int .i64 q.f1) := by
    obtain ⟨ad, e, x0, x1⟩ := at_T49 (Kd.R_reads' HR1.out).2.2 m (by omega) (by have := HL.out; omega)
    injection e with e
    subst e
    subst hq
    rw [add_plain] at x0 x1
    exact ⟨by simpa using x0, by simpa using x1⟩
  have HQ := Aside0.mk hq
  clear hq
  have e1 : IntKind.i64.wrap ((m : Int) + 1 - 1) = (m : Int) := by have := HLM.out; rw [IntKind.wrap_i64]; omega
  have e1a : IntKind.i64.wrap (m : Int) = (m : Int) := by have := HLM.out; rw [IntKind.wrap_i64]; omega
  have e2 : (0 : Int) ≤ (m : Int) := by omega
  have e3 : (m : Int) < (m : Int) + 1 := by omega
  go_cut [4, 5] (fun v4 v5 wc => ∃ gm : Nat, v4 = .pointer (some ⟨gm, 0, none⟩) ∧ v5 = .bool true ∧ Aside0 (Below w1.heap.size w1 wc) ∧ Aside0 (wc.heap[gm]? = some (.cells #[.int .i64 m0, .int .i64 m1] 49 (0, 0))) ∧ Aside0 (w1.heap.size ≤ gm))
  case first =>
    have n0 := World.new_ne w1 ⟨B, 0, none⟩ ((blk_cell BB1.out 0).trans rfl)
    have n1 := World.new_ne w1 ⟨g, m * 2, none⟩ h0
    have n2 := World.new_ne w1 ⟨g, m * 2 + 1, none⟩ h1
    have n3 := World.new_ne w1 ⟨gp, 0, none⟩ ((blk_cell BP.out 0).trans rfl)
    go_region_held3 (fun w' => w'.cell? ⟨B, 0, none⟩ = some (.slice (some ⟨g, 0, none⟩) (m + 1) c) ∧ w'.cell? ⟨g, m * 2, none⟩ = some (.int .i64 q.f0) ∧ w'.cell? ⟨g, m * 2 + 1, none⟩ = some (.int .i64 q.f1) ∧ w'.cell? ⟨gp, 0, none⟩ = some (.int .i64 p0) ∧ w'.cell? ⟨gp, 1, none⟩ = some (.int .i64 p1))
      (first | go_keep | (go_split_ands; refine ⟨?_, ?_, ?_, ?_, ?_⟩ <;> first | assumption | (refine pw_cell_below hb2 ?_; assumption) | (refine pw_cell_below (below_alloc (Below.refl _ _) _) ?_; assumption) | (refine pw_cell_below (below_alloc (Below.refl _ _) _) ?_; refine pw_cell_below hb2 ?_; assumption))) (first | (go_at_call 33; refine (period_Merge.calls q.f0 q.f1 p0 p1 m0 m1 true _ ?_).mono ?_; (rw [HQ.out]; exact HM.out); rintro e w2 ⟨rfl, hb2⟩; (try (have zb := blk_below (g := w1.heap.size) (o := .cells #[.int .i64 0, .int .i64 0] 49 (0, 0)) (by first | exact blk_new _ _ | exact blk_drew (blk_new _ _)) hb2; have z0 := (blk_cell zb 0).trans rfl; have z1 := (blk_cell zb 1).trans rfl; have z2 := blk_frozen zb 0; have z3 := blk_frozen zb 1))))
    all_goals (go_wp2_with fail; go_meet)
    all_goals first
      | (have hd : Below w1.heap.size w1 w2 := (Below.drew (Below.refl _ _)).trans hb2
         exact ⟨_, rfl, rfl, ⟨hd.alloc hd.size _⟩, ⟨blk_new _ _⟩, ⟨hd.size⟩⟩)
      | (have hd : Below w1.heap.size w1 w2 := ((Below.refl w1.heap.size w1).alloc (Nat.le_refl _) _).drew.trans (hb2.mono (by simp))
         exact ⟨_, rfl, rfl, ⟨(hd.setCell (Nat.le_refl _) _).setCell (Nat.le_refl _) _⟩, ⟨blk_put (blk_put zb 0 _ rfl) 1 _ rfl⟩, ⟨Nat.le_refl _⟩⟩)
  case rest =>
    obtain ⟨gm, rfl, rfl, HBc, HBM, HGM⟩ := hcut
    have BBc := Aside0.mk (blk_below BB1.out HBc.out)
    have HRc := Aside0.mk (Kd.R_below HR1.out HBc.out)
    have HB1c := Aside0.mk (below_step HB1.out HBc.out)
    have h0q := h0
    have h1q := h1
    clear hcB1 hfB1 hcP0 hcP1 h0 h1
    have hcBc := (blk_cell BBc.out 0).trans rfl
    have hfBc := blk_frozen BBc.out 0
    have hcM0 := (blk_cell HBM.out 0).trans rfl
    have hcM1 := (blk_cell HBM.out 1).trans rfl
    have h0c := pw_cell_below HBc.out h0q
    have h1c := pw_cell_below HBc.out h1q
    have H0C := Aside0.mk h0c
    have H1C := Aside0.mk h1c
    clear h0c h1c h0q h1q
    go_wp2_with (first | ((with_reducible refine gate_store (t := 49) (p := 25) (v := .tmp 24) rfl ?_); refine Kd.R_store k49 (w0 := w) base rfl rfl 49 (.tmp 25) (.tmp 24) rfl 49 (m : Int) 0 xs (⟨m0, m1⟩ : S49) (.agg #[.int .i64 m0, .int .i64 m1]) [.int .i64 m0, .int .i64 m1] [.int .i64 q.f0, .int .i64 q.f1] (fun _ => True) (fun _ => False) rfl ?hO rfl rfl ?hT ?h1 HRc.out e2 ?hi rfl ?hcc ?hj ?hM (fun _ h => h.elim) ?hBB ?_; (case hO => show m * 2 = (m : Int).toNat * 2 + 0; simp); (case hT => kernel_rfl); (case h1 => simp [Value.oneCell']); (case hi => omega); (case hcc => intro j u hu; exact cell2 (n := m * 2) (by show (m : Int).toNat * 2 = m * 2; simp) H0C.out H1C.out j u hu); (case hj => exact Nat.le_refl _); (case hM => exact k49_mkM _ _ _ (⟨m0, m1⟩ : S49)); (case hBB => exact HB1c.out.mono HLE.out); intro w3 ho3 hb3 hg3; have HO3 := Aside0.mk ho3; have HB3 := Aside0.mk hb3; have HG3 := Aside0.mk hg3; clear ho3 hb3 hg3))
    go_end0
    exact add_end2 HB1c.out HRc.out BBc.out HG3.out HO3.out HB3.out
set_option maxHeartbeats 8000000 in
set_option maxRecDepth 100000 in
theorem add_apart (p0 p1 : Int) (B base : Nat) (v : Value) (xs : List S49) (m : Nat) (m0 m1 : Int) (w : World) (hb : w.heap[B]? = some (.cells #[v] 42 (0, 0))) (hR : Kd.R k49 49 w base (fun _ => True) v xs) (hbase : base ≤ B) (hm : xs.length = m + 1)
    (hM : period_Merge.f (rd_T49 xs m).f0 (rd_T49 xs m).f1 p0 p1 = some (m0, m1, false)) (hlim : m + 2 < 8796093022208) :
    Calls Try.prog 32 #[.agg #[.int .i64 p0, .int .i64 p1], .pointer (some ⟨B, 0, none⟩)] w (AddPost w base B (xs ++ [⟨p0, p1⟩])) := by
  have hu49 := Try.underlying49
  obtain ⟨g, c, hv, hl, hC⟩ := Kd.R_form hR (by omega)
  rw [hm] at hv
  subst hv
  have HR := Aside0.mk hR
  have HM := Aside0.mk hM
  have HLM := Aside0.mk hlim
  have HBB := Aside0.mk hb
  have HBS := Aside0.mk hbase
  have HLE := Aside0.mk (Nat.le_trans hbase (Nat.le_of_lt (blk_lt hb)))
  have HL := Aside0.mk hm
  clear hR hl hC hb hbase hM hm
  have hcB : w.cell? ⟨B, 0, none⟩ = some (.slice (some ⟨g, 0, none⟩) (m + 1) c) := (blk_cell HBB.out 0).trans rfl
  have hfB := blk_frozen HBB.out 0
  go_enter Try.func32, Try.ntmps32
  go_wp2_with (first | ((with_reducible refine gate_dst (N := 2) rfl ?_); refine box_event ?hg (N := 2) ?hd (cs := #[.int .i64 p0, .int .i64 p1]) (t := 49) ?hr ?_; (case hd => rfl); (case hg => rfl); (case hr => first | (go_simp; done) | (go_simp; rfl)); intro gp hg w1 hbox hb; have BP := Aside0.mk hbox; have BB1 := Aside0.mk (blk_below HBB.out hb); have HR1 := Aside0.mk (Kd.R_below HR.out hb); have HB1 := Aside0.mk hb; have hcB1 := (blk_cell BB1.out 0).trans rfl; have hfB1 := blk_frozen BB1.out 0; have hcP0 := (blk_cell BP.out 0).trans rfl; have hcP1 := (blk_cell BP.out 1).trans rfl; clear hcB hfB hbox hb hg))
  obtain ⟨q, hq⟩ : ∃ q : S49, q = rd_T49 xs m := ⟨_, rfl⟩
  obtain ⟨h0, h1⟩ : w1.cell? ⟨g, m * 2, none⟩ = some (.int .i64 q.f0) ∧ w1.cell? ⟨g, m * 2 + 1, none⟩ = some (.int .i64 q.f1) := by
    obtain ⟨ad, e, x0, x1⟩ := at_T49 (Kd.R_reads' HR1.out).2.2 m (by omega) (by have := HL.out; omega)
    injection e with e
    subst e
    subst hq
    rw [add_plain] at x0 x1
    exact ⟨by simpa using x0, by simpa using x1⟩
  have HQ := Aside0.mk hq
  clear hq
  have e1 : IntKind.i64.wrap ((m : Int) + 1 - 1) = (m : Int) := by have := HLM.out; rw [IntKind.wrap_i64]; omega
  have e1a : IntKind.i64.wrap (m : Int) = (m : Int) := by have := HLM.out; rw [IntKind.wrap_i64]; omega
  have e2 : (0 : Int) ≤ (m : Int) := by omega
  have e3 : (m : Int) < (m : Int) + 1 := by omega
  go_cut [4, 5] (fun v4 v5 wc => ∃ gm : Nat, v4 = .pointer (some ⟨gm, 0, none⟩) ∧ v5 = .bool false ∧ Aside0 (Below w1.heap.size w1 wc) ∧ Aside0 (wc.heap[gm]? = some (.cells #[.int .i64 m0, .int .i64 m1] 49 (0, 0))) ∧ Aside0 (w1.heap.size ≤ gm))
  case first =>
    have n0 := World.new_ne w1 ⟨B, 0, none⟩ ((blk_cell BB1.out 0).trans rfl)
    have n1 := World.new_ne w1 ⟨g, m * 2, none⟩ h0
    have n2 := World.new_ne w1 ⟨g, m * 2 + 1, none⟩ h1
    have n3 := World.new_ne w1 ⟨gp, 0, none⟩ ((blk_cell BP.out 0).trans rfl)
    go_region_held3 (fun w' => w'.cell? ⟨B, 0, none⟩ = some (.slice (some ⟨g, 0, none⟩) (m + 1) c) ∧ w'.cell? ⟨g, m * 2, none⟩ = some (.int .i64 q.f0) ∧ w'.cell? ⟨g, m * 2 + 1, none⟩ = some (.int .i64 q.f1) ∧ w'.cell? ⟨gp, 0, none⟩ = some (.int .i64 p0) ∧ w'.cell? ⟨gp, 1, none⟩ = some (.int .i64 p1))
      (first | go_keep | (go_split_ands; refine ⟨?_, ?_, ?_, ?_, ?_⟩ <;> first | assumption | (refine pw_cell_below hb2 ?_; assumption) | (refine pw_cell_below (below_alloc (Below.refl _ _) _) ?_; assumption) | (refine pw_cell_below (below_alloc (Below.refl _ _) _) ?_; refine pw_cell_below hb2 ?_; assumption))) (first | (go_at_call 33; refine (period_Merge.calls q.f0 q.f1 p0 p1 m0 m1 false _ ?_).mono ?_; (rw [HQ.out]; exact HM.out); rintro e w2 ⟨rfl, hb2⟩; (try (have zb := blk_below (g := w1.heap.size) (o := .cells #[.int .i64 0, .int .i64 0] 49 (0, 0)) (by first | exact blk_new _ _ | exact blk_drew (blk_new _ _)) hb2; have z0 := (blk_cell zb 0).trans rfl; have z1 := (blk_cell zb 1).trans rfl; have z2 := blk_frozen zb 0; have z3 := blk_frozen zb 1))))
    all_goals (go_wp2_with fail; go_meet)
    all_goals first
      | (have hd : Below w1.heap.size w1 w2 := (Below.drew (Below.refl _ _)).trans hb2
         exact ⟨_, rfl, rfl, ⟨hd.alloc hd.size _⟩, ⟨blk_new _ _⟩, ⟨hd.size⟩⟩)
      | (have hd : Below w1.heap.size w1 w2 := ((Below.refl w1.heap.size w1).alloc (Nat.le_refl _) _).drew.trans (hb2.mono (by simp))
         exact ⟨_, rfl, rfl, ⟨(hd.setCell (Nat.le_refl _) _).setCell (Nat.le_refl _) _⟩, ⟨blk_put (blk_put zb 0 _ rfl) 1 _ rfl⟩, ⟨Nat.le_refl _⟩⟩)
  case rest =>
    obtain ⟨gm, rfl, rfl, HBc, HBM, HGM⟩ := hcut
    have BBc := Aside0.mk (blk_below BB1.out HBc.out)
    have HRc := Aside0.mk (Kd.R_below HR1.out HBc.out)
    have HB1c := Aside0.mk (below_step HB1.out HBc.out)
    have h0q := h0
    have h1q := h1
    clear hcB1 hfB1 hcP0 hcP1 h0 h1
    have hcBc := (blk_cell BBc.out 0).trans rfl
    have hfBc := blk_frozen BBc.out 0
    have hcM0 := (blk_cell HBM.out 0).trans rfl
    have hcM1 := (blk_cell HBM.out 1).trans rfl
    clear h0q h1q hcM0 hcM1
    have hcP0 := (blk_cell (blk_below BP.out HBc.out) 0).trans rfl
    have hcP1 := (blk_cell (blk_below BP.out HBc.out) 1).trans rfl
    go_wp2_with (first | ((with_reducible refine gate_builtin (b := .append) (xs := #[.tmp 26, .tmp 28]) rfl ?_); at_builtin; refine Kd.R_append k49 (w0 := w) base rfl (.tmp 26) (.tmp 28) 42 49 (.agg #[(.int .i64 0), (.int .i64 0)]) 16 rfl Try.underlying42 info49 rfl (by decide) (by omega) (.slice (some ⟨g, 0, none⟩) (m + 1) c) xs (⟨p0, p1⟩ : S49) [.int .i64 p0, .int .i64 p1] (fun _ => True) (fun _ => False) rfl (by first | (go_simp; done) | (go_simp; rfl)) ?aP (fun _ hk => hk.elim) ?aF ?aO ?aB ?aS ?aL ?_; (case aP => exact k49_mkM _ _ _ (⟨p0, p1⟩ : S49)); (case aF => exact (fun _ _ => trivial)); (case aO => exact HRc.out); (case aB => exact HB1c.out.mono HLE.out); (case aS => exact Nat.le_trans HLE.out HB1c.out.size); (case aL => have := HLM.out; have := HL.out; omega); intro v2 w2 ho hb2 hg2 hat2; have HO2 := Aside0.mk ho; have HB2 := Aside0.mk hb2; have BB2 := Aside0.mk (blk_grown BBc.out hg2 (Kd.R_ne HRc.out BBc.out (by decide))); have HG2 := Aside0.mk hg2; obtain ⟨A2, c2, hv2, _, _⟩ := Kd.R_reads ho; subst hv2; have hcB2 := (blk_cell BB2.out 0).trans rfl; have hfB2 := blk_frozen BB2.out 0; clear hcBc hfBc hcP0 hcP1 ho hb2 hg2 hat2))
    go_end0
    have HO3 := HO2.out
    simp only [List.length_append, List.length_cons, List.length_nil, Nat.zero_add] at HO3
    exact add_end HB1c.out HRc.out HG2.out HO3 BB2.out HB2.out HBS.out
end Go.Proofs.Ytaipdnlfhhadjaa.C
