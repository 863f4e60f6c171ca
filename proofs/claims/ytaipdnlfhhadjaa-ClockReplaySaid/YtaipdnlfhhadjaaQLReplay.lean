/-
  The plain laws behind ClockReplay, ClockOrder and ClockFound: Replay answers as the reference's; its stamps ascend, are valid, and each reading may have been shown at its time.
-/
import Derived.Test.YtaipdnlfhhadjaaQLShown
import Derived.Test.YtaipdnlfhhadjaaQLNext
import Derived.Test.YtaipdnlfhhadjaaQCx10
import Derived.Test.YtaipdnlfhhadjaaQCx11
namespace Go.Proofs.Ytaipdnlfhhadjaa.C
open Go.RowKit Go.Proofs.YtaipdnlfhhadjaaW.PrintWords Go.Proofs.YtaipdnlfhhadjaaW.PrintLast Go.Proofs.YtaipdnlfhhadjaaW.PrintMore
set_option linter.unusedVariables false
theorem next_f (a b c : Int) (h : 0 ≤ b ∧ b ≤ a ∧ a < 1099511627776) : clock_Next.f a b c = some (if 0 ≤ c ∧ c < 1099511627776 then (if mx (a + 1) c ≥ 1099511627776 then (0, 0, 0, 21) else (mx (a + 1) c, c, mx (a + 1) c, 0)) else (0, 0, 0, 6)) := by
  obtain ⟨h1, h2, h3⟩ := h
  have hw : wrap64 (a + 1) = a + 1 := by unfold wrap64; omega
  have hv : clock_valid.f a b = some true := by unfold clock_valid.f; simp [h1, h2, h3]
  unfold clock_Next.f
  rw [hv, instant_f, hw]
  by_cases h4 : 0 ≤ c ∧ c < 1099511627776
  · simp only [Option.bind_some, if_true, decide_eq_true h4, if_pos h4]
    split <;> rfl
  · simp only [Option.bind_some, if_true, decide_eq_false h4, if_neg h4]
    rfl
/-- What Replay answers from a clock and a list of stamps on. -/
def rep : List Int → Int → Int → List S34 → List S34 × Int
  | [], _, _, out => (out, 0)
  | x :: xs, a, b, out => if 0 ≤ x ∧ x < 1099511627776 then (if mx (a + 1) x ≥ 1099511627776 then ([], 21) else rep xs (mx (a + 1) x) x (out ++ [⟨mx (a + 1) x, x⟩])) else ([], 6)
theorem mx_ge (a b : Int) : a ≤ mx a b ∧ b ≤ mx a b := by unfold mx; split <;> omega
theorem replay_ev (l : List Int) (hl : l.length * 8 ≤ 140737488351232) : Ev (fun k => clock_Replay.f k l) (rep l 0 0 []) ∧ Ev (fun k => bitemporalref06_Replay.f k l) (rep l 0 0 []) := by
  have key : ∀ d i a b (out : List S34), l.length - i = d → i ≤ l.length → (0 ≤ b ∧ b ≤ a ∧ a < 1099511627776) → (out.length : Int) ≤ a →
      Ev (fun k => clock_Replay.l0 k out l (l.length : Int) (i : Int) a b) (rep (l.drop i) a b out) ∧ Ev (fun k => bitemporalref06_Replay.l0 k out l (l.length : Int) (i : Int) a b) (rep (l.drop i) a b out) := by
    intro d
    induction d with
    | zero =>
      intro i a b out hd hi _ _
      rw [List.drop_eq_nil_of_le (by omega)]
      refine ⟨Ev.step (f := fun _ => some (out, 0)) (fun k => ?_) (Ev.now _), Ev.step (f := fun _ => some (out, 0)) (fun k => ?_) (Ev.now _)⟩
      · simp only [clock_Replay.l0]
        rw [if_neg (by omega)]
      · simp only [bitemporalref06_Replay.l0]
        rw [if_neg (by omega)]
    | succ d ih =>
      intro i a b out hd hi hab ho
      rw [List.drop_eq_getElem_cons (by omega)]
      obtain ⟨x, hx⟩ : ∃ x, x = l[i]'(by omega) := ⟨_, rfl⟩
      rw [← hx]
      have hrd : rd l (i : Int) = x := by rw [rd_get l i (by omega), hx]
      have hN := next_f a b x hab
      rw [rep]
      by_cases h1 : 0 ≤ x ∧ x < 1099511627776
      · rw [if_pos h1] at hN ⊢
        by_cases h2 : mx (a + 1) x ≥ 1099511627776
        · rw [if_pos h2] at hN ⊢
          refine ⟨Ev.step (f := fun _ => some ([], 21)) (fun k => ?_) (Ev.now _), Ev.step (f := fun _ => some ([], 21)) (fun k => ?_) (Ev.now _)⟩
          · simp only [clock_Replay.l0]
            rw [if_pos (by omega), if_pos (by omega), if_pos (by omega), hrd, hN]
            simp
          · simp only [bitemporalref06_Replay.l0]
            rw [if_pos (by omega), if_pos (by omega), if_pos (by omega), hrd, next_eq, hN]
            simp
        · rw [if_neg h2] at hN ⊢
          have hg := mx_ge (a + 1) x
          obtain ⟨e1, e2⟩ := ih (i + 1) (mx (a + 1) x) x (out ++ [⟨mx (a + 1) x, x⟩]) (by omega) (by omega) ⟨h1.1, hg.2, by omega⟩ (by rw [List.length_append, List.length_singleton]; omega)
          refine ⟨Ev.step (fun k => ?_) e1, Ev.step (fun k => ?_) e2⟩
          · simp only [clock_Replay.l0]
            rw [if_pos (by omega), if_pos (by omega), if_pos (by omega), hrd, hN]
            simp only [Option.bind_some, if_true]
            rw [if_pos (by omega), wrap_up (by omega)]
          · simp only [bitemporalref06_Replay.l0]
            rw [if_pos (by omega), if_pos (by omega), if_pos (by omega), hrd, next_eq, hN]
            simp only [Option.bind_some, if_true]
            rw [if_pos (by omega), wrap_up (by omega)]
      · rw [if_neg h1] at hN ⊢
        refine ⟨Ev.step (f := fun _ => some ([], 6)) (fun k => ?_) (Ev.now _), Ev.step (f := fun _ => some ([], 6)) (fun k => ?_) (Ev.now _)⟩
        · simp only [clock_Replay.l0]
          rw [if_pos (by omega), if_pos (by omega), if_pos (by omega), hrd, hN]
          simp
        · simp only [bitemporalref06_Replay.l0]
          rw [if_pos (by omega), if_pos (by omega), if_pos (by omega), hrd, next_eq, hN]
          simp
  obtain ⟨e1, e2⟩ := key _ 0 0 0 [] rfl (by omega) (by omega) (by simp)
  refine ⟨Ev.congr (fun k => ?_) e1, Ev.congr (fun k => ?_) e2⟩
  · unfold clock_Replay.f
    rw [if_pos (by omega)]
    rfl
  · unfold bitemporalref06_Replay.f
    rfl
/-- The stamps of a run of readings, the last time being 'prev'. -/
def chain (prev : Int) : List Int → List S34 → Prop
  | [], [] => True
  | x :: xs, s :: ss => s.f1 = x ∧ s.f0 = mx (prev + 1) x ∧ 0 ≤ x ∧ x < 1099511627776 ∧ s.f0 < 1099511627776 ∧ chain s.f0 xs ss
  | _, _ => False
theorem rep_chain : ∀ (l : List Int) (a b : Int) (out s : List S34), rep l a b out = (s, 0) → ∃ ss, s = out ++ ss ∧ chain a l ss
  | [], a, b, out, s, h => by
    rw [rep] at h
    exact ⟨[], by rw [List.append_nil]; exact (Prod.mk.inj h).1.symm, trivial⟩
  | x :: xs, a, b, out, s, h => by
    rw [rep] at h
    split at h
    · rename_i h1
      split at h
      · exact absurd (Prod.mk.inj h).2 (by decide)
      · rename_i h2
        obtain ⟨ss, e, hc⟩ := rep_chain xs _ _ _ s h
        exact ⟨⟨mx (a + 1) x, x⟩ :: ss, by rw [e, List.append_assoc]; rfl, rfl, rfl, h1.1, h1.2, by show mx (a + 1) x < _; omega, hc⟩
    · exact absurd (Prod.mk.inj h).2 (by decide)
theorem rep_err : ∀ (l : List Int) (a b : Int) (out : List S34), (rep l a b out).2 ≠ 0 → (rep l a b out).1 = []
  | [], a, b, out, h => absurd rfl h
  | x :: xs, a, b, out, h => by
    rw [rep] at h ⊢
    split
    · rename_i h1
      rw [if_pos h1] at h
      split
      · rfl
      · rename_i h2
        rw [if_neg h2] at h
        exact rep_err xs _ _ _ h
    · rfl
theorem chain_len : ∀ (l : List Int) (s : List S34) (a : Int), chain a l s → s.length = l.length
  | [], [], _, _ => rfl
  | x :: xs, t :: ss, a, h => by
    rw [chain] at h
    rw [List.length_cons, List.length_cons, chain_len xs ss _ h.2.2.2.2.2]
  | [], _ :: _, _, h => absurd h (by simp [chain])
  | _ :: _, [], _, h => absurd h (by simp [chain])
theorem chain_chk : ∀ (l : List Int) (s : List S34) (a : Int), 0 ≤ a → chain a l s → chk a s = 0
  | [], [], _, _, _ => rfl
  | x :: xs, t :: ss, a, h0, h => by
    rw [chain] at h
    obtain ⟨e1, e2, h1, h2, h3, hc⟩ := h
    have hg := mx_ge (a + 1) x
    rw [chk, if_pos ⟨⟨by omega, by omega⟩, by omega, h3⟩, if_neg (by omega), if_pos (by rw [e2, e1])]
    exact chain_chk xs ss _ (by omega) hc
  | [], _ :: _, _, _, h => absurd h (by simp [chain])
  | _ :: _, [], _, _, h => absurd h (by simp [chain])
theorem rep_len (l : List Int) : (rep l 0 0 []).1.length ≤ l.length := by
  by_cases h : (rep l 0 0 []).2 = 0
  · obtain ⟨ss, e, hc⟩ := rep_chain l 0 0 [] (rep l 0 0 []).1 (Prod.ext rfl h)
    rw [e, List.nil_append, chain_len l ss 0 hc]
    exact Nat.le_refl _
  · rw [rep_err l 0 0 [] h]
    simp
theorem replay_law (l : List Int) (hl : l.length * 8 ≤ 140737488351232) : ∃ k, bitemporallaw06_ClockReplay.f k l = some true := by
  have hn := rep_len l
  obtain ⟨⟨K1, h1⟩, K2, h2⟩ := replay_ev l hl
  obtain ⟨K3, h3⟩ := stamps_same (rep l 0 0 []).1 (by omega)
  obtain ⟨K4, h4⟩ := works_ev
  refine ⟨K1 + K2 + K3 + K4, ?_⟩
  have e1 := h1 (K1 + K2 + K3 + K4) (by omega)
  have e2 := h2 (K1 + K2 + K3 + K4) (by omega)
  have e3 := h3 (K1 + K2 + K3 + K4) (by omega)
  have e4 := h4 (K1 + K2 + K3 + K4) (by omega)
  dsimp only at e1 e2 e3
  unfold bitemporallaw06_ClockReplay.f
  rw [e1, e2]
  simp only [Option.bind_some]
  rw [e3, e4]
  simp
theorem order_ev (l : List Int) (s : List S34) (hl : l.length < 4611686018427387904) (hs : chain 0 l s) : Ev (fun k => bitemporallaw06_ClockOrder.l0 k l s true 0 0 (s.length : Int) 0) true := by
  have hlen := chain_len l s 0 hs
  have key : ∀ d i up last wall, l.length - i = d → i ≤ l.length → chain last (l.drop i) (s.drop i) → (up = true → last = wall) → Ev (fun k => bitemporallaw06_ClockOrder.l0 k l s up last wall (s.length : Int) (i : Int)) true := by
    intro d
    induction d with
    | zero =>
      intro i up last wall hd hi _ _
      refine Ev.step (fun k => ?_) works_ev
      simp only [bitemporallaw06_ClockOrder.l0]
      rw [if_neg (by omega)]
      cases bitemporallaw06_works.f k <;> rfl
    | succ d ih =>
      intro i up last wall hd hi hc hu
      rw [List.drop_eq_getElem_cons (by omega), List.drop_eq_getElem_cons (l := s) (by omega), chain] at hc
      have hrd : rd l (i : Int) = l[i]'(by omega) := rd_get l i (by omega)
      have hrs : rd_T34 s (i : Int) = s[i]'(by omega) := rd34_get s i (by omega)
      obtain ⟨x, hx⟩ : ∃ x, x = l[i]'(by omega) := ⟨_, rfl⟩
      obtain ⟨t, ht⟩ : ∃ t, t = s[i]'(by omega) := ⟨_, rfl⟩
      rw [← hx, ← ht] at hc
      rw [← hx] at hrd
      rw [← ht] at hrs
      obtain ⟨e1, e2, h1, h2, h3, hc⟩ := hc
      have hg := mx_ge (last + 1) x
      refine Ev.step (f := fun k => bitemporallaw06_ClockOrder.j1 k l s up wall (i : Int) (s.length : Int) (i : Int) false) (fun k => ?_) ?_
      · simp only [bitemporallaw06_ClockOrder.l0]
        rw [if_pos (by omega), if_pos (by omega), if_pos (by omega), hrs, if_neg (by omega), if_pos (by omega), hrd, if_neg (by omega)]
        have : (t.f1 != x) = false := by rw [e1]; simp
        rw [this]
      · cases up with
        | true =>
          have hlw := hu rfl
          by_cases hgt : x > wall
          · have h4 : t.f0 = x := by rw [e2]; unfold mx; split <;> omega
            refine Ev.step (fun k => ?_) (ih (i + 1) true t.f0 x (by omega) (by omega) hc (fun _ => h4))
            simp only [bitemporallaw06_ClockOrder.j1]
            rw [if_neg (by decide), if_pos trivial, if_pos (by omega), if_pos (by omega), hrd, if_pos hgt, if_pos (by omega), hrs, if_pos h4, decide_eq_true hgt, wrap_up (by omega)]
          · refine Ev.step (fun k => ?_) (ih (i + 1) false t.f0 x (by omega) (by omega) hc (fun h => absurd h (by decide)))
            simp only [bitemporallaw06_ClockOrder.j1]
            rw [if_neg (by decide), if_pos trivial, if_pos (by omega), if_pos (by omega), hrd, if_neg hgt, if_pos (by omega), hrs, decide_eq_false hgt, wrap_up (by omega)]
        | false =>
          refine Ev.step (fun k => ?_) (ih (i + 1) false t.f0 x (by omega) (by omega) hc (fun h => absurd h (by decide)))
          simp only [bitemporallaw06_ClockOrder.j1]
          rw [if_neg (by decide), if_neg (by decide), if_pos (by omega), if_pos (by omega), if_pos (by omega), hrs, hrd, wrap_up (by omega)]
  exact key _ 0 true 0 0 rfl (by omega) hs (fun _ => rfl)
theorem order_law (l : List Int) (hl : l.length * 8 ≤ 140737488351232) : ∃ k, bitemporallaw06_ClockOrder.f k l = some true := by
  obtain ⟨⟨K1, h1⟩, _⟩ := replay_ev l hl
  obtain ⟨K4, h4⟩ := works_ev
  by_cases h : (rep l 0 0 []).2 = 0
  · obtain ⟨ss, e, hc⟩ := rep_chain l 0 0 [] (rep l 0 0 []).1 (Prod.ext rfl h)
    rw [List.nil_append] at e
    rw [← e] at hc
    have hlen := chain_len l _ 0 hc
    obtain ⟨K2, h2⟩ := order_ev l _ (by omega) hc
    refine ⟨K1 + K2 + K4, ?_⟩
    have e1 := h1 (K1 + K2 + K4) (by omega)
    have e2 := h2 (K1 + K2 + K4) (by omega)
    dsimp only at e1 e2
    unfold bitemporallaw06_ClockOrder.f
    rw [e1]
    simp only [Option.bind_some, if_pos h]
    rw [if_pos (by omega), e2]
  · have h0 := rep_err l 0 0 [] h
    refine ⟨K1 + K4, ?_⟩
    have e1 := h1 (K1 + K4) (by omega)
    have e4 := h4 (K1 + K4) (by omega)
    dsimp only at e1
    unfold bitemporallaw06_ClockOrder.f
    rw [e1]
    simp only [Option.bind_some, if_neg h]
    rw [h0, e4]
    simp
/-- One of the periods holds t. -/
def Cov (xs : List S49) (t : Int) : Prop := ∃ (j : Nat) (h : j < xs.length), xs[j].f0 ≤ t ∧ t < xs[j].f1
theorem cov_add {xs : List S49} {p0 p1 t : Int} (h : Cov xs t) (h1 : p0 < p1) : Cov (refAdd xs p0 p1) t := by
  obtain ⟨j, hj, a, b⟩ := h
  unfold refAdd
  cases hx : xs.length with
  | zero => omega
  | succ m =>
    by_cases he : (rd_T49 xs (m : Int)).f1 = p0
    · simp only [if_pos he]
      rw [rd49_get xs m (by omega)] at he ⊢
      by_cases hjm : j = m
      · subst hjm
        refine ⟨j, by simpa using hj, ?_, ?_⟩
        · rw [List.getElem_set_self]; exact a
        · rw [List.getElem_set_self]
          show t < p1
          omega
      · refine ⟨j, by simpa using hj, ?_, ?_⟩
        · rw [List.getElem_set_ne (by omega)]; exact a
        · rw [List.getElem_set_ne (by omega)]; exact b
    · simp only [if_neg he]
      refine ⟨j, by simp; omega, ?_, ?_⟩
      · rw [List.getElem_append_left hj]; exact a
      · rw [List.getElem_append_left hj]; exact b
theorem cov_new {xs : List S49} {p0 p1 t : Int} (he : EndsBy xs p0) (h0 : p0 ≤ t) (h1 : t < p1) : Cov (refAdd xs p0 p1) t := by
  unfold refAdd
  cases hx : xs.length with
  | zero => exact ⟨0, by simp, h0, h1⟩
  | succ m =>
    obtain ⟨a1, a2, a3⟩ := he m hx
    by_cases hf : (rd_T49 xs (m : Int)).f1 = p0
    · simp only [if_pos hf]
      refine ⟨m, by simp; omega, ?_, ?_⟩
      · rw [List.getElem_set_self]
        show (rd_T49 xs (m : Int)).f0 ≤ t
        omega
      · rw [List.getElem_set_self]
        exact h1
    · simp only [if_neg hf]
      refine ⟨xs.length, by simp, ?_, ?_⟩
      · simp; exact h0
      · simp; exact h1
theorem chk_cons {a : Int} {b : S34} {rest : List S34} (hk : chk a (b :: rest) = 0) : 0 ≤ b.f0 ∧ b.f0 < 1099511627776 ∧ a < b.f0 ∧ chk b.f0 rest = 0 := by
  rw [chk] at hk
  split at hk
  · rename_i hb
    split at hk
    · exact absurd hk (by decide)
    · split at hk
      · exact ⟨hb.2.1, hb.2.2, by omega, hk⟩
      · exact absurd hk (by decide)
  · exact absurd hk (by decide)
theorem run_cov (wall t : Int) : ∀ (rest : List S34) (a : S34) (out : List S49), chk a.f0 rest = 0 → 0 ≤ a.f0 → a.f0 < 1099511627776 → EndsBy out a.f0 → Cov out t → Cov (shownRun wall rest a out) t
  | [], a, out, _, h0, h1, he, hc => by
    unfold shownRun
    split
    · rw [add_ref he h0 h1 (by omega)]
      exact cov_add hc h1
    · exact hc
  | b :: rest, a, out, hk, h0, h1, he, hc => by
    obtain ⟨b1, b2, b3, hk2⟩ := chk_cons hk
    unfold shownRun
    split
    · rw [add_ref he h0 b3 (by omega)]
      exact run_cov wall t rest b _ hk2 b1 b2 (add_ends he h0 b3) (cov_add hc b3)
    · exact run_cov wall t rest b _ hk2 b1 b2 (ends_mono he (by omega)) hc
theorem run_own (wall : Int) : ∀ (rest : List S34) (a : S34) (out : List S49), chk a.f0 rest = 0 → 0 ≤ a.f0 → a.f0 < 1099511627776 → EndsBy out a.f0 → a.f1 = wall → Cov (shownRun wall rest a out) a.f0
  | [], a, out, _, h0, h1, he, hw => by
    unfold shownRun
    rw [if_pos (by omega), add_ref he h0 h1 (by omega)]
    exact cov_new he (by omega) h1
  | b :: rest, a, out, hk, h0, h1, he, hw => by
    obtain ⟨b1, b2, b3, hk2⟩ := chk_cons hk
    have hn : shownNow wall a b = true := by
      unfold shownNow
      by_cases h2 : wall ≤ b.f1
      · simp [h2, show a.f1 ≤ wall by omega]
      · simp [h2, show a.f1 ≤ wall by omega, show b.f1 < a.f1 by omega]
    unfold shownRun
    rw [if_pos hn, add_ref he h0 b3 (by omega)]
    exact run_cov wall _ rest b _ hk2 b1 b2 (add_ends he h0 b3) (cov_new he (by omega) b3)
theorem run_each (wall : Int) : ∀ (rest : List S34) (a : S34) (out : List S49), chk a.f0 rest = 0 → 0 ≤ a.f0 → a.f0 < 1099511627776 → EndsBy out a.f0 → ∀ s ∈ rest, s.f1 = wall → Cov (shownRun wall rest a out) s.f0
  | [], a, out, _, h0, h1, he, s, hs, hw => absurd hs (by simp)
  | b :: rest, a, out, hk, h0, h1, he, s, hs, hw => by
    obtain ⟨b1, b2, b3, hk2⟩ := chk_cons hk
    have he2 : EndsBy (if shownNow wall a b = true then addF out a.f0 b.f0 else out) b.f0 := by
      split
      · rw [add_ref he h0 b3 (by omega)]
        exact add_ends he h0 b3
      · exact ends_mono he (by omega)
    unfold shownRun
    rcases List.mem_cons.1 hs with rfl | hs
    · exact run_own wall rest s _ hk2 b1 b2 he2 hw
    · exact run_each wall rest b _ hk2 b1 b2 he2 s hs hw
theorem found_ev (s : List S34) (hl : s.length < 1000) (hk : chk 0 s = 0) (hr : ∀ t ∈ s, 0 ≤ t.f1 ∧ t.f1 < 1099511627776) : Ev (fun k => bitemporallaw06_ClockFound.l0 k s (s.length : Int) 0) true := by
  have inner : ∀ (i : Nat) (ps : List S49), i < s.length → ps.length < 1000000 → (Ev (fun k => bitemporallaw06_ClockFound.l0 k s (s.length : Int) ((i + 1 : Nat) : Int)) true) →
      ∀ d j fnd, ps.length - j = d → j ≤ ps.length → (fnd = true ∨ ∃ (q : Nat) (h : q < ps.length), j ≤ q ∧ ps[q].f0 ≤ (rd_T34 s (i : Int)).f0 ∧ (rd_T34 s (i : Int)).f0 < ps[q].f1) →
      Ev (fun k => bitemporallaw06_ClockFound.l1 k s (i : Int) fnd (s.length : Int) (i : Int) ps (ps.length : Int) (j : Int)) true := by
    intro i ps hi hp hnext d
    induction d with
    | zero =>
      intro j fnd hd hj hf
      have hft : fnd = true := by
        rcases hf with h | ⟨q, hq, hjq, _⟩
        · exact h
        · omega
      subst hft
      refine Ev.step (fun k => ?_) hnext
      simp only [bitemporallaw06_ClockFound.l1]
      rw [if_neg (by omega), if_pos trivial, wrap_up (by omega)]
    | succ d ih =>
      intro j fnd hd hj hf
      have hrp : rd_T49 ps (j : Int) = ps[j]'(by omega) := rd49_get ps j (by omega)
      cases fnd with
      | true =>
        refine Ev.step (fun k => ?_) (ih (j + 1) true (by omega) (by omega) (.inl rfl))
        simp only [bitemporallaw06_ClockFound.l1]
        rw [if_pos (by omega), if_pos (by omega), if_pos (by omega), if_pos trivial, wrap_up (by omega)]
      | false =>
        obtain ⟨q, hq, hjq, a, b⟩ : ∃ (q : Nat) (h : q < ps.length), j ≤ q ∧ ps[q].f0 ≤ (rd_T34 s (i : Int)).f0 ∧ (rd_T34 s (i : Int)).f0 < ps[q].f1 := by
          rcases hf with h | h
          · exact absurd h (by decide)
          · exact h
        by_cases hle : (rd_T49 ps (j : Int)).f0 ≤ (rd_T34 s (i : Int)).f0
        · have hh : decide ((rd_T34 s (i : Int)).f0 < (rd_T49 ps (j : Int)).f1) = true ∨ ∃ (q : Nat) (h : q < ps.length), j + 1 ≤ q ∧ ps[q].f0 ≤ (rd_T34 s (i : Int)).f0 ∧ (rd_T34 s (i : Int)).f0 < ps[q].f1 := by
            by_cases hjq2 : j = q
            · subst hjq2
              exact .inl (by rw [hrp]; exact decide_eq_true b)
            · exact .inr ⟨q, hq, by omega, a, b⟩
          refine Ev.step (fun k => ?_) (ih (j + 1) _ (by omega) (by omega) hh)
          simp only [bitemporallaw06_ClockFound.l1]
          rw [if_pos (by omega), if_pos (by omega), if_pos (by omega), if_neg (by decide), if_pos (by omega), if_pos (by omega), if_pos hle, wrap_up (by omega)]
        · have hne : j ≠ q := by
            intro he
            subst he
            rw [hrp] at hle
            exact hle a
          refine Ev.step (fun k => ?_) (ih (j + 1) false (by omega) (by omega) (.inr ⟨q, hq, by omega, a, b⟩))
          simp only [bitemporallaw06_ClockFound.l1]
          rw [if_pos (by omega), if_pos (by omega), if_pos (by omega), if_neg (by decide), if_pos (by omega), if_pos (by omega), if_neg hle, wrap_up (by omega)]
  have key : ∀ d i, s.length - i = d → i ≤ s.length → Ev (fun k => bitemporallaw06_ClockFound.l0 k s (s.length : Int) (i : Int)) true := by
    intro d
    induction d with
    | zero =>
      intro i hd hi
      refine Ev.step (fun k => ?_) works_ev
      simp only [bitemporallaw06_ClockFound.l0]
      rw [if_neg (by omega)]
      cases bitemporallaw06_works.f k <;> rfl
    | succ d ih =>
      intro i hd hi
      have hrs : rd_T34 s (i : Int) = s[i]'(by omega) := rd34_get s i (by omega)
      have hmem : rd_T34 s (i : Int) ∈ s := by rw [hrs]; exact List.getElem_mem _
      obtain ⟨w1, w2⟩ := hr _ hmem
      have hsh := shown_ev s (rd_T34 s (i : Int)).f1 (by omega)
      have hlen := shownL_len s (rd_T34 s (i : Int)).f1
      have hcov : Cov (shownL s (rd_T34 s (i : Int)).f1) (rd_T34 s (i : Int)).f0 := by
        unfold shownL
        rw [if_pos hk, if_pos ⟨w1, w2⟩]
        exact run_each _ s ⟨0, 0⟩ [] hk (by decide) (by decide) (fun m hm => by simp at hm) _ hmem rfl
      obtain ⟨q, hq, a, b⟩ := hcov
      have h1 := inner i (shownL s (rd_T34 s (i : Int)).f1) (by omega) (by omega) (ih (i + 1) (by omega) (by omega)) _ 0 false rfl (by omega) (.inr ⟨q, hq, by omega, a, b⟩)
      refine Ev.step (fun k => ?_) (Ev.bind (f := fun k p => bitemporallaw06_ClockFound.l1 k s (i : Int) false (s.length : Int) (i : Int) p (p.length : Int) 0) hsh h1)
      simp only [bitemporallaw06_ClockFound.l0]
      rw [if_pos (by omega), if_pos (by omega), if_pos (by omega)]
  exact key _ 0 rfl (by omega)
theorem chain_range : ∀ (l : List Int) (s : List S34) (a : Int), chain a l s → ∀ t ∈ s, 0 ≤ t.f1 ∧ t.f1 < 1099511627776
  | [], [], _, _, t, ht => absurd ht (by simp)
  | x :: xs, b :: ss, a, h, t, ht => by
    rw [chain] at h
    obtain ⟨e1, e2, h1, h2, h3, hc⟩ := h
    rcases List.mem_cons.1 ht with rfl | ht
    · exact ⟨by omega, by omega⟩
    · exact chain_range xs ss _ hc t ht
  | [], _ :: _, _, h, _, _ => absurd h (by simp [chain])
  | _ :: _, [], _, h, _, _ => absurd h (by simp [chain])
theorem found_works (s : List S34) : Ev (fun k => bitemporallaw06_ClockFound.j0 k s true) true := by
  refine Ev.step (fun k => ?_) works_ev
  simp only [bitemporallaw06_ClockFound.j0]
  rw [if_pos trivial]
  cases bitemporallaw06_works.f k <;> rfl
theorem found_law (l : List Int) (hl : l.length * 8 ≤ 140737488351232) : ∃ k, bitemporallaw06_ClockFound.f k l = some true := by
  obtain ⟨⟨K1, h1⟩, _⟩ := replay_ev l hl
  by_cases h : (rep l 0 0 []).2 = 0
  · obtain ⟨ss, e, hc⟩ := rep_chain l 0 0 [] (rep l 0 0 []).1 (Prod.ext rfl h)
    rw [List.nil_append] at e
    rw [← e] at hc
    have hlen := chain_len l _ 0 hc
    by_cases hs : l.length > 60
    · obtain ⟨K2, h2⟩ := found_works (rep l 0 0 []).1
      refine ⟨K1 + K2, ?_⟩
      have e1 := h1 (K1 + K2) (by omega)
      have e2 := h2 (K1 + K2) (by omega)
      dsimp only at e1 e2
      unfold bitemporallaw06_ClockFound.f
      rw [e1]
      simp only [Option.bind_some, if_pos h]
      rw [decide_eq_true (by omega), e2]
    · have hk := chain_chk l _ 0 (by omega) hc
      have hf := found_ev _ (by omega) hk (chain_range l _ 0 hc)
      have hj : Ev (fun k => bitemporallaw06_ClockFound.j0 k (rep l 0 0 []).1 false) true := by
        refine Ev.step (fun k => ?_) (Ev.bind (f := fun k t => if t = 0 then bitemporallaw06_ClockFound.l0 k (rep l 0 0 []).1 ((rep l 0 0 []).1.length : Int) 0 else some false) (check_ev (rep l 0 0 []).1 (by omega)) ?_)
        · simp only [bitemporallaw06_ClockFound.j0]
          rw [if_neg (by decide)]
        · rw [hk]
          simpa using hf
      obtain ⟨K2, h2⟩ := hj
      refine ⟨K1 + K2, ?_⟩
      have e1 := h1 (K1 + K2) (by omega)
      have e2 := h2 (K1 + K2) (by omega)
      dsimp only at e1 e2
      unfold bitemporallaw06_ClockFound.f
      rw [e1]
      simp only [Option.bind_some, if_pos h]
      rw [decide_eq_false (by omega), e2]
  · obtain ⟨K2, h2⟩ := found_works (rep l 0 0 []).1
    refine ⟨K1 + K2, ?_⟩
    have e1 := h1 (K1 + K2) (by omega)
    have e2 := h2 (K1 + K2) (by omega)
    dsimp only at e1 e2
    unfold bitemporallaw06_ClockFound.f
    rw [e1]
    simp only [Option.bind_some, if_neg h]
    rw [e2]
end Go.Proofs.Ytaipdnlfhhadjaa.C
