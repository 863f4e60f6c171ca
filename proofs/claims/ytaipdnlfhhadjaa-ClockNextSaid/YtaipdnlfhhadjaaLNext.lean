/-
  The plain law behind ClockNext: Next and Behind answer as the reference's, for every clock and every reading.
-/
import Derived.Test.YtaipdnlfhhadjaaLWorks
import Derived.Test.YtaipdnlfhhadjaaCx7
namespace Go.Proofs.Ytaipdnlfhhadjaa.C
open Go.RowKit Go.Proofs.YtaipdnlfhhadjaaW.PrintWords Go.Proofs.YtaipdnlfhhadjaaW.PrintLast Go.Proofs.YtaipdnlfhhadjaaW.PrintMore

theorem bnd {a : Int} (h : (Lit.int .i64 a).wf = true) : -9223372036854775808 ≤ a ∧ a ≤ 9223372036854775807 := by
  simpa [Lit.wf, IntKind.min, IntKind.max, IntKind.signed, IntKind.bits] using h

theorem next_eq (a b c : Int) : bitemporalref06_Next.f a b c = clock_Next.f a b c := by
  unfold bitemporalref06_Next.f clock_Next.f bitemporalref06_Valid.f bitemporalref06_Reading.f clock_valid.f clock_instant.f
  rfl
theorem next_some (a b c : Int) : ∃ r, clock_Next.f a b c = some r := by
  unfold clock_Next.f clock_valid.f clock_instant.f
  repeat' first | split | (simp only [Option.bind_some]) | exact ⟨_, rfl⟩
theorem behind_eq (a b c : Int) (ha : (Lit.int .i64 a).wf = true) (hc : (Lit.int .i64 c).wf = true) : ∃ r, clock_Behind.f a b c = some r ∧ bitemporalref06_Behind.f a b c = some r := by
  have h1 := bnd ha
  have h2 := bnd hc
  unfold clock_Behind.f bitemporalref06_Behind.f bitemporalref06_Valid.f bitemporalref06_Reading.f clock_valid.f clock_instant.f
  by_cases h3 : b ≥ 0
  · by_cases h4 : b ≤ a
    · by_cases h5 : a < 1099511627776
      · by_cases h6 : c ≥ 0
        · by_cases h7 : c < 1099511627776
          · have hw : wrap64 (a - c) = a - c := by unfold wrap64; omega
            by_cases h8 : c ≥ a
            · refine ⟨0, by simp [h3, h4, h5, h6, h7, h8], ?_⟩
              have : mx 0 (a - c) = 0 := by unfold mx; rw [if_neg (by omega)]
              simp [h3, h4, h5, h6, h7, hw, this]
            · refine ⟨a - c, by simp [h3, h4, h5, h6, h7, h8, hw], ?_⟩
              have : mx 0 (a - c) = a - c := by unfold mx; rw [if_pos (by omega)]
              simp [h3, h4, h5, h6, h7, hw, this]
          · exact ⟨0, by simp [h3, h4, h5, h6, h7], by simp [h3, h4, h5, h6, h7]⟩
        · exact ⟨0, by simp [h3, h4, h5, h6], by simp [h3, h4, h5, h6]⟩
      · exact ⟨0, by simp [h3, h4, h5], by simp [h3, h4, h5]⟩
    · exact ⟨0, by simp [h3, h4], by simp [h3, h4]⟩
  · exact ⟨0, by simp [h3], by simp [h3]⟩

theorem next_law (a b c : Int) (ha : (Lit.int .i64 a).wf = true) (_hb : (Lit.int .i64 b).wf = true) (hc : (Lit.int .i64 c).wf = true) : ∃ k, bitemporallaw06_ClockNext.f k a b c = some true := by
  obtain ⟨k, h⟩ := Ev.rounds works_ev
  refine ⟨k, ?_⟩
  obtain ⟨⟨r1, r2, r3, r4⟩, hr⟩ := next_some a b c
  obtain ⟨t, ht, hu⟩ := behind_eq a b c ha hc
  unfold bitemporallaw06_ClockNext.f
  rw [next_eq, hr, ht, hu, h]
  simp
end Go.Proofs.Ytaipdnlfhhadjaa.C
