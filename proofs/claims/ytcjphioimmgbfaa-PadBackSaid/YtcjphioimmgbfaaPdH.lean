/- PadFinds: the plain law. Going down, the last hit found is the first one going up. -/
import Derived.Test.YtcjphioimmgbfaaPdG
namespace Go.Proofs.Ytcjphioimmgbfaa.Tra
open Go.RowKit Go.Proofs.YtcjphioimmgbfaaW.PrintWords Go.Proofs.YtcjphioimmgbfaaW.PrintLast Go.Proofs.YtcjphioimmgbfaaW.PrintMore
set_option linter.unusedVariables false
set_option linter.unusedSimpArgs false

/-- at_ is the first place from lo on, below n, where b has c; fd: whether there is one (else at_ is b's length). -/
def First (b : List Int) (c lo : Int) (n : Nat) (at_ : Nat) (fd : Bool) : Prop :=
  (fd = true → at_ < n ∧ lo ≤ (at_ : Int) ∧ rd b (at_ : Int) = c ∧ ∀ j : Nat, lo ≤ (j : Int) → j < at_ → rd b (j : Int) ≠ c) ∧
  (fd = false → at_ = b.length ∧ ∀ j : Nat, lo ≤ (j : Int) → j < n → rd b (j : Int) ≠ c)
theorem First.unique {b : List Int} {c lo : Int} {n x y : Nat} {p q : Bool} (h : First b c lo n x p) (k : First b c lo n y q) : x = y ∧ p = q := by
  cases p <;> cases q
  · exact ⟨(h.2 rfl).1.trans (k.2 rfl).1.symm, rfl⟩
  · obtain ⟨k1, k2, k3, _⟩ := k.1 rfl
    exact absurd k3 ((h.2 rfl).2 y k2 k1)
  · obtain ⟨k1, k2, k3, _⟩ := h.1 rfl
    exact absurd k3 ((k.2 rfl).2 x k2 k1)
  · obtain ⟨h1, h2, h3, h4⟩ := h.1 rfl
    obtain ⟨k1, k2, k3, k4⟩ := k.1 rfl
    refine ⟨?_, rfl⟩
    rcases Nat.lt_trichotomy x y with g | g | g
    · exact absurd h3 (k4 x h2 g)
    · exact g
    · exact absurd k3 (h4 y k2 g)
theorem fnd_First (b : List Int) (c m : Int) : ∀ i : Nat, First b c m i (fnd b c m i).1 (fnd b c m i).2
  | 0 => ⟨fun h => by simp [fnd] at h, fun _ => ⟨rfl, fun j _ hj => by omega⟩⟩
  | i + 1 => by
    have ih := fnd_First b c m i
    show First b c m (i + 1) (if hit b c m i (fnd b c m i).2 then i else (fnd b c m i).1) ((fnd b c m i).2 || hit b c m i (fnd b c m i).2)
    generalize (fnd b c m i).1 = x at ih
    generalize (fnd b c m i).2 = p at ih
    cases p
    · obtain ⟨h1, h2⟩ := ih.2 rfl
      by_cases hh : hit b c m i false = true
      · rw [hh]
        have h3 : rd b (i : Int) = c ∧ ¬ (i : Int) < m := by
          unfold hit at hh
          simpa using hh
        exact ⟨fun _ => ⟨by simp, by simp; omega, by simpa using h3.1, fun j hj hji => h2 j hj (by simpa using hji)⟩, fun h => by simp at h⟩
      · have hf : hit b c m i false = false := by simpa using hh
        rw [hf]
        refine ⟨fun h => by simp at h, fun _ => ⟨by simpa using h1, fun j hj hji => ?_⟩⟩
        rcases Nat.lt_succ_iff_lt_or_eq.1 hji with g | rfl
        · exact h2 j hj g
        · intro e
          apply hh
          unfold hit
          have : ¬ (j : Int) < m := by omega
          simp [e, this]
    · obtain ⟨h1, h2, h3, h4⟩ := ih.1 rfl
      have hf : hit b c m i true = false := by simp [hit]
      rw [hf]
      exact ⟨fun _ => ⟨by simp; omega, by simpa using h2, by simpa using h3, fun j hj hji => h4 j hj (by simpa using hji)⟩, fun h => by simp at h⟩
end Go.Proofs.Ytcjphioimmgbfaa.Tra
