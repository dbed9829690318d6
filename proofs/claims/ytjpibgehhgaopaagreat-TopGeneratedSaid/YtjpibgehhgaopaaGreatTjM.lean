/- The plain law: what a key's numbers are; what a shorter script comes to. -/
import Derived.Test.YtjpibgehhgaopaaGreatZ46
namespace Go.Proofs.YtjpibgehhgaopaaGreat.Top
open Go.RowKit Go.Proofs.YtjpibgehhgaopaaGreatW.PrintWords Go.Proofs.YtjpibgehhgaopaaGreatW.PrintLast Go.Proofs.YtjpibgehhgaopaaGreat.PTopGenerated
set_option linter.unusedVariables false
set_option linter.unusedSimpArgs false

theorem mul_bounds {p q : Nat} (hp : 13835058055282163712 ≤ p) (hq : 13835058055282163712 ≤ q) (hp2 : p < 18446744073709551616) (hq2 : q < 18446744073709551616) : 170141183460469231731687303715884105728 ≤ p * q ∧ p * q < 340282366920938463463374607431768211456 := by
  constructor
  · exact Nat.le_trans (by decide) (Nat.mul_le_mul hp hq)
  · exact Nat.lt_of_le_of_lt (Nat.mul_le_mul (Nat.le_sub_one_of_lt hp2) (Nat.le_sub_one_of_lt hq2)) (by decide)
/-- The modulus in two words, the upper one's top bit set. -/
theorem lw_two {N : Nat} (h1 : 170141183460469231731687303715884105728 ≤ N) (h2 : N < 340282366920938463463374607431768211456) : ∃ lo hi, lw N = [lo, hi] ∧ 9223372036854775808 ≤ hi ∧ hi < 18446744073709551616 := by
  have hb : bl N = 128 := bl_unique (k := 127) (by rw [show (2 : Nat) ^ 127 = 170141183460469231731687303715884105728 by decide]; exact h1) (by rw [show (2 : Nat) ^ (127 + 1) = 340282366920938463463374607431768211456 by decide]; exact h2)
  have hw : wl N = 2 := by unfold wl; rw [hb]
  have hl : lw N = digs 2 N := by unfold lw; rw [hw]; rfl
  refine ⟨N % 18446744073709551616, N / 18446744073709551616 % 18446744073709551616, by rw [hl]; rfl, by omega, by omega⟩
theorem bl_64 {p : Nat} (hp : 13835058055282163712 ≤ p) (hp2 : p < 18446744073709551616) : bl p = 64 :=
  bl_unique (k := 63) (by rw [show (2 : Nat) ^ 63 = 9223372036854775808 by decide]; omega) (by rw [show (2 : Nat) ^ (63 + 1) = 18446744073709551616 by decide]; exact hp2)
theorem bad_good {b k : Int} {e : Nat} (h1 : BadP b k e) (h2 : GoodP b k e) : False := by
  obtain ⟨rfl, h3, h4, h5, h6, h7⟩ := h2
  unfold BadP at h1
  rw [and_oneN e (by omega), h4] at h1
  rcases h1 with h | h | h | h | h | h | h | h
  · exact absurd h (by decide)
  · exact absurd h (by decide)
  · exact absurd h (by decide)
  · rw [decide_eq_true_eq] at h; omega
  · exact absurd h (by decide)
  · rw [decide_eq_true_eq] at h; omega
  · rw [decide_eq_true_eq] at h; omega
  · rw [decide_eq_true_eq] at h; omega
/-- The first answer, taken apart. -/
theorem genQ_ok {e k : Nat} {bits rounds : Int} {bs : List Int} {cs : Array Value} {x : Int} {W : World} (h : GenQ e k bits rounds (wordsOf bs) cs x W) :
    (x ≠ 0 ∧ cs = zeroKey) ∨ (x = 0 ∧ bits = 128 ∧ GoodP bits rounds e ∧ ∃ p q r, pairW e k (wordsOf bs) = some (p, q, r) ∧ Nat.gcd p q = 1 ∧ KeyC W cs (keyF p q e) ∧ MadeA p q e ∧ passF p = true ∧ passF q = true ∧ 13835058055282163712 ≤ p ∧ 13835058055282163712 ≤ q) := by
  rcases h with ⟨_, h1, rfl⟩ | ⟨hg, _, ⟨_, h1, rfl⟩ | ⟨p, q, r, hp, ⟨_, h1, rfl⟩ | ⟨h1, h2, h3⟩⟩⟩
  · exact .inl ⟨by omega, h1⟩
  · exact .inl ⟨by omega, h1⟩
  · exact .inl ⟨by omega, h1⟩
  · obtain ⟨g1, g2, g3, g4, g5, g6⟩ := hg
    obtain ⟨m1, m2, m3, m4, m5, m6⟩ := pairW_made (wordsOf_lt _) hp g2 g3 g4
    exact .inr ⟨h2, g1, ⟨g1, g2, g3, g4, g5, g6⟩, p, q, r, hp, h1, h3, m1, m2, m3, m5, m6⟩
/-- A shorter script: spent, or the same key. -/
theorem genQ_cut {e k c : Nat} {bits rounds : Int} {bs : List Int} {cs : Array Value} {x : Int} {W : World} {p q : Nat} {r : List Nat} (hg : GoodP bits rounds e) (hp : pairW e k (wordsOf bs) = some (p, q, r)) (hgcd : Nat.gcd p q = 1)
    (h : GenQ e k bits rounds (wordsOf (bs.take c)) cs x W) : x = 150 ∨ (x = 0 ∧ KeyC W cs (keyF p q e)) := by
  rcases h with ⟨hb, _, _⟩ | ⟨_, _, ⟨_, _, rfl⟩ | ⟨p', q', r', hp', h2⟩⟩
  · exact (bad_good hb hg).elim
  · exact .inl rfl
  · obtain ⟨t, ht⟩ := wordsOf_take c bs
    have h3 := pairW_more t hp'
    rw [← ht, hp] at h3
    injection h3 with h3
    injection h3 with h4 h5
    injection h5 with h5 _
    subst h4
    subst h5
    rcases h2 with ⟨h6, _⟩ | ⟨_, h7, h8⟩
    · exact absurd hgcd h6
    · exact .inr ⟨h7, h8⟩
/-- Two keys of the same numbers. -/
theorem keyC_same {W : World} {x1 y1 : Int} {p0 p2 p3 p4 p5 p6 p7 q0 q2 q3 q4 q5 q6 q7 : Option Addr × Nat × Nat} {k : KeyN} (hn : k.n < 18446744073709551616 ^ 2)
    (h1 : KeyC W #[.slice p0.1 p0.2.1 p0.2.2, .int .u64 x1, .slice p2.1 p2.2.1 p2.2.2, .slice p3.1 p3.2.1 p3.2.2, .slice p4.1 p4.2.1 p4.2.2, .slice p5.1 p5.2.1 p5.2.2, .slice p6.1 p6.2.1 p6.2.2, .slice p7.1 p7.2.1 p7.2.2] k)
    (h2 : KeyC W #[.slice q0.1 q0.2.1 q0.2.2, .int .u64 y1, .slice q2.1 q2.2.1 q2.2.2, .slice q3.1 q3.2.1 q3.2.2, .slice q4.1 q4.2.1 q4.2.2, .slice q5.1 q5.2.1 q5.2.2, .slice q6.1 q6.2.1 q6.2.2, .slice q7.1 q7.2.1 q7.2.2] k) :
    x1 = y1 ∧ SameK W p0 q0 ∧ SameK W p2 q2 ∧ SameK W p3 q3 ∧ SameK W p4 q4 ∧ SameK W p5 q5 ∧ SameK W p6 q6 ∧ SameK W p7 q7 := by
  obtain ⟨n, AN, cN, AD, cD, AP, cP, AQ, cQ, A5, c5, A6, c6, A7, c7, e1, hl, a1, a2, a3, a4, a5, a6, a7⟩ := h1.has
  obtain ⟨n', AN', cN', AD', cD', AP', cP', AQ', cQ', A5', c5', A6', c6', A7', c7', e2, hl', b1, b2, b3, b4, b5, b6, b7⟩ := h2.has
  simp at e1 e2
  obtain ⟨⟨r1, r2, r3⟩, rfl, ⟨s1, s2, s3⟩, ⟨t1, t2, t3⟩, ⟨u1, u2, u3⟩, ⟨v1, v2, v3⟩, ⟨w1, w2, w3⟩, ⟨z1, z2, z3⟩⟩ := e1
  obtain ⟨⟨r1', r2', r3'⟩, rfl, ⟨s1', s2', s3'⟩, ⟨t1', t2', t3'⟩, ⟨u1', u2', u3'⟩, ⟨v1', v2', v3'⟩, ⟨w1', w2', w3'⟩, ⟨z1', z2', z3'⟩⟩ := e2
  have hnl : (lw k.n).length ≤ 1000 := by
    rw [lw_len]
    have := wl_le (n := 2) hn
    omega
  subst hl
  subst hl'
  refine ⟨rfl, ⟨lw k.n, hnl, r2, r2', by rw [r1, r3]; exact a1, by rw [r1', r3']; exact b1⟩, ⟨digs (lw k.n).length k.d, by rw [digs_length]; exact hnl, by rw [digs_length]; exact s2, by rw [digs_length]; exact s2', by rw [s1, s3]; exact a2, by rw [s1', s3']; exact b2⟩,
    ⟨[k.p], by simp, t2, t2', by rw [t1, t3]; exact a3, by rw [t1', t3']; exact b3⟩, ⟨[k.q], by simp, u2, u2', by rw [u1, u3]; exact a4, by rw [u1', u3']; exact b4⟩, ⟨[k.dp], by simp, v2, v2', by rw [v1, v3]; exact a5, by rw [v1', v3']; exact b5⟩, ⟨[k.dq], by simp, w2, w2', by rw [w1, w3]; exact a6, by rw [w1', w3']; exact b6⟩, ⟨[k.qi], by simp, z2, z2', by rw [z1, z3]; exact a7, by rw [z1', z3']; exact b7⟩⟩
theorem sameK_nil (W : World) : SameK W (none, 0, 0) (none, 0, 0) := ⟨[], by simp, rfl, rfl, num_nil _ _, num_nil _ _⟩
end Go.Proofs.YtjpibgehhgaopaaGreat.Top
