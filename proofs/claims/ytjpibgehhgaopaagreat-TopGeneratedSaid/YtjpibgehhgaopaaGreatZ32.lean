/- keygen's Generate, of 128 bits. -/
import Derived.Test.YtjpibgehhgaopaaGreatZ31
namespace Go.Proofs.YtjpibgehhgaopaaGreat.Top
open Go.RowKit Go.Proofs.YtjpibgehhgaopaaGreatW.PrintWords Go.Proofs.YtjpibgehhgaopaaGreatW.PrintLast Go.Proofs.YtjpibgehhgaopaaGreat.PTopGenerated
set_option linter.unusedVariables false
set_option linter.unusedSimpArgs false

/-- What Generate comes to. -/
def GenP (w : World) (sb e k : Nat) (ws : List Nat) (en : Ending) (w' : World) : Prop :=
  (pairW e k ws = none ∧ en = .returned (.tuple #[.agg zeroKey, .int .i64 150]) ∧ SW w' sb [] ∧ But sb w w') ∨
  (∃ p q r, pairW e k ws = some (p, q, r) ∧ SW w' sb r ∧ But sb w w' ∧ ((Nat.gcd p q ≠ 1 ∧ en = .returned (.tuple #[.agg zeroKey, .int .i64 190])) ∨ (Nat.gcd p q = 1 ∧ ∃ cs, en = .returned (.tuple #[.agg cs, .int .i64 0]) ∧ KeyC w' cs (keyF p q e))))
theorem results_gen {tmps : Array Value} {w : World} {b6 : Nat} {cs : Array Value} {x : Value} (h8 : cs.size = 8) (h6 : tmps.getD 8 undef = .pointer (some ⟨b6, 0, none⟩)) (h7 : tmps.getD 9 undef = x)
    (hk : w.heap[b6]? = some (.cells cs 28 (0, 0))) : (results Tryz.f37 tmps).run Tryz.prog w = .ok (.tuple #[.agg cs, x]) w := by
  have h6' : tmps[8]?.getD undef = .pointer (some ⟨b6, 0, none⟩) := by simpa using h6
  have h7' : tmps[9]?.getD undef = x := by simpa using h7
  have hr := run_loadVar_row (P := Tryz.prog) w b6 28 28 cs (0, 0) _ hk Tryz.underlying28 rfl (by rw [h8]; exact size28)
  simp [results, Tryz.f37, h6', h7', asAddr, hr]
set_option maxHeartbeats 1000000 in
set_option maxRecDepth 100000 in
theorem genN (w : World) (sb e k : Nat) (ws : List Nat) (hs : SW w sb ws) (hw : ∀ x ∈ ws, x < 18446744073709551616) (he3 : 3 ≤ e) (heo : e % 2 = 1) (he2 : e < 4294967296) (hk1 : 1 ≤ k) (hk : k ≤ 100) :
    Calls Tryz.prog 37 #[.pointer (some ⟨sb, 0, none⟩), .int .i64 128, .int .u64 (e : Int), .int .i64 (k : Int)] w (GenP w sb e k ws) := by
  have HF0 := Aside0.mk ((Fs.nil w hs.lt).alloc (.cells zeroKey 28))
  simp only [List.nil_append] at HF0
  have HP := Aside0.mk (pairN _ sb e k ws (hs.below (below_alloc (Below.refl _ w) (.cells zeroKey 28))) he3 heo he2 hk1 hk)
  have HM := Aside0.mk (fun (p q : Nat) (r : List Nat) (h : pairW e k ws = some (p, q, r)) => pairW_made hw h he3 heo he2)
  clear hs hw he3 heo he2 hk1 hk
  go_enter Tryz.func37, Tryz.ntmps37
  go_wp2_with fail
  refine HP.out.mono ?_
  intro en w1 hp
  rcases hp with ⟨p, q, r, A1, c1, A2, c2, hpw, rfl, h1, h2, hsw, hbt⟩ | ⟨hpw, rfl, hsw, hbt⟩
  · have HF1 := Aside0.mk (HF0.out.script hbt)
    have HOf := Aside0.mk (ofK A1 A2 c1 c2 p q e w1 h1 h2 (HM.out _ _ _ hpw).1)
    have HE := Aside0.mk (And.intro hpw hsw)
    clear hpw h1 h2 hsw hbt HP
    go_wp2_with fail
    refine HOf.out.mono ?_
    intro x w2 hx
    rcases hx with ⟨hg, rfl, hb⟩ | ⟨hg, cs, rfl, hkc, hb⟩
    · have HF2 := Aside0.mk (HF1.out.mv hb)
      have hold := HF2.out.at 0 rfl
      have HS2 := Aside0.mk ((HE.out.2.below hb).kb (Kb.row hold (by decide) zeroKey))
      have HF3 := Aside0.mk (HF2.out.row 0 rfl zeroKey)
      clear hb
      go_wp2_with (refine wpList_store_row rfl 28 (.tmp 8) (.tmp 30) rfl w.heap.size zeroKey rfl rfl 28 _ hold size28 rfl zero_one ?_)
      refine bodyPost_ret (results_gen rfl rfl rfl (HF3.out.at 0 rfl)) rfl ?_
      exact .inr ⟨p, q, r, HE.out.1, HS2.out, HF3.out.bel, .inl ⟨hg, rfl⟩⟩
    · obtain ⟨h8, ho⟩ := hkc.cells
      have HF2 := Aside0.mk (HF1.out.mv hb)
      have hold := HF2.out.at 0 rfl
      have HS2 := Aside0.mk (And.intro ((HE.out.2.below hb).kb (Kb.row hold (by decide) cs)) (hkc.kp (Kp.row hold (by decide) cs)))
      have HF3 := Aside0.mk (HF2.out.row 0 rfl cs)
      have H8 := Aside0.mk (And.intro h8 ho)
      clear hb hkc h8 ho
      go_wp2_with (refine wpList_store_row rfl 28 (.tmp 8) (.tmp 30) rfl w.heap.size cs rfl rfl 28 _ hold (by rw [H8.out.1]; exact size28) H8.out.1.symm H8.out.2 ?_)
      refine bodyPost_ret (results_gen H8.out.1 rfl rfl (HF3.out.at 0 rfl)) rfl ?_
      exact .inr ⟨p, q, r, HE.out.1, HS2.out.1, HF3.out.bel, .inr ⟨hg, cs, rfl, HS2.out.2⟩⟩
  · have HF1 := Aside0.mk (HF0.out.script hbt)
    have hold := HF1.out.at 0 rfl
    have HE := Aside0.mk (And.intro hpw (hsw.kb (Kb.row hold (by decide) zeroKey)))
    have HF3 := Aside0.mk (HF1.out.row 0 rfl zeroKey)
    clear hpw hsw hbt HP
    go_wp2_with (refine wpList_store_row rfl 28 (.tmp 8) (.tmp 24) rfl w.heap.size zeroKey rfl rfl 28 _ hold size28 rfl zero_one ?_)
    refine bodyPost_ret (results_gen rfl rfl rfl (HF3.out.at 0 rfl)) rfl ?_
    exact .inl ⟨HE.out.1, rfl, HE.out.2, HF3.out.bel⟩
end Go.Proofs.YtjpibgehhgaopaaGreat.Top
/- Words and their prefixes, plain. -/
namespace Go.Proofs.YtjpibgehhgaopaaGreat.Top
open Go.RowKit
set_option linter.unusedVariables false
set_option linter.unusedSimpArgs false

theorem wordsOf_lt (l : List Int) : ∀ x ∈ wordsOf l, x < 18446744073709551616 := by
  rw [wordsOf]
  split
  · intro x hx
    rcases List.mem_cons.1 hx with rfl | hx
    · exact wordOf_lt _
    · exact wordsOf_lt (l.drop 8) x hx
  · intro x hx
    cases hx
  termination_by l.length
  decreasing_by simp; omega
theorem SW.words {w : World} {sb : Nat} {ws : List Nat} (h : SW w sb ws) : ∀ x ∈ ws, x < 18446744073709551616 := by
  obtain ⟨bs, i, _, rfl⟩ := h
  exact wordsOf_lt _
/-- More words behind change nothing. -/
theorem roundsW_more {M : Nat} (t : List Nat) (ws : List Nat) : ∀ (n : Nat) (b : Bool) (r : List Nat), roundsW M n ws = some (b, r) → roundsW M n (ws ++ t) = some (b, r ++ t) := by
  induction ws with
  | nil =>
    intro n b r h
    cases n with
    | zero =>
      rw [roundsW] at h
      injection h with h
      injection h with h1 h2
      subst h1
      subst h2
      rw [roundsW]
    | succ n => rw [roundsW] at h; cases h
  | cons x s ih =>
    intro n b r h
    cases n with
    | zero =>
      rw [roundsW] at h
      injection h with h
      injection h with h1 h2
      subst h1
      subst h2
      rw [roundsW]
    | succ n =>
      rw [roundsW] at h
      rw [List.cons_append, roundsW]
      split at h
      · rename_i hc
        rw [if_pos hc]
        split at h
        · rename_i hs
          rw [if_pos hs]
          exact ih n b r h
        · rename_i hs
          rw [if_neg hs]
          injection h with h
          injection h with h1 h2
          rw [← h1, ← h2]
      · rename_i hc
        rw [if_neg hc]
        exact ih (n + 1) b r h
theorem drawW_more {e k : Nat} (t : List Nat) (m : Nat) : ∀ (ws : List Nat) (p : Nat) (r : List Nat), ws.length ≤ m → drawW e k ws = some (p, r) → drawW e k (ws ++ t) = some (p, r ++ t) := by
  induction m with
  | zero =>
    intro ws p r hl h
    obtain rfl : ws = [] := List.eq_nil_of_length_eq_zero (by omega)
    rw [drawW_nil] at h
    cases h
  | succ m ih =>
    intro ws p r hl h
    rcases ws with _ | ⟨x, s⟩
    · rw [drawW_nil] at h
      cases h
    · simp only [List.length_cons] at hl
      rcases hg : goodF e (candF x) with _ | _
      · rw [drawW_bad hg] at h
        rw [List.cons_append, drawW_bad hg]
        exact ih s p r (by omega) h
      · rcases hr : roundsW (candF x) k s with _ | ⟨b, r'⟩
        · rw [drawW_none hg hr] at h
          cases h
        · have hm := roundsW_more t s k b r' hr
          have hl2 := roundsW_len _ _ _ _ hr
          cases b
          · rw [drawW_false hg hr] at h
            rw [List.cons_append, drawW_false hg hm]
            exact ih r' p r (by omega) h
          · rw [drawW_true hg hr] at h
            rw [List.cons_append, drawW_true hg hm]
            obtain ⟨h1, h2⟩ := Prod.mk.inj (Option.some.inj h)
            rw [h1, h2]
theorem otherW_more {e k p : Nat} (t : List Nat) (m : Nat) : ∀ (ws : List Nat) (q : Nat) (r : List Nat), ws.length ≤ m → otherW e k p ws = some (q, r) → otherW e k p (ws ++ t) = some (q, r ++ t) := by
  induction m with
  | zero =>
    intro ws q r hl h
    obtain rfl : ws = [] := List.eq_nil_of_length_eq_zero (by omega)
    rw [otherW_none (drawW_nil e k)] at h
    cases h
  | succ m ih =>
    intro ws q r hl h
    rcases hd : drawW e k ws with _ | ⟨q', r'⟩
    · rw [otherW_none hd] at h
      cases h
    · have hm := drawW_more t _ ws q' r' (Nat.le_refl _) hd
      have hl2 := drawW_len hd
      by_cases hq : q' = p
      · subst hq
        rw [otherW_same hd] at h
        rw [otherW_same hm]
        exact ih r' q r (by omega) h
      · rw [otherW_some hd hq] at h
        rw [otherW_some hm hq]
        injection h with h
        injection h with h1 h2
        rw [h1, h2]
theorem pairW_more {e k p q : Nat} {ws r : List Nat} (t : List Nat) (h : pairW e k ws = some (p, q, r)) : pairW e k (ws ++ t) = some (p, q, r ++ t) := by
  unfold pairW at h ⊢
  rcases hd : drawW e k ws with _ | ⟨p', r1⟩
  · rw [hd] at h; cases h
  · rw [hd] at h
    rw [drawW_more t _ ws p' r1 (Nat.le_refl _) hd]
    simp only [] at h ⊢
    rcases ho : otherW e k p' r1 with _ | ⟨q', r2⟩
    · rw [ho] at h; cases h
    · rw [ho] at h
      rw [otherW_more t _ r1 q' r2 (Nat.le_refl _) ho]
      injection h with h
      injection h with h5 h6
      injection h6 with h6 h7
      rw [h5, h6, h7]
end Go.Proofs.YtjpibgehhgaopaaGreat.Top
/- A prefix of bytes, plain; Pair with parameters that fail. -/
namespace Go.Proofs.YtjpibgehhgaopaaGreat.Top
open Go.RowKit Go.Proofs.YtjpibgehhgaopaaGreatW.PrintWords Go.Proofs.YtjpibgehhgaopaaGreatW.PrintLast Go.Proofs.YtjpibgehhgaopaaGreat.PTopGenerated
set_option linter.unusedVariables false
set_option linter.unusedSimpArgs false

theorem wordsOf_take (c : Nat) (l : List Int) : ∃ t, wordsOf l = wordsOf (l.take c) ++ t := by
  by_cases h : 8 ≤ (l.take c).length
  · have h' : 8 ≤ l.length := by rw [List.length_take] at h; omega
    have hc : 8 ≤ c := by rw [List.length_take] at h; omega
    rw [wordsOf_cons h, wordsOf_cons h']
    obtain ⟨t, ht⟩ := wordsOf_take (c - 8) (l.drop 8)
    refine ⟨t, ?_⟩
    rw [ht, List.drop_take, List.take_take, Nat.min_eq_left hc]
    rfl
  · rw [wordsOf_nil h]
    exact ⟨_, rfl⟩
  termination_by l.length
  decreasing_by simp; omega
end Go.Proofs.YtjpibgehhgaopaaGreat.Top
