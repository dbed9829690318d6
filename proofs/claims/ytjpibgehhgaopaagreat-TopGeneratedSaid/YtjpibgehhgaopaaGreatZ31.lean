/- keygen's Pair. -/
import Derived.Test.YtjpibgehhgaopaaGreatZ30
namespace Go.Proofs.YtjpibgehhgaopaaGreat.Top
open Go.RowKit Go.Proofs.YtjpibgehhgaopaaGreatW.PrintWords Go.Proofs.YtjpibgehhgaopaaGreatW.PrintLast Go.Proofs.YtjpibgehhgaopaaGreat.PTopGenerated
set_option linter.unusedVariables false
set_option linter.unusedSimpArgs false

/-- What Pair comes to. -/
def PairP (w : World) (sb e k : Nat) (ws : List Nat) (en : Ending) (w' : World) : Prop :=
  (∃ p q r A1 c1 A2 c2, pairW e k ws = some (p, q, r) ∧ en = .returned (.tuple #[.slice A1 1 c1, .slice A2 1 c2, .int .i64 0]) ∧ Num w' A1 c1 [p] ∧ Num w' A2 c2 [q] ∧ SW w' sb r ∧ But sb w w') ∨
  (pairW e k ws = none ∧ en = .returned (.tuple #[.slice none 0 0, .slice none 0 0, .int .i64 150]) ∧ SW w' sb [] ∧ But sb w w')
set_option maxHeartbeats 1000000 in
set_option maxRecDepth 100000 in
theorem pairN (w : World) (sb e k : Nat) (ws : List Nat) (hs : SW w sb ws) (he3 : 3 ≤ e) (heo : e % 2 = 1) (he2 : e < 4294967296) (hk1 : 1 ≤ k) (hk : k ≤ 100) :
    Calls Tryz.prog 61 #[.pointer (some ⟨sb, 0, none⟩), .int .i64 128, .int .u64 (e : Int), .int .i64 (k : Int)] w (PairP w sb e k ws) := by
  have hmf : ∀ (fn : Fn) (first cap : Array Value) (w : World), (Instr.makeFunc fn first cap).run Tryz.prog w = .ok (.func fn first cap) w := fun _ _ _ _ => rfl
  have HF0 := Aside0.mk (((((Fs.nil w hs.lt).alloc (.cells #[.pointer (some ⟨sb, 0, none⟩)] 48)).alloc (.cells #[.int .i64 128] 3)).alloc (.cells #[.int .u64 (e : Int)] 23)).alloc (.cells #[.int .i64 (k : Int)] 3))
  simp only [List.nil_append, List.cons_append, World.size_alloc] at HF0
  have hb : Below w.heap.size w ((((w.alloc (.cells #[.pointer (some ⟨sb, 0, none⟩)] 48)).alloc (.cells #[.int .i64 128] 3)).alloc (.cells #[.int .u64 (e : Int)] 23)).alloc (.cells #[.int .i64 (k : Int)] 3)) := by
    repeat (first | exact Below.refl _ _ | apply below_alloc)
  have HD := Aside0.mk (fun (W : World) (bs bb be bk : Nat) (us : List Nat) a b c d h => pairC W bs bb be bk sb e k us a b c d h he3 heo (by omega) hk1 hk)
  have HS := Aside0.mk (hs.below hb)
  have t1 : decide ((e : Int) < 3) = false := by rw [decide_eq_false_iff_not]; omega
  have t2 : Go.bits .and .u64 (e : Int) 1 = 1 := by rw [and_oneN e (by omega), heo]; rfl
  have t3 : decide ((k : Int) < 1) = false := by rw [decide_eq_false_iff_not]; omega
  have t4 : decide ((k : Int) > 100) = false := by rw [decide_eq_false_iff_not]; omega
  have t5 : (e : Int) / 4294967296 = 0 := by omega
  have t6 : (e : Int) / 2 ^ 32 = 0 := by omega
  clear hb hs
  go_enter Tryz.func61, Tryz.ntmps61
  go_wp2_with fail
  clear t1 t2 t3 t4 t5 t6
  refine (HD.out _ _ _ _ _ ws (HF0.out.cell 0 rfl 0 rfl) (HF0.out.cell 1 rfl 0 rfl) (HF0.out.cell 2 rfl 0 rfl) (HF0.out.cell 3 rfl 0 rfl) HS.out).mono ?_
  intro en w1 hp
  rcases hp with ⟨p, r, A, c, hdw, rfl, hn, hsw, hbt⟩ | ⟨hdw, rfl, hsw, hbt⟩
  · have HF1 := Aside0.mk (HF0.out.script hbt)
    have HN1 := Aside0.mk (And.intro hsw hn)
    have HW := Aside0.mk (show pairW e k ws = match otherW e k p r with | none => none | some (q, r') => some (p, q, r') by unfold pairW; rw [hdw]; rfl)
    have HLn := Aside0.mk hsw.len
    clear hdw hn hsw hbt HS HF0
    go_wp2_with fail
    go_loopg [] r.length (fun n wr => ∃ ws', Aside0 (n = ws'.length ∧ otherW e k p ws' = otherW e k p r) ∧ Aside0 (SW wr sb ws' ∧ Num wr A c [p]) ∧ Aside0 (Fs sb w wr [(w.heap.size, .cells #[.pointer (some ⟨sb, 0, none⟩)] 48), (w.heap.size + 1, .cells #[.int .i64 128] 3), (w.heap.size + 1 + 1, .cells #[.int .u64 (e : Int)] 23), (w.heap.size + 1 + 1 + 1, .cells #[.int .i64 (k : Int)] 3)]))
    case atStart => exact ⟨r, ⟨rfl, rfl⟩, HN1, HF1⟩
    case round =>
      clear HN1 HF1
      obtain ⟨ws', HK, HN, HF⟩ := hrel
      go_wp2_with fail
      refine (HD.out _ _ _ _ _ ws' (HF.out.cell 0 rfl 0 rfl) (HF.out.cell 1 rfl 0 rfl) (HF.out.cell 2 rfl 0 rfl) (HF.out.cell 3 rfl 0 rfl) HN.out.1).mono ?_
      intro en w2 hp
      rcases hp with ⟨q, r', A2, c2, hdw, rfl, hn, hsw, hbt⟩ | ⟨hdw, rfl, hsw, hbt⟩
      · have HF2 := Aside0.mk (HF.out.script hbt)
        have HN2 := Aside0.mk (And.intro hsw (And.intro (HN.out.2.kp (HN.out.1.kp hbt)) hn))
        have HE := Aside0.mk hdw
        have HEq := Aside0.mk (equalN A A2 c c2 [p] [q] w2 HN2.out.2.1 HN2.out.2.2 (by simp) (by simp))
        simp only [List.length_singleton] at HEq
        clear hdw hn hsw hbt
        by_cases hpq : p = q
        · have HP := Aside0.mk hpq
          rw [show decide ([p] = [q]) = true by rw [hpq]; simp] at HEq
          clear hpq
          go_wp2_with fail
          refine HEq.out.mono ?_
          rintro en w3 ⟨rfl, k3, rfl⟩
          go_wp2_with fail
          have hb3 := pw_below_drewN (Below.refl w2.heap.size w2) k3
          go_roundg (r'.length)
          case rel => exact ⟨r', ⟨rfl, by rw [← HK.out.2]; exact (otherW_same (HP.out ▸ HE.out)).symm⟩, ⟨HN2.out.1.below hb3, HN2.out.2.1.below hb3⟩, ⟨HF2.out.mv hb3⟩⟩
          case measure => have := drawW_len HE.out; have := HK.out.1; omega
        · have HP := Aside0.mk (show otherW e k p r = some (q, r') by rw [← HK.out.2]; exact otherW_some HE.out (fun h => hpq h.symm))
          rw [show decide ([p] = [q]) = false by simp [hpq]] at HEq
          clear hpq
          go_wp2_with fail
          refine HEq.out.mono ?_
          rintro en w3 ⟨rfl, k3, rfl⟩
          have hb3 := pw_below_drewN (Below.refl w2.heap.size w2) k3
          have HX := Aside0.mk (And.intro (HN2.out.1.below hb3) (And.intro (HN2.out.2.1.below hb3) (And.intro (HN2.out.2.2.below hb3) (HF2.out.mv hb3).bel)))
          clear hb3
          go_wp2_with fail
          go_ret3
          exact .inl ⟨p, q, r', A, c, A2, c2, by rw [HW.out, HP.out], rfl, HX.out.2.1, HX.out.2.2.1, HX.out.1, HX.out.2.2.2⟩
      · have HE := Aside0.mk (And.intro (show pairW e k ws = none by rw [HW.out, ← HK.out.2, otherW_none hdw]) (And.intro hsw (HF.out.script hbt).bel))
        clear hdw hsw hbt
        go_wp2_with fail
        go_ret3
        exact .inr ⟨HE.out.1, rfl, HE.out.2.1, HE.out.2.2⟩
  · have HE := Aside0.mk (And.intro (show pairW e k ws = none by unfold pairW; rw [hdw]) (And.intro hsw (HF0.out.script hbt).bel))
    clear hdw hsw hbt HS HF0
    go_wp2_with fail
    go_ret3
    exact .inr ⟨HE.out.1, rfl, HE.out.2.1, HE.out.2.2⟩
end Go.Proofs.YtjpibgehhgaopaaGreat.Top
/- What drawn primes are, plain. -/
namespace Go.Proofs.YtjpibgehhgaopaaGreat.Top
open Go.RowKit
set_option linter.unusedVariables false
set_option linter.unusedSimpArgs false

theorem roundsW_mem {M : Nat} (ws : List Nat) : ∀ (n : Nat) (b : Bool) (r : List Nat), roundsW M n ws = some (b, r) → ∀ y ∈ r, y ∈ ws := by
  induction ws with
  | nil =>
    intro n b r h y hy
    cases n with
    | zero => rw [roundsW] at h; injection h with h; injection h with _ h; rw [h]; exact hy
    | succ n => rw [roundsW] at h; cases h
  | cons x s ih =>
    intro n b r h y hy
    cases n with
    | zero => rw [roundsW] at h; injection h with h; injection h with _ h; rw [h]; exact hy
    | succ n =>
      rw [roundsW] at h
      split at h
      · split at h
        · exact List.mem_cons_of_mem _ (ih n b r h y hy)
        · injection h with h
          injection h with _ h
          rw [← h] at hy
          exact List.mem_cons_of_mem _ hy
      · exact List.mem_cons_of_mem _ (ih (n + 1) b r h y hy)
theorem drawG_good {e k : Nat} (n : Nat) : ∀ (ws : List Nat) (p : Nat) (r : List Nat), drawG e k n ws = some (p, r) → goodF e p = true ∧ (∃ x ∈ ws, p = candF x) ∧ ∀ y ∈ r, y ∈ ws := by
  induction n with
  | zero => intro ws p r h; rw [drawG] at h; cases h
  | succ n ih =>
    intro ws p r h
    rcases ws with _ | ⟨x, s⟩
    · rw [drawG] at h; cases h
    · rw [drawG] at h
      obtain ⟨cx, hcx⟩ : ∃ cx, cx = candF x := ⟨_, rfl⟩
      rw [← hcx] at h
      rcases hg : goodF e cx with _ | _
      · rw [hg] at h
        rw [if_neg (by simp)] at h
        obtain ⟨h1, ⟨y, h2, h3⟩, h4⟩ := ih s p r h
        exact ⟨h1, ⟨y, List.mem_cons_of_mem _ h2, h3⟩, fun z hz => List.mem_cons_of_mem _ (h4 z hz)⟩
      · rw [hg] at h
        rw [if_pos rfl] at h
        rcases hr : roundsW cx k s with _ | ⟨b, r'⟩
        · rw [hr] at h; cases h
        · rw [hr] at h
          have hm := roundsW_mem s k b r' hr
          cases b
          · obtain ⟨h1, ⟨y, h2, h3⟩, h4⟩ := ih r' p r h
            exact ⟨h1, ⟨y, List.mem_cons_of_mem _ (hm y h2), h3⟩, fun z hz => List.mem_cons_of_mem _ (hm z (h4 z hz))⟩
          · injection h with h
            injection h with h5 h6
            subst h5
            subst h6
            exact ⟨hg, ⟨x, List.mem_cons_self, hcx⟩, fun z hz => List.mem_cons_of_mem _ (hm z hz)⟩
theorem good_gcd {e p : Nat} (h : goodF e p = true) : Nat.gcd (p - 1) e = 1 ∧ passF p = true := by
  unfold goodF at h
  rw [Bool.and_eq_true, decide_eq_true_eq] at h
  exact ⟨h.2, h.1⟩
theorem com_coprime {e p q : Nat} (h1 : Nat.gcd (p - 1) e = 1) (h2 : Nat.gcd (q - 1) e = 1) : Nat.gcd e (comF p q) = 1 := by
  unfold comF
  have a1 : Nat.Coprime e (p - 1) := by rw [Nat.Coprime, Nat.gcd_comm]; exact h1
  have a2 : Nat.Coprime e (q - 1) := by rw [Nat.Coprime, Nat.gcd_comm]; exact h2
  exact Nat.Coprime.mul_right (Nat.Coprime.coprime_dvd_right (Nat.div_dvd_of_dvd (Nat.gcd_dvd_left _ _)) a1) a2
end Go.Proofs.YtjpibgehhgaopaaGreat.Top
/- What a drawn pair is, plain. -/
namespace Go.Proofs.YtjpibgehhgaopaaGreat.Top
open Go.RowKit
set_option linter.unusedVariables false
set_option linter.unusedSimpArgs false

theorem otherG_good {e k p : Nat} (n : Nat) : ∀ (ws : List Nat) (q : Nat) (r : List Nat), otherG e k p n ws = some (q, r) → goodF e q = true ∧ (∃ x ∈ ws, q = candF x) ∧ q ≠ p ∧ ∀ y ∈ r, y ∈ ws := by
  induction n with
  | zero => intro ws q r h; rw [otherG] at h; cases h
  | succ n ih =>
    intro ws q r h
    rw [otherG] at h
    rcases hd : drawW e k ws with _ | ⟨q', r'⟩
    · rw [hd] at h; cases h
    · rw [hd] at h
      obtain ⟨h1, ⟨x, h2, h3⟩, h4⟩ := drawG_good _ ws q' r' hd
      simp only [] at h
      by_cases hq : q' = p
      · rw [if_pos hq] at h
        obtain ⟨g1, ⟨y, g2, g3⟩, g4, g5⟩ := ih r' q r h
        exact ⟨g1, ⟨y, h4 y g2, g3⟩, g4, fun z hz => h4 z (g5 z hz)⟩
      · rw [if_neg hq] at h
        injection h with h
        injection h with h5 h6
        subst h5
        subst h6
        exact ⟨h1, ⟨x, h2, h3⟩, hq, h4⟩
/-- What a pair is. -/
theorem pairW_made {e k p q : Nat} {ws r : List Nat} (hw : ∀ x ∈ ws, x < 18446744073709551616) (h : pairW e k ws = some (p, q, r)) (he3 : 3 ≤ e) (heo : e % 2 = 1) (he2 : e < 4294967296) :
    MadeA p q e ∧ passF p = true ∧ passF q = true ∧ p ≠ q ∧ 13835058055282163712 ≤ p ∧ 13835058055282163712 ≤ q := by
  unfold pairW at h
  rcases hd : drawW e k ws with _ | ⟨p', r1⟩
  · rw [hd] at h; cases h
  · rw [hd] at h
    simp only [] at h
    rcases ho : otherW e k p' r1 with _ | ⟨q', r2⟩
    · rw [ho] at h; cases h
    · rw [ho] at h
      injection h with h
      injection h with h5 h6
      injection h6 with h6 h7
      subst h5
      subst h6
      obtain ⟨a1, ⟨x, a2, a3⟩, a4⟩ := drawG_good _ ws p' r1 hd
      obtain ⟨b1, ⟨y, b2, b3⟩, b4, _⟩ := otherG_good _ r1 q' r2 ho
      obtain ⟨c1, c2⟩ := good_gcd a1
      obtain ⟨d1, d2⟩ := good_gcd b1
      have hx := hw x a2
      have hy := hw y (a4 y b2)
      have p1 : p' < 18446744073709551616 := by rw [a3]; exact candF_lt hx
      have q1 : q' < 18446744073709551616 := by rw [b3]; exact candF_lt hy
      have p2 : 13835058055282163712 ≤ p' := by rw [a3]; exact candF_ge x
      have q2 : 13835058055282163712 ≤ q' := by rw [b3]; exact candF_ge y
      have p3 : p' % 2 = 1 := by rw [a3]; exact candF_odd x
      have q3 : q' % 2 = 1 := by rw [b3]; exact candF_odd y
      exact ⟨⟨p1, q1, by omega, by omega, p3, q3, he3, heo, he2, com_coprime c1 d1⟩, c2, d2, fun h => b4 h.symm, p2, q2⟩
end Go.Proofs.YtjpibgehhgaopaaGreat.Top
