/- prime's Draw, of 64 bits. -/
import Derived.Test.YtjpibgehhgaopaaGreatZ29
namespace Go.Proofs.YtjpibgehhgaopaaGreat.Top
open Go.RowKit Go.Proofs.YtjpibgehhgaopaaGreatW.PrintWords Go.Proofs.YtjpibgehhgaopaaGreatW.PrintLast Go.Proofs.YtjpibgehhgaopaaGreat.PTopGenerated
set_option linter.unusedVariables false
set_option linter.unusedSimpArgs false

theorem idle150 (a b c : Value) (w : World) : CallsD Tryz.prog 150 #[a, b, c] .returning w fun e u' w' => e = .returned (.tuple #[]) ∧ u' = .returning ∧ w' = w := by
  refine callsD_of_wpS Tryz.func150 rfl fun c₀ cs hu => ?_
  apply wpS_seq
  apply wpS_region
  simp [wpOpsS, go_sem, recoverD, hu, Tryz.ntmps150, Exit.thenS]
  apply wpS_seq
  apply wpS_region
  simp [wpOpsS, go_sem, hu, Tryz.ntmps150, Exit.thenS]
  refine wpS_cond (t := false) (by simp [Act.eval, Array.replicate]) ?_
  simp only [Bool.false_eq_true, if_false]
  refine wpS_of_wp (wp_skip ?_)
  cases c₀
  simp_all [bodyPostS, results, Tryz.results150]
set_option maxRecDepth 100000 in
set_option maxHeartbeats 1000000 in
theorem saved150 (w0 w : World) (sb p q r : Nat) (x : Int) (ws : List Nat) (v kv ev : Value) (hF : Fs sb w0 w [(p, .cells #[v] 26), (q, .cells #[kv] 3), (r, .cells #[ev] 29)]) (hs : SW w sb ws) :
    CallsD Tryz.prog 150 #[.pointer (some ⟨p, 0, none⟩), .pointer (some ⟨q, 0, none⟩), .pointer (some ⟨r, 0, none⟩)] (.panicking [{ v := .iface 202 (.agg #[.int .i64 x]), recovered := false }]) w fun e u' w' => e = .returned (.tuple #[]) ∧ u' = .panicking [{ v := .iface 202 (.agg #[.int .i64 x]), recovered := true }] ∧
      Fs sb w0 w' [(p, .cells #[.slice none 0 0] 26), (q, .cells #[.int .i64 0] 3), (r, .cells #[.int .i64 x] 29)] ∧ SW w' sb ws := by
  have hta := assert_same Tryz.underlying202
  have g0 := hF.alloc (.cells #[.int .i64 x] 202)
  have h0 := hs.below (below_alloc (Below.refl _ w) (.cells #[.int .i64 x] 202))
  have g1 := g0.set_ 0 rfl 0 (.slice none 0 0)
  have h1 := h0.kb (Kb.set_ (g0.at 0 rfl) (by decide) 0 (.slice none 0 0))
  have g2 := g1.set_ 1 rfl 0 (.int .i64 0)
  have h2 := h1.kb (Kb.set_ (g1.at 1 rfl) (by decide) 0 (.int .i64 0))
  have g3 := g2.set_ 2 rfl 0 (.int .i64 x)
  have h3 := h2.kb (Kb.set_ (g2.at 2 rfl) (by decide) 0 (.int .i64 x))
  have H := Aside0.mk (And.intro (g3.sub (L' := [(p, .cells #[.slice none 0 0] 26), (q, .cells #[.int .i64 0] 3), (r, .cells #[.int .i64 x] 29)]) (List.sublist_append_left _ [_])) h3)
  have a0 := g0.cell 0 rfl 0 rfl
  have b0 := g0.frozen 0 rfl 0
  have c0 := g0.cell 3 rfl 0 rfl
  have c1 := g1.cell 3 rfl 0 rfl
  have a1 := g1.cell 1 rfl 0 rfl
  have b1 := g1.frozen 1 rfl 0
  have c2 := g2.cell 3 rfl 0 rfl
  have a2 := g2.cell 2 rfl 0 rfl
  have b2 := g2.frozen 2 rfl 0
  clear hF hs g0 g1 g2 g3 h0 h1 h2 h3
  refine callsD_of_wpS Tryz.func150 rfl fun c₀ cs hu => ?_
  simp only [Tryz.ntmps150, List.size_toArray, List.length_cons, List.length_nil, Nat.reduceAdd, Nat.reduceSub, Array.replicate_succ, Array.replicate_zero, List.push_toArray, List.append_toArray, List.nil_append, List.cons_append]
  apply wpS_seq
  apply wpS_region
  simp [wpOpsS, go_sem, recoverD, hu, Exit.thenS]
  refine wpS_of_wp ?_
  go_wp2_with fail
  go_region
  go_wp2_with fail
  exact ⟨rfl, _, rfl, _, results_none rfl _ _ _, rfl, rfl, H.out.1.drewN 1, H.out.2.below (pw_below_drewN (Below.refl _ _) 1)⟩
/-- What Draw comes to. -/
def DrawQ (w : World) (sb e k : Nat) (ws : List Nat) (en : Ending) (w' : World) : Prop :=
  (∃ p r A c j, drawW e k ws = some (p, r) ∧ en = .returned (.tuple #[.slice A 1 c, .int .i64 j, .int .i64 0]) ∧ Num w' A c [p] ∧ SW w' sb r ∧ But sb w w') ∨
  (drawW e k ws = none ∧ en = .returned (.tuple #[.slice none 0 0, .int .i64 0, .int .i64 150]) ∧ SW w' sb [] ∧ But sb w w')
theorem results_draw {tmps : Array Value} {w : World} {b6 b7 b8 : Nat} {x y z : Value} (h6 : tmps.getD 8 undef = .pointer (some ⟨b6, 0, none⟩)) (h7 : tmps.getD 9 undef = .pointer (some ⟨b7, 0, none⟩)) (h8 : tmps.getD 10 undef = .pointer (some ⟨b8, 0, none⟩))
    (hx : w.heap[b6]? = some (.cells #[x] 26 (0, 0))) (hy : w.heap[b7]? = some (.cells #[y] 3 (0, 0))) (hz : w.heap[b8]? = some (.cells #[z] 29 (0, 0))) : (results Tryz.f100 tmps).run Tryz.prog w = .ok (.tuple #[x, y, z]) w := by
  have h6' : tmps[8]?.getD undef = .pointer (some ⟨b6, 0, none⟩) := by simpa using h6
  have h7' : tmps[9]?.getD undef = .pointer (some ⟨b7, 0, none⟩) := by simpa using h7
  have h8' : tmps[10]?.getD undef = .pointer (some ⟨b8, 0, none⟩) := by simpa using h8
  have hc : w.cell? ⟨b6, 0, none⟩ = some x := blk_cell hx 0
  have hd : w.cell? ⟨b7, 0, none⟩ = some y := blk_cell hy 0
  have he : w.cell? ⟨b8, 0, none⟩ = some z := blk_cell hz 0
  have hr : (loadVar 26 ⟨b6, 0, none⟩).run Tryz.prog w = .ok x w := by simp [go_sem, hc]
  have hr2 : (loadVar 3 ⟨b7, 0, none⟩).run Tryz.prog w = .ok y w := by simp [go_sem, hd]
  have hr3 : (loadVar 29 ⟨b8, 0, none⟩).run Tryz.prog w = .ok z w := by simp [go_sem, he]
  simp [results, Tryz.f100, h6', h7', h8', asAddr, hr, hr2, hr3]
set_option maxHeartbeats 1000000 in
set_option maxRecDepth 100000 in
theorem drawDN (w : World) (sb e k : Nat) (ws : List Nat) (hs : SW w sb ws) (he3 : 3 ≤ e) (heo : e % 2 = 1) (he2 : e < 18446744073709551616) (hk1 : 1 ≤ k) (hk : k ≤ 100) :
    Calls Tryz.prog 100 #[.pointer (some ⟨sb, 0, none⟩), .int .i64 64, .int .u64 (e : Int), .int .i64 (k : Int)] w (DrawQ w sb e k ws) := by
  have hmf : ∀ (fn : Fn) (first cap : Array Value) (w : World), (Instr.makeFunc fn first cap).run Tryz.prog w = .ok (.func fn first cap) w := fun _ _ _ _ => rfl
  have HF0 := Aside0.mk ((((Fs.nil w hs.lt).alloc (.cells #[.slice none 0 0] 26)).alloc (.cells #[.int .i64 0] 3)).alloc (.cells #[.int .i64 0] 29))
  simp only [List.nil_append, List.cons_append, World.size_alloc] at HF0
  have hb : Below w.heap.size w (((w.alloc (.cells #[.slice none 0 0] 26)).alloc (.cells #[.int .i64 0] 3)).alloc (.cells #[.int .i64 0] 29)) := by
    repeat (first | exact Below.refl _ _ | apply below_alloc)
  have HD := Aside0.mk (drawN _ sb e k ws (hs.below hb) (by omega) he2 hk)
  have t1 : decide ((e : Int) < 3) = false := by rw [decide_eq_false_iff_not]; omega
  have t2 : Go.bits .and .u64 (e : Int) 1 = 1 := by rw [and_oneN e he2, heo]; rfl
  have t3 : decide ((k : Int) < 1) = false := by rw [decide_eq_false_iff_not]; omega
  have t4 : decide ((k : Int) > 100) = false := by rw [decide_eq_false_iff_not]; omega
  clear hb hs
  go_enter_defers Tryz.func100, Tryz.ntmps100
  go_wp2_with fail
  refine (sized64 _).mono ?_
  rintro e w' ⟨rfl, rfl⟩
  go_wp2_with fail
  refine HD.out.mono ?_
  intro en w1 hp
  rcases hp with ⟨p, r, A, c, j, hdw, rfl, hn, hsw, hbt⟩ | ⟨hdw, rfl, hsw, hbt⟩
  · have g0 := HF0.out.script hbt
    have a0 := g0.cell 0 rfl 0 rfl
    have b0 := g0.frozen 0 rfl 0
    have g1 := g0.set_ 0 rfl 0 (.slice A 1 c)
    have a1 := g1.cell 1 rfl 0 rfl
    have b1 := g1.frozen 1 rfl 0
    have g2 := g1.set_ 1 rfl 0 (.int .i64 j)
    have HS := Aside0.mk ((hsw.kb (Kb.set_ (g0.at 0 rfl) (by decide) 0 (.slice A 1 c))).kb (Kb.set_ (g1.at 1 rfl) (by decide) 0 (.int .i64 j)))
    have HN := Aside0.mk ((hn.kp (g0.kp_set 0 rfl (by decide) 0 (.slice A 1 c))).kp (g1.kp_set 1 rfl (by decide) 0 (.int .i64 j)))
    have HG2 := Aside0.mk g2
    have HW := Aside0.mk hdw
    clear g0 g1 g2 hn hsw hbt hdw HD
    go_wp2_with fail
    obtain ⟨W2, hW2⟩ : ∃ W2, W2 = (w1.setCell ⟨w.heap.size, 0, none⟩ (.slice A 1 c)).setCell ⟨w.heap.size + 1, 0, none⟩ (.int .i64 j) := ⟨_, rfl⟩
    rw [← hW2] at HS HN HG2 ⊢
    clear hW2 a0 b0 a1 b1
    have p0 := HG2.out.cell 0 rfl 0 rfl
    have p1 := HG2.out.cell 1 rfl 0 rfl
    have f0 := HG2.out.frozen 0 rfl 0
    have g3 := HG2.out.set_ 0 rfl 0 (.slice A 1 c)
    have p3 := g3.cell 1 rfl 0 rfl
    have f3 := g3.frozen 1 rfl 0
    have g4 := g3.set_ 1 rfl 0 (.int .i64 j)
    have p4 := g4.cell 2 rfl 0 rfl
    have f4 := g4.frozen 2 rfl 0
    have g5 := g4.set_ 2 rfl 0 (.int .i64 0)
    have HS5 := Aside0.mk (((HS.out.kb (Kb.set_ (HG2.out.at 0 rfl) (by decide) 0 (.slice A 1 c))).kb (Kb.set_ (g3.at 1 rfl) (by decide) 0 (.int .i64 j))).kb (Kb.set_ (g4.at 2 rfl) (by decide) 0 (.int .i64 0)))
    have HN5 := Aside0.mk (((HN.out.kp (HG2.out.kp_set 0 rfl (by decide) 0 (.slice A 1 c))).kp (g3.kp_set 1 rfl (by decide) 0 (.int .i64 j))).kp (g4.kp_set 2 rfl (by decide) 0 (.int .i64 0)))
    have HG5 := Aside0.mk g5
    clear g3 g4 g5
    go_region
    go_wp2_with fail
    refine leaves_cons (f := 150) (args := #[.pointer (some ⟨w.heap.size, 0, none⟩), .pointer (some ⟨w.heap.size + 1, 0, none⟩), .pointer (some ⟨w.heap.size + 1 + 1, 0, none⟩)]) (by simp) (by simp [go_sem]) ?_
    refine (idle150 _ _ _ _).mono ?_
    rintro en u' w'' ⟨rfl, rfl, rfl⟩
    have hF := HG5.out.drewN 1
    exact ⟨_, results_draw rfl rfl rfl (hF.at 0 rfl) (hF.at 1 rfl) (hF.at 2 rfl), .inl ⟨p, r, A, c, j, HW.out, rfl, HN5.out.below (pw_below_drewN (Below.refl _ _) 1), HS5.out.below (pw_below_drewN (Below.refl _ _) 1), hF.bel⟩⟩
  · have g0 := HF0.out.script hbt
    have HG := Aside0.mk (And.intro g0 (And.intro hsw hdw))
    clear g0 hsw hdw hbt HD
    go_wp2_with fail
    refine leaves_cons (f := 150) (args := #[.pointer (some ⟨w.heap.size, 0, none⟩), .pointer (some ⟨w.heap.size + 1, 0, none⟩), .pointer (some ⟨w.heap.size + 1 + 1, 0, none⟩)]) (by simp) (by simp [go_sem]) ?_
    refine (saved150 _ _ _ _ _ _ _ _ _ _ _ HG.out.1 HG.out.2.1).mono ?_
    rintro e u' w'' ⟨rfl, rfl, hF, hS⟩
    exact ⟨_, results_draw rfl rfl rfl (hF.at 0 rfl) (hF.at 1 rfl) (hF.at 2 rfl), .inr ⟨HG.out.2.2, rfl, hS, hF.bel⟩⟩
end Go.Proofs.YtjpibgehhgaopaaGreat.Top
/- keygen's Pair: what it calls. -/
namespace Go.Proofs.YtjpibgehhgaopaaGreat.Top
open Go.RowKit Go.Proofs.YtjpibgehhgaopaaGreatW.PrintWords Go.Proofs.YtjpibgehhgaopaaGreatW.PrintLast Go.Proofs.YtjpibgehhgaopaaGreat.PTopGenerated
set_option linter.unusedVariables false
set_option linter.unusedSimpArgs false

set_option maxHeartbeats 1000000 in
set_option maxRecDepth 100000 in
theorem pairC (w : World) (bs bb be bk sb e k : Nat) (ws : List Nat) (h1 : w.cell? ⟨bs, 0, none⟩ = some (.pointer (some ⟨sb, 0, none⟩))) (h2 : w.cell? ⟨bb, 0, none⟩ = some (.int .i64 128)) (h3 : w.cell? ⟨be, 0, none⟩ = some (.int .u64 (e : Int))) (h4 : w.cell? ⟨bk, 0, none⟩ = some (.int .i64 (k : Int)))
    (hs : SW w sb ws) (he3 : 3 ≤ e) (heo : e % 2 = 1) (he2 : e < 18446744073709551616) (hk1 : 1 ≤ k) (hk : k ≤ 100) :
    Calls Tryz.prog 99 #[.pointer (some ⟨bs, 0, none⟩), .pointer (some ⟨bb, 0, none⟩), .pointer (some ⟨be, 0, none⟩), .pointer (some ⟨bk, 0, none⟩)] w fun en w' =>
      (∃ p r A c, drawW e k ws = some (p, r) ∧ en = .returned (.tuple #[.slice A 1 c, .int .i64 0]) ∧ Num w' A c [p] ∧ SW w' sb r ∧ But sb w w') ∨
      (drawW e k ws = none ∧ en = .returned (.tuple #[.slice none 0 0, .int .i64 150]) ∧ SW w' sb [] ∧ But sb w w') := by
  have HD := Aside0.mk (drawDN w sb e k ws hs he3 heo he2 hk1 hk)
  clear hs he3 heo he2 hk1 hk
  go_enter Tryz.func99, Tryz.ntmps99
  go_wp2_with fail
  refine HD.out.mono ?_
  intro en w1 hp
  rcases hp with ⟨p, r, A, c, j, hdw, rfl, hn, hsw, hbt⟩ | ⟨hdw, rfl, hsw, hbt⟩
  · have HE := Aside0.mk (And.intro hdw (And.intro hn (And.intro hsw hbt)))
    clear hdw hn hsw hbt
    go_wp2_with fail
    go_ret2
    exact .inl ⟨p, r, A, c, HE.out.1, rfl, HE.out.2.1, HE.out.2.2.1, HE.out.2.2.2⟩
  · have HE := Aside0.mk (And.intro hdw (And.intro hsw hbt))
    clear hdw hsw hbt
    go_wp2_with fail
    go_ret2
    exact .inr ⟨HE.out.1, rfl, HE.out.2.1, HE.out.2.2⟩
end Go.Proofs.YtjpibgehhgaopaaGreat.Top
/- keygen's Pair, plain. -/
namespace Go.Proofs.YtjpibgehhgaopaaGreat.Top
open Go.RowKit
set_option linter.unusedVariables false
set_option linter.unusedSimpArgs false

attribute [local irreducible] candF goodF roundsW in
theorem drawG_len {e k : Nat} (n : Nat) : ∀ (ws : List Nat) (p : Nat) (r : List Nat), drawG e k n ws = some (p, r) → r.length < ws.length := by
  induction n with
  | zero => intro ws p r h; rw [drawG] at h; cases h
  | succ n ih =>
    intro ws p r h
    rcases ws with _ | ⟨x, s⟩
    · rw [drawG] at h; cases h
    · rw [drawG] at h
      simp only [List.length_cons]
      generalize goodF e (candF x) = gd at h
      generalize candF x = cx at h
      split at h
      · rcases hr : roundsW cx k s with _ | ⟨b, r'⟩
        · rw [hr] at h; cases h
        · rw [hr] at h
          have hl := roundsW_len _ _ _ _ hr
          cases b
          · have := ih r' p r h
            omega
          · injection h with h
            injection h with _ h
            rw [← h]
            omega
      · have := ih s p r h
        omega
theorem drawW_len {e k : Nat} {ws : List Nat} {p : Nat} {r : List Nat} (h : drawW e k ws = some (p, r)) : r.length < ws.length := drawG_len _ _ _ _ h
/-- Another prime than p, in so many steps. -/
def otherG (e k p : Nat) : Nat → List Nat → Option (Nat × List Nat)
  | 0, _ => none
  | n + 1, ws => match drawW e k ws with
    | none => none
    | some (q, r) => if q = p then otherG e k p n r else some (q, r)
theorem otherG_fuel (e k p : Nat) : ∀ (n m : Nat) (ws : List Nat), ws.length < n → ws.length < m → otherG e k p n ws = otherG e k p m ws
  | 0, m, ws, h, _ => by omega
  | n + 1, 0, ws, _, h => by omega
  | n + 1, m + 1, ws, h, h' => by
    rw [otherG, otherG]
    rcases hd : drawW e k ws with _ | ⟨q, r⟩
    · rfl
    · have := drawW_len hd
      simp only []
      split
      · exact otherG_fuel e k p n m r (by omega) (by omega)
      · rfl
/-- Another prime than p. -/
def otherW (e k p : Nat) (ws : List Nat) : Option (Nat × List Nat) := otherG e k p (ws.length + 1) ws
theorem otherW_none {e k p : Nat} {ws : List Nat} (h : drawW e k ws = none) : otherW e k p ws = none := by
  unfold otherW; rw [otherG, h]
theorem otherW_same {e k p : Nat} {ws r : List Nat} (h : drawW e k ws = some (p, r)) : otherW e k p ws = otherW e k p r := by
  have hl := drawW_len h
  unfold otherW
  rw [otherG, h]
  simp only [if_true]
  exact otherG_fuel e k p _ _ r (by omega) (by omega)
theorem otherW_some {e k p q : Nat} {ws r : List Nat} (h : drawW e k ws = some (q, r)) (hq : q ≠ p) : otherW e k p ws = some (q, r) := by
  unfold otherW
  rw [otherG, h]
  simp only [if_neg hq]
/-- Two primes out of words. -/
def pairW (e k : Nat) (ws : List Nat) : Option (Nat × Nat × List Nat) :=
  match drawW e k ws with
  | none => none
  | some (p, r) => match otherW e k p r with
    | none => none
    | some (q, r') => some (p, q, r')
end Go.Proofs.YtjpibgehhgaopaaGreat.Top
