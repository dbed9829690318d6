/- miller's Rounds, by one word of 64 bits. -/
import Derived.Test.YtjpibgehhgaopaaGreatThV
namespace Go.Proofs.YtjpibgehhgaopaaGreat.Top
open Go.RowKit Go.Proofs.YtjpibgehhgaopaaGreatW.PrintWords Go.Proofs.YtjpibgehhgaopaaGreatW.PrintLast Go.Proofs.YtjpibgehhgaopaaGreat.PTopGenerated
set_option linter.unusedVariables false
set_option linter.unusedSimpArgs false

theorem idle42 (a : Value) (w : World) : CallsD Tryz.prog 42 #[a] .returning w fun e u' w' => e = .returned (.tuple #[]) ∧ u' = .returning ∧ w' = w := by
  refine callsD_of_wpS Tryz.func42 rfl fun c₀ cs hu => ?_
  apply wpS_seq
  apply wpS_region
  simp [wpOpsS, go_sem, recoverD, hu, Tryz.ntmps42, Exit.thenS]
  apply wpS_seq
  apply wpS_region
  simp [wpOpsS, go_sem, hu, Tryz.ntmps42, Exit.thenS]
  refine wpS_cond (t := false) (by simp [Act.eval, Array.replicate]) ?_
  simp only [Bool.false_eq_true, if_false]
  refine wpS_of_wp (wp_skip ?_)
  cases c₀
  simp_all [bodyPostS, results, Tryz.results42]
theorem size99 : (Tryz.prog.info? 99).map (·.size) = some 1 := by kernel_rfl
set_option maxRecDepth 100000 in
set_option maxHeartbeats 1000000 in
theorem saved42 (q : Nat) (x : Int) (b0 : Value) (w : World) (hq : w.heap[q]? = some (.cells #[b0] 29 (0, 0))) :
    CallsD Tryz.prog 42 #[.pointer (some ⟨q, 0, none⟩)] (.panicking [{ v := .iface 99 (.agg #[.int .i64 x]), recovered := false }]) w fun e u' w' => e = .returned (.tuple #[]) ∧ u' = .panicking [{ v := .iface 99 (.agg #[.int .i64 x]), recovered := true }] ∧
      w' = (w.alloc (.cells #[.int .i64 x] 99)).setCell ⟨q, 0, none⟩ (.int .i64 x) := by
  have hta := assert_same Tryz.underlying99
  have hq1 := blk_alloc hq (.cells #[.int .i64 x] 99)
  have q0 : (w.alloc (.cells #[.int .i64 x] 99)).cell? ⟨q, 0, none⟩ = some b0 := blk_cell hq1 0
  have q1 := frozen_of_row _ q 0 _ _ hq1
  clear hq hq1
  refine callsD_of_wpS Tryz.func42 rfl fun c₀ cs hu => ?_
  simp only [Tryz.ntmps42, List.size_toArray, List.length_cons, List.length_nil, Nat.reduceAdd, Nat.reduceSub, Array.replicate_succ, Array.replicate_zero, List.push_toArray, List.append_toArray, List.nil_append, List.cons_append]
  apply wpS_seq
  apply wpS_region
  simp [wpOpsS, go_sem, recoverD, hu, Exit.thenS]
  refine wpS_of_wp ?_
  go_wp2_with fail
  exact ⟨rfl, _, rfl, _, results_none rfl _ _ _, rfl, rfl, rfl⟩
/-- What Rounds hands to its guard, and what comes back. -/
def GuardP (w : World) (sb bs bn bk bi bb M k : Nat) (A : Option Addr) (c : Nat) (ws : List Nat) (e : Ending) (w' : World) : Prop :=
  (∃ is r Av mv cv, roundsW M k ws = some (is, r) ∧ e = .returned (.int .i64 0) ∧ SW w' sb r ∧ Fs sb w w' [(bs, .cells #[.pointer (some ⟨sb, 0, none⟩)] 48), (bn, .cells #[.slice A 1 c] 26), (bk, .cells #[.int .i64 (k : Int)] 3), (bi, .cells #[.bool is] 4), (bb, .cells #[.slice Av mv cv] 45)]) ∨
  (roundsW M k ws = none ∧ e = .returned (.int .i64 150) ∧ SW w' sb [] ∧ ∃ v, Fs sb w w' [(bs, .cells #[.pointer (some ⟨sb, 0, none⟩)] 48), (bn, .cells #[.slice A 1 c] 26), (bk, .cells #[.int .i64 (k : Int)] 3), (bi, .cells #[.bool false] 4), (bb, .cells #[v] 45)])
theorem results_guard {tmps : Array Value} {w : World} {b : Nat} {x : Value} (h6 : tmps.getD 2 undef = .pointer (some ⟨b, 0, none⟩)) (hx : w.heap[b]? = some (.cells #[x] 29 (0, 0))) : (results Tryz.f23 tmps).run Tryz.prog w = .ok x w := by
  have h6' : tmps[2]?.getD undef = .pointer (some ⟨b, 0, none⟩) := by simpa using h6
  have hc : w.cell? ⟨b, 0, none⟩ = some x := blk_cell hx 0
  have hr2 : (loadVar 29 ⟨b, 0, none⟩).run Tryz.prog w = .ok x w := by simp [go_sem, hc]
  simp [results, Tryz.f23, h6', asAddr, hr2]
set_option maxHeartbeats 1000000 in
set_option maxRecDepth 100000 in
theorem guardR (w W : World) (sb bs bn bk bi bb M k : Nat) (A : Option Addr) (c : Nat) (ws : List Nat) (hF : Fs sb w W [(bs, .cells #[.pointer (some ⟨sb, 0, none⟩)] 48), (bn, .cells #[.slice A 1 c] 26), (bk, .cells #[.int .i64 (k : Int)] 3), (bi, .cells #[.bool false] 4), (bb, .cells #[.slice none 0 0] 45)])
    (hs : SW W sb ws) (hn : Num W A c [M]) (ho : M % 2 = 1) (h3 : 3 < M) (h64 : bl M = 64) (hk1 : k ≤ 100) (hodd : (oddP (M - 1) 0).2 ≤ 1000) :
    Calls Tryz.prog 23 #[.func (.func 24) #[] #[.pointer (some ⟨bn, 0, none⟩), .pointer (some ⟨bk, 0, none⟩), .pointer (some ⟨bb, 0, none⟩), .pointer (some ⟨bs, 0, none⟩), .pointer (some ⟨bi, 0, none⟩)]] W (GuardP w sb bs bn bk bi bb M k A c ws) := by
  have hmf : ∀ (fn : Fn) (first cap : Array Value) (w : World), (Instr.makeFunc fn first cap).run Tryz.prog w = .ok (.func fn first cap) w := fun _ _ _ _ => rfl
  have hb1 := below_alloc (Below.refl _ W) (.cells #[.int .i64 0] 29)
  have hF1 := hF.alloc (.cells #[.int .i64 0] 29)
  simp only [List.nil_append, List.cons_append] at hF1
  have HC := Aside0.mk (roundsC w _ sb bs bn bk bi bb W.heap.size M k A c ws hF1 (hs.below hb1) (hn.below hb1) ho h3 h64 hk1 hodd)
  clear hb1 hF1 hF hs hn ho h3 h64 hk1 hodd
  go_enter_defers Tryz.func23, Tryz.ntmps23
  go_wp2_with fail
  refine HC.out.mono ?_
  intro e w1 hp
  rcases hp with ⟨is, r, Av, mv, cv, hrw, rfl, hsw, hF⟩ | ⟨hrw, rfl, hsw, v, hF⟩
  · have HE := Aside0.mk (And.intro hrw (And.intro hsw hF))
    have q5 := hF.cell 5 rfl 0 rfl
    have f5 := hF.frozen 5 rfl 0
    clear hrw hsw hF HC
    go_wp2_with fail
    refine leaves_cons (f := 42) (args := #[.pointer (some ⟨W.heap.size, 0, none⟩)]) (by simp) (by simp [go_sem]) ?_
    refine (idle42 _ _).mono ?_
    rintro e u' w'' ⟨rfl, rfl, rfl⟩
    have hF2 := HE.out.2.2.set_ 5 rfl 0 (.int .i64 0)
    exact ⟨_, results_guard rfl (hF2.at 5 rfl), .inl ⟨is, r, Av, mv, cv, HE.out.1, rfl, HE.out.2.1.kb (Kb.set_ (HE.out.2.2.at 5 rfl) (by decide) 0 _), hF2.sub (List.sublist_append_left _ [_])⟩⟩
  · have HE := Aside0.mk (And.intro hrw (And.intro hsw hF))
    clear hrw hsw hF HC
    go_wp2_with fail
    refine leaves_cons (f := 42) (args := #[.pointer (some ⟨W.heap.size, 0, none⟩)]) (by simp) (by simp [go_sem]) ?_
    refine (saved42 _ _ _ _ (HE.out.2.2.at 5 rfl)).mono ?_
    rintro e u' w'' ⟨rfl, rfl, rfl⟩
    have hb2 := below_alloc (Below.refl _ w1) (.cells #[.int .i64 150] 99)
    have hF1 := HE.out.2.2.mv hb2
    have hF2 := hF1.set_ 5 rfl 0 (.int .i64 150)
    exact ⟨_, results_guard rfl (hF2.at 5 rfl), .inr ⟨HE.out.1, rfl, (HE.out.2.1.below hb2).kb (Kb.set_ (hF1.at 5 rfl) (by decide) 0 _), v, hF2.sub (List.sublist_append_left _ [_])⟩⟩
/-- What Rounds comes to. -/
def RoundsP (w : World) (sb M k : Nat) (ws : List Nat) (e : Ending) (w' : World) : Prop :=
  (∃ is r v, roundsW M k ws = some (is, r) ∧ e = .returned (.tuple #[.bool is, v, .int .i64 0]) ∧ SW w' sb r ∧ But sb w w') ∨
  (roundsW M k ws = none ∧ e = .returned (.tuple #[.bool false, .slice none 0 0, .int .i64 150]) ∧ SW w' sb [] ∧ But sb w w')
theorem results_rounds {tmps : Array Value} {w : World} {b6 b7 : Nat} {x y z : Value} (h6 : tmps.getD 6 undef = .pointer (some ⟨b6, 0, none⟩)) (h7 : tmps.getD 7 undef = .pointer (some ⟨b7, 0, none⟩)) (h8 : tmps.getD 8 undef = z)
    (hx : w.heap[b6]? = some (.cells #[x] 4 (0, 0))) (hy : w.heap[b7]? = some (.cells #[y] 45 (0, 0))) : (results Tryz.f10 tmps).run Tryz.prog w = .ok (.tuple #[x, y, z]) w := by
  have h6' : tmps[6]?.getD undef = .pointer (some ⟨b6, 0, none⟩) := by simpa using h6
  have h7' : tmps[7]?.getD undef = .pointer (some ⟨b7, 0, none⟩) := by simpa using h7
  have h8' : tmps[8]?.getD undef = z := by simpa using h8
  have hc : w.cell? ⟨b6, 0, none⟩ = some x := blk_cell hx 0
  have hd : w.cell? ⟨b7, 0, none⟩ = some y := blk_cell hy 0
  have hr : (loadVar 4 ⟨b6, 0, none⟩).run Tryz.prog w = .ok x w := by simp [go_sem, hc]
  have hr2 : (loadVar 45 ⟨b7, 0, none⟩).run Tryz.prog w = .ok y w := by simp [go_sem, hd]
  simp [results, Tryz.f10, h6', h7', h8', asAddr, hr, hr2]
set_option maxHeartbeats 1000000 in
set_option maxRecDepth 100000 in
theorem roundsN (w : World) (sb M k : Nat) (A : Option Addr) (c : Nat) (ws : List Nat) (hs : SW w sb ws) (hn : Num w A c [M]) (ho : M % 2 = 1) (h3 : 3 < M) (h64 : bl M = 64) (hk1 : k ≤ 100) (hodd : (oddP (M - 1) 0).2 ≤ 1000) :
    Calls Tryz.prog 10 #[.pointer (some ⟨sb, 0, none⟩), .slice A 1 c, .int .i64 (k : Int)] w (RoundsP w sb M k ws) := by
  have hmf : ∀ (fn : Fn) (first cap : Array Value) (w : World), (Instr.makeFunc fn first cap).run Tryz.prog w = .ok (.func fn first cap) w := fun _ _ _ _ => rfl
  have HF0 := ((((((Fs.nil w hs.lt).alloc (.cells #[.pointer (some ⟨sb, 0, none⟩)] 48)).alloc (.cells #[.slice A 1 c] 26)).alloc (.cells #[.int .i64 (k : Int)] 3)).alloc (.cells #[.bool false] 4)).alloc (.cells #[.slice none 0 0] 45))
  simp only [List.nil_append, List.cons_append, World.size_alloc] at HF0
  have hb : Below w.heap.size w (((((w.alloc (.cells #[.pointer (some ⟨sb, 0, none⟩)] 48)).alloc (.cells #[.slice A 1 c] 26)).alloc (.cells #[.int .i64 (k : Int)] 3)).alloc (.cells #[.bool false] 4)).alloc (.cells #[.slice none 0 0] 45)) := by
    repeat (first | exact Below.refl _ _ | apply below_alloc)
  have HG := Aside0.mk (guardR w _ sb _ _ _ _ _ M k A c ws HF0 (hs.below hb) (hn.below hb) ho h3 h64 hk1 hodd)
  clear hb HF0 hs hn ho h3 h64 hk1 hodd
  go_enter Tryz.func10, Tryz.ntmps10
  go_wp2_with fail
  refine HG.out.mono ?_
  intro e w1 hp
  rcases hp with ⟨is, r, Av, mv, cv, hrw, rfl, hsw, hF⟩ | ⟨hrw, rfl, hsw, v, hF⟩
  · have HE := Aside0.mk (And.intro hrw (And.intro hsw hF))
    have q3 := hF.cell 3 rfl 0 rfl
    have q4 := hF.cell 4 rfl 0 rfl
    have f3 := hF.frozen 3 rfl 0
    have g1 := hF.set_ 3 rfl 0 (.bool is)
    have q4' := g1.cell 4 rfl 0 rfl
    have f4' := g1.frozen 4 rfl 0
    have g2 := g1.set_ 4 rfl 0 (.slice Av mv cv)
    have q3'' := g2.cell 3 rfl 0 rfl
    have q4'' := g2.cell 4 rfl 0 rfl
    have HG2 := Aside0.mk g2
    have HS := Aside0.mk (And.intro ((hsw.kb (Kb.set_ (hF.at 3 rfl) (by decide) 0 (.bool is))).kb (Kb.set_ (g1.at 4 rfl) (by decide) 0 (.slice Av mv cv))) g2.bel)
    clear hrw hsw hF HG g1 g2
    go_wp2_with fail
    go_region
    go_wp2_with fail
    refine bodyPost_ret (results_rounds rfl rfl rfl (HG2.out.at 3 rfl) (HG2.out.at 4 rfl)) rfl ?_
    exact .inl ⟨is, r, _, HE.out.1, rfl, HS.out.1.below (pw_below_drewN (Below.refl _ _) 1), HS.out.2.trans (But.of_below (pw_below_drewN (Below.refl _ _) 1))⟩
  · have HE := Aside0.mk (And.intro hrw (And.intro hsw hF))
    have q3 := hF.cell 3 rfl 0 rfl
    have f3 := hF.frozen 3 rfl 0
    have g1 := hF.set_ 3 rfl 0 (.bool false)
    have q4' := g1.cell 4 rfl 0 rfl
    have f4' := g1.frozen 4 rfl 0
    have g2 := g1.set_ 4 rfl 0 (.slice none 0 0)
    have q3'' := g2.cell 3 rfl 0 rfl
    have q4'' := g2.cell 4 rfl 0 rfl
    have HG2 := Aside0.mk g2
    have HS := Aside0.mk (And.intro ((hsw.kb (Kb.set_ (hF.at 3 rfl) (by decide) 0 (.bool false))).kb (Kb.set_ (g1.at 4 rfl) (by decide) 0 (.slice none 0 0))) g2.bel)
    clear hrw hsw hF HG g1 g2
    go_wp2_with fail
    refine bodyPost_ret (results_rounds rfl rfl rfl (HG2.out.at 3 rfl) (HG2.out.at 4 rfl)) rfl ?_
    exact .inr ⟨HE.out.1, rfl, HS.out⟩
end Go.Proofs.YtjpibgehhgaopaaGreat.Top
/- The sieve's row of 10001 noughts. -/
namespace Go.Proofs.YtjpibgehhgaopaaGreat.Top
open Go.RowKit Go.Proofs.YtjpibgehhgaopaaGreatW.PrintWords Go.Proofs.YtjpibgehhgaopaaGreatW.PrintLast Go.Proofs.YtjpibgehhgaopaaGreat.PTopGenerated
set_option linter.unusedVariables false
set_option linter.unusedSimpArgs false

def isZ : Value → Bool
  | .int .u8 x => decide (x = 0)
  | _ => false
theorem isZ_eq {v : Value} (h : isZ v = true) : v = .int .u8 0 := by
  cases v with
  | int k x =>
    cases k <;> simp [isZ] at h
    rw [h]
  | _ => simp [isZ] at h
structure Zs (l : List Value) (n : Nat) : Prop where
  all : ∀ x ∈ l, x = .int .u8 0
  len : l.length = n
theorem Zs.app {l1 l2 : List Value} {n m : Nat} (h : Zs l1 n) (k : Zs l2 m) : Zs (List.append l1 l2) (n + m) :=
  ⟨fun x hx => (List.mem_append.1 hx).elim (h.all x) (k.all x), by rw [← h.len, ← k.len]; exact List.length_append⟩
theorem Zs.leaf {l : List Value} (h : l.all isZ = true) : Zs l l.length := ⟨fun x hx => isZ_eq (List.all_eq_true.1 h x hx), rfl⟩
theorem Zs.rep {l : List Value} {n : Nat} (h : Zs l n) : l = List.replicate n (.int .u8 0) := List.eq_replicate_iff.2 ⟨h.len, h.all⟩
set_option maxRecDepth 100000 in
theorem zeros305 : ∃ l, Tryz.t305.zero = some (.agg (List.toArray l)) ∧ ∃ n, Zs l n ∧ n = 10001 := by
  refine ⟨_, by unfold Tryz.t305; rfl, ?_⟩
  apply Exists.intro
  apply And.intro
  · repeat' (first | apply Zs.app | exact Zs.leaf rfl)
  · kernel_rfl
/-- 10001 noughts. -/
@[irreducible] def zz : Array Value := (List.replicate 10001 (.int .u8 0)).toArray
theorem zz_size : zz.size = 10001 := by unfold zz; rw [List.size_toArray, List.length_replicate]
theorem zz_at {j : Nat} (h : j < 10001) : zz[j]? = some (.int .u8 0) := by unfold zz; rw [List.getElem?_toArray, List.getElem?_replicate, if_pos h]
theorem t305_zero : Tryz.t305.zero = some (.agg zz) := by
  obtain ⟨l, h1, n, h2, rfl⟩ := zeros305
  rw [h1, h2.rep]
  unfold zz
  rfl
theorem info305 : Tryz.prog.info? 305 = some Tryz.t305 := by kernel_rfl
theorem alloc305 (W : World) : (Instr.alloc 305 true (.tuple #[])).run Tryz.prog W = .ok (.pointer (some ⟨W.heap.size, 0, none⟩)) (W.alloc (.cells zz 305)) := by
  simp [Instr.alloc, zeroValue, typeInfo, go_sem, info305, t305_zero, newVar, Value.cells]
end Go.Proofs.YtjpibgehhgaopaaGreat.Top
/- The sieve's iterator. -/
namespace Go.Proofs.YtjpibgehhgaopaaGreat.Top
open Go.RowKit Go.Shelf Go.Proofs.YtjpibgehhgaopaaGreatW.PrintWords Go.Proofs.YtjpibgehhgaopaaGreatW.PrintLast Go.Proofs.YtjpibgehhgaopaaGreat.PTopGenerated Go.Proofs.YtjpibgehhgaopaaGreat.Rf
attribute [local go_sem] Oper.semAt_some
set_option linter.unusedVariables false
set_option linter.unusedSimpArgs false

/-- What is struck has a divisor below p. -/
structure StS (S : Array Value) (p : Nat) : Prop where
  size : S.size = 10001
  at_ : ∀ j, j < 10001 → S[j]? = some (.int .u8 0) ∨ (S[j]? = some (.int .u8 1) ∧ ∃ d, 2 ≤ d ∧ d < p ∧ d ∣ j)
theorem StS.zero : StS zz 2 := ⟨zz_size, fun j h => .inl (zz_at h)⟩
theorem StS.up {S : Array Value} {p : Nat} (h : StS S p) : StS S (p + 1) := ⟨h.size, fun j hj => (h.at_ j hj).imp id fun ⟨h1, d, h2, h3, h4⟩ => ⟨h1, d, h2, by omega, h4⟩⟩
theorem StS.mark {S : Array Value} {p k : Nat} (h : StS S (p + 1)) (hp : 2 ≤ p) (hk : p ∣ k) : StS (S.setIfInBounds k (.int .u8 1)) (p + 1) := by
  refine ⟨by simp [h.size], fun j hj => ?_⟩
  rw [Array.getElem?_setIfInBounds]
  split
  · rename_i e
    subst e
    rw [if_pos (by rw [h.size]; exact hj)]
    exact .inr ⟨rfl, p, hp, by omega, hk⟩
  · exact h.at_ j hj
theorem set_same {L : List (Nat × Obj)} {i : Nat} {o : Nat × Obj} (h : L[i]? = some o) : L.set i o = L := by
  apply List.ext_getElem?
  intro j
  rw [List.getElem?_set]
  split
  · rename_i e
    subst e
    rw [h, if_pos (List.getElem?_eq_some_iff.1 h).1]
  · rfl
theorem at_end (L : List (Nat × Obj)) (o : Nat × Obj) : (L ++ [o])[L.length]? = some o := by simp
theorem at_in {L : List (Nat × Obj)} {i : Nat} {o : Nat × Obj} (h : L[i]? = some o) (x : Nat × Obj) : (L ++ [x])[i]? = some o := by
  rw [List.getElem?_append_left (List.getElem?_eq_some_iff.1 h).1]; exact h
theorem set_end (L : List (Nat × Obj)) (o o' : Nat × Obj) : (L ++ [o]).set L.length o' = L ++ [o'] := by
  rw [List.set_append_right _ _ (Nat.le_refl _), Nat.sub_self]; rfl
theorem msr_up (p N : Nat) (h : p ≤ N) : N + 2 - (intOf (Value.int .i64 ((p + 1 : Nat) : Int))).toNat < N + 2 - (intOf (Value.int .i64 (p : Int))).toNat := by
  simp only [intOf, Int.toNat_natCast]
  omega
theorem msr_in (k p N : Nat) (h : k ≤ N) (hp : 2 ≤ p) : N + 1 - (intOf (Value.int .i64 ((k + p : Nat) : Int))).toNat < N + 1 - (intOf (Value.int .i64 (k : Int))).toNat := by
  simp only [intOf, Int.toNat_natCast]
  omega
theorem zc305 : Tryz.zeroCells305 = zz := by
  have h := t305_zero
  have h2 : Tryz.t305.zero = some (.agg Tryz.zeroCells305) := by rfl
  rw [h2] at h
  injection h with h
  injection h with h
set_option maxHeartbeats 2000000 in
set_option maxRecDepth 100000 in
theorem each_in (n l bx N : Nat) (w : World) (L : List (Nat × Obj)) (ib : Nat) (G : Nat → Prop) (Jx : World → Prop) (hG : ∀ d k, d ∣ k → G d → G k) (hN : N ≤ 10000)
    (hib : L[ib]? = some (bx, .cells #[.int .i64 (N : Int)] 3))
    (hY : ∀ p S q W m, 2 ≤ p → p ≤ N → Fr w W (L ++ [(q, .cells S 305)]) → YieldAt Fence.wide m Tryz.prog l #[.int .i64 (p : Int)] W fun e W' => ∃ b : Bool, e = .returned (.bool b) ∧ (b = true → Fr w W' (L ++ [(q, .cells S 305)]) ∧ G p) ∧ (b = false → Jx W'))
    (W : World) (hW : Fr w W L) :
    CallsIn Fence.wide n Tryz.prog 251 #[.func (.yield l) #[] #[], .pointer (some ⟨bx, 0, none⟩)] W fun e W' => (∃ v, e = .returned v) ∧ ((∃ q S, Fr w W' (L ++ [(q, .cells S 305)]) ∧ ∀ k, 2 ≤ k → k ≤ N → G k) ∨ Jx W') := by
  have HJ := Aside0.mk (And.intro hG hY)
  have HIB := Aside0.mk hib
  have H0 := Aside0.mk hW
  have g0 : W.cell? ⟨bx, 0, none⟩ = some (.int .i64 (N : Int)) := hW.cell ib hib 0 rfl
  have f0 := hW.frozen ib hib 0
  have hs0 : W.setCell ⟨bx, 0, none⟩ (.int .i64 (N : Int)) = W := setCell_self (hW.at ib hib) rfl
  have hmin : min (N : Int) 10000 = (N : Int) := by omega
  have H1 := Aside0.mk (hW.alloc (.cells zz 305))
  clear hG hY hib hW
  refine callsIn_of_wp Tryz.func251 rfl trivial ?_ rfl
  simp only [Tryz.ntmps251, List.size_toArray, List.length_cons, List.length_nil, Nat.reduceAdd, Nat.reduceSub, Array.replicate_succ, Array.replicate_zero, List.push_toArray, List.append_toArray, List.nil_append, List.cons_append]
  refine wpIn_wide.2 ?_
  go_wp2_with fail
  go_step3
  go_wp2_with fail
  go_step3
  go_wp2_with fail
  rw [zc305]
  refine (wpIn_wide (n := n)).1 ?_
  obtain ⟨q, hq⟩ : ∃ q, q = W.heap.size := ⟨_, rfl⟩
  obtain ⟨W1, hW1⟩ : ∃ W1, W1 = W.alloc (.cells zz 305) := ⟨_, rfl⟩
  rw [← hq, ← hW1] at H1
  rw [← hq, ← hW1]
  clear hq hW1 g0 f0 hs0 hmin H0
  gi_loopw [4] (fun v4 wr => ∃ (p : Nat) (S : Array Value), v4 = .int .i64 (p : Int) ∧ Aside0 (2 ≤ p ∧ p ≤ N + 2 ∧ StS S p) ∧ Aside0 (Fr w wr (L ++ [(q, .cells S 305)])) ∧ Aside0 (∀ k, 2 ≤ k → k < p → G k)) (fun v4 _ => N + 2 - (intOf v4).toNat)
  case atStart => exact ⟨2, zz, rfl, ⟨by omega, by omega, StS.zero⟩, H1, ⟨fun k h1 h2 => by omega⟩⟩
  case round =>
    clear H1
    obtain ⟨p, S, rfl, HP, HF, HGk⟩ := hrel
    have g0 : wr.cell? ⟨bx, 0, none⟩ = some (.int .i64 (N : Int)) := HF.out.cell ib (at_in HIB.out _) 0 rfl
    by_cases hp : p ≤ N
    · have t1 : decide ((p : Int) ≤ (N : Int)) = true := by rw [decide_eq_true_eq]; omega
      have hb1 : (0 : Int) ≤ (p : Int) := by omega
      have hb2 : (p : Int) < 10001 := by omega
      have hL := HF.out.at L.length (at_end L _)
      rcases HP.out.2.2.at_ p (by omega) with h0 | ⟨h1, d, hd2, hdp, hdd⟩
      · have c1 : wr.cell? ⟨q, p, none⟩ = some (.int .u8 0) := (blk_cell hL p).trans h0
        have wm : wrap64 ((p : Int) * (p : Int)) = ((p * p : Nat) : Int) := by
          have : p * p ≤ 10000 * 10000 := Nat.mul_le_mul (by omega) (by omega)
          exact wrap64_id (by have : ((p * p : Nat) : Int) = (p : Int) * (p : Int) := Int.natCast_mul p p; omega) (by have : ((p * p : Nat) : Int) = (p : Int) * (p : Int) := Int.natCast_mul p p; omega)
        clear h0 hL
        gi_wp2_with fail
        clear c1
        have HQ0 := Aside0.mk wm
        clear wm
        gi_loopw [5] (fun v5 wr => ∃ (k : Nat) (S' : Array Value), v5 = .int .i64 (k : Int) ∧ Aside0 (p ∣ k ∧ k ≤ 100000000 ∧ StS S' (p + 1)) ∧ Aside0 (Fr w wr (L ++ [(q, .cells S' 305)]))) (fun v5 _ => N + 1 - (intOf v5).toNat)
        case atStart => exact ⟨p * p, S, congrArg (Value.int .i64) HQ0.out, ⟨Nat.dvd_mul_right _ _, Nat.mul_le_mul (show p ≤ 10000 by omega) (show p ≤ 10000 by omega), HP.out.2.2.up⟩, HF⟩
        case round =>
          clear HF HQ0
          obtain ⟨k, S', rfl, HK, HF⟩ := hrel
          have g0 : wr.cell? ⟨bx, 0, none⟩ = some (.int .i64 (N : Int)) := HF.out.cell ib (at_in HIB.out _) 0 rfl
          by_cases hk : k ≤ N
          · have t2 : decide ((k : Int) ≤ (N : Int)) = true := by rw [decide_eq_true_eq]; omega
            have hc1 : (0 : Int) ≤ (k : Int) := by omega
            have hc2 : (k : Int) < 10001 := by omega
            have hL := HF.out.at L.length (at_end L _)
            have hf := HF.out.frozen L.length (at_end L _) k
            have c1 : ∃ v, wr.cell? ⟨q, k, none⟩ = some v := by
              rcases HK.out.2.2.at_ k (by omega) with h0 | ⟨h1, _⟩
              · exact ⟨_, (blk_cell hL k).trans h0⟩
              · exact ⟨_, (blk_cell hL k).trans h1⟩
            obtain ⟨v, c1⟩ := c1
            have HF2 := HF.out.set_ L.length (at_end L _) k (.int .u8 1)
            rw [set_end] at HF2
            have HF3 := Aside0.mk HF2
            have wk : wrap64 ((k : Int) + (p : Int)) = ((k + p : Nat) : Int) := wrap64_id (by omega) (by omega)
            have HM := Aside0.mk (HK.out.2.2.mark HP.out.1 HK.out.1)
            clear HF2 hL
            gi_wp2_with fail
            exact ⟨⟨k + p, _, by first | rfl | exact congrArg (Value.int .i64) wk, ⟨Nat.dvd_add HK.out.1 (Nat.dvd_refl p), by have := HP.out.1; omega, HM.out⟩, HF3⟩, by first | exact msr_in k p N hk HP.out.1 | (rw [wk]; exact msr_in k p N hk HP.out.1)⟩
          · have t2 : decide ((k : Int) ≤ (N : Int)) = false := by rw [decide_eq_false_iff_not]; omega
            obtain ⟨fn, tmps, assign, body, hy, hRd⟩ := HJ.out.2 p S' q wr (n - 1) HP.out.1 hp HF.out
            have w9 : wrap64 ((p : Int) + 1) = ((p + 1 : Nat) : Int) := wrap64_id (by omega) (by omega)
            gi_wp2_with fail
            refine ⟨(fun h => by cases h), ?_⟩
            refine hRd.mono ?_
            rintro e W3 ⟨b, rfl, hb1, hb2⟩
            cases b
            · have HX := Aside0.mk (hb2 rfl)
              clear hb1 hb2
              gi_wp2_with (fail)
              rw [Exit.noGoto_ret]
              show bodyPost _ _ _ _ _ _
              refine bodyPost_ret (results_none rfl _ _ _) rfl ?_
              exact ⟨⟨_, rfl⟩, .inr HX.out⟩
            · obtain ⟨h1, h2⟩ := hb1 rfl
              have HX := Aside0.mk h1
              have HG2 := Aside0.mk (show ∀ k, 2 ≤ k → k < p + 1 → G k from fun k' h3 h4 => by
                by_cases hk' : k' < p
                · exact HGk.out k' h3 hk'
                · obtain rfl : k' = p := by omega
                  exact h2)
              clear hb1 hb2 h1 h2
              gi_wp2_with (fail)
              exact ⟨⟨p + 1, S', by first | rfl | exact congrArg (Value.int .i64) w9, ⟨by have := HP.out.1; omega, by omega, HK.out.2.2⟩, HX, HG2⟩, by first | exact msr_up p N hp | (rw [w9]; exact msr_up p N hp)⟩
      · have c1 : wr.cell? ⟨q, p, none⟩ = some (.int .u8 1) := (blk_cell hL p).trans h1
        have w9 : wrap64 ((p : Int) + 1) = ((p + 1 : Nat) : Int) := wrap64_id (by omega) (by omega)
        have HG2 := Aside0.mk (show ∀ k, 2 ≤ k → k < p + 1 → G k from fun k h2 h3 => by
          by_cases hk : k < p
          · exact HGk.out k h2 hk
          · obtain rfl : k = p := by omega
            exact HJ.out.1 d k hdd (HGk.out d hd2 hdp))
        clear h1 hL hdd
        gi_wp2_with fail
        exact ⟨⟨p + 1, S, by first | rfl | exact congrArg (Value.int .i64) w9, ⟨by omega, by omega, HP.out.2.2.up⟩, HF, HG2⟩, by first | exact msr_up p N hp | (rw [w9]; exact msr_up p N hp)⟩
    · have t1 : decide ((p : Int) ≤ (N : Int)) = false := by rw [decide_eq_false_iff_not]; omega
      gi_wp2_with fail
      rw [Exit.noGoto_normal]
      show bodyPost _ _ _ _ _ _
      go_end0
      exact ⟨⟨_, rfl⟩, .inl ⟨q, S, HF.out, fun k h1 h2 => HGk.out k h1 (by omega)⟩⟩
end Go.Proofs.YtjpibgehhgaopaaGreat.Top
