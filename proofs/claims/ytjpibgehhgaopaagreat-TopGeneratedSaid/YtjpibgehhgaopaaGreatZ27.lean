/- The sieve's Factor and Passes, of one word. -/
import Derived.Test.YtjpibgehhgaopaaGreatZ26
namespace Go.Proofs.YtjpibgehhgaopaaGreat.Top
open Go.RowKit Go.Shelf Go.Proofs.YtjpibgehhgaopaaGreatW.PrintWords Go.Proofs.YtjpibgehhgaopaaGreatW.PrintLast Go.Proofs.YtjpibgehhgaopaaGreat.PTopGenerated Go.Proofs.YtjpibgehhgaopaaGreat.Rf
attribute [local go_sem] Oper.semAt_some
set_option linter.unusedVariables false
set_option linter.unusedSimpArgs false

set_option maxRecDepth 100000 in
theorem eachN (N : Int) (w : World) : Calls Tryz.prog 248 #[.int .i64 N] w fun x w' => x = .returned (.func (.func 251) #[] #[.pointer (some ⟨w.heap.size, 0, none⟩)]) ∧ w' = w.alloc (.cells #[.int .i64 N] 3) := by
  go_enter Tryz.func248, Tryz.ntmps248
  go_wp2_with fail
  go_ret
  exact ⟨rfl, rfl⟩
/-- Factor's blocks. -/
def FacL (s : Nat) (A : Option Addr) (c N : Nat) (pv : Int) (r : Loop) : List (Nat × Obj) :=
  [(s, .cells #[.slice A 1 c] 26), (s + 1, .cells #[.int .i64 pv] 3), (s + 1 + 1, .cells #[.int .i64 (N : Int)] 3), (s + 1 + 1 + 1, .deferred (some [])), (s + 1 + 1 + 1 + 1, .loop r)]
set_option maxHeartbeats 2000000 in
set_option maxRecDepth 100000 in
theorem factorN (A : Option Addr) (c x N : Nat) (w : World) (hx : Num w A c [x]) (hN : N ≤ 10000) :
    Calls Tryz.prog 237 #[.slice A 1 c, .int .i64 (N : Int)] w fun e w' => ∃ p : Nat, e = .returned (.int .i64 (p : Int)) ∧ Below w.heap.size w w' ∧ ((p = 0 ∧ ∀ k, 2 ≤ k → k ≤ N → x % k ≠ 0) ∨ (2 ≤ p ∧ p ≤ N ∧ x % p = 0)) := by
  have HX := Aside0.mk hx
  obtain ⟨s, hs⟩ : ∃ s, s = w.heap.size := ⟨_, rfl⟩
  have H0 := Aside0.mk (fun r => ((((((Fr.nil w).alloc (.cells #[.slice A 1 c] 26)).alloc (.cells #[.int .i64 0] 3)).alloc (.cells #[.int .i64 (N : Int)] 3)).alloc (.deferred (some []))).alloc (.loop r)))
  simp only [World.size_alloc, ← hs, List.nil_append, List.cons_append] at H0
  clear hx
  refine (callsIn_wide (n := 3)).1 ?_
  refine callsIn_of_wp_marks Tryz.func237 rfl trivial ?_ rfl
  simp only [Tryz.ntmps237, List.size_toArray, List.length_cons, List.length_nil, Nat.reduceAdd, Nat.reduceSub, Array.replicate_succ, Array.replicate_zero, List.push_toArray, List.append_toArray, List.nil_append, List.cons_append]
  refine wpIn_wide.2 ?_
  go_wp2_with fail
  refine (eachN _ _).mono ?_
  rintro e w4 ⟨rfl, rfl⟩
  go_wp2_with fail
  rw [← hs]
  obtain ⟨wl, hwl⟩ : ∃ wl, wl = ((w.alloc (.cells #[.slice A 1 c] 26)).alloc (.cells #[.int .i64 0] 3)).alloc (.cells #[.int .i64 (N : Int)] 3) := ⟨_, rfl⟩
  have hsz : wl.heap.size = s + 1 + 1 + 1 := by rw [hwl, hs]; simp
  rw [← hwl] at H0 ⊢
  change Aside0 (∀ r, Fr w ((wl.alloc (.deferred (some []))).alloc (.loop r)) (FacL s A c N 0 r)) at H0
  have HS := Aside0.mk hs
  clear hwl hs
  refine (wpIn_wide (n := 3)).1 ?_
  refine wp_rangeFunc (gf := 251) (lb := #[.pointer (some ⟨s + 1 + 1, 0, none⟩)]) rfl (enters_of Tryz.func251 (by kernel_rfl) rfl)
    (fun W => ∃ r, Fr w W (FacL s A c N 0 r) ∧ ∀ k, 2 ≤ k → k ≤ N → x % k ≠ 0) (fun k W => k = .ret ∧ ∃ (p : Nat) (r : Loop), Fr w W (FacL s A c N p r) ∧ 2 ≤ p ∧ p ≤ N ∧ x % p = 0) ?call ?done ?stop
  case call =>
    intro fn rec hrec
    rw [hsz]
    refine (each_in 2 (s + 1 + 1 + 1 + 1) (s + 1 + 1) N w (FacL s A c N 0 (rec .ready none)) 2 (fun k => x % k ≠ 0) (fun W => ∃ (p : Nat), Fr w W (FacL s A c N p (rec .done (some .ret))) ∧ 2 ≤ p ∧ p ≤ N ∧ x % p = 0) ?_ hN rfl ?_ _ (H0.out _)).mono ?_
    · intro d k hdk hd hk
      exact hd (Nat.mod_eq_zero_of_dvd (Nat.dvd_trans hdk (Nat.dvd_of_mod_eq_zero hk)))
    · intro p S q W m hp2 hpN h
      have HF0 := Aside0.mk h
      clear h
      refine yield_at hrec (HF0.out.at 4 rfl) rfl ?_
      gi_wp2_with fail
      refine ⟨HF0.out.at 4 rfl, ?_⟩
      have HF := Aside0.mk (HF0.out.put 4 rfl (.loop (rec .busy none)))
      obtain ⟨Wb, hWb⟩ : ∃ Wb, Wb = W.putObj (s + 1 + 1 + 1 + 1) (.loop (rec .busy none)) := ⟨_, rfl⟩
      rw [← hWb] at HF ⊢
      clear hWb HF0
      have g0 : Wb.cell? ⟨s, 0, none⟩ = some (.slice A 1 c) := HF.out.cell 0 rfl 0 rfl
      have wu : IntKind.u64.wrap (p : Int) = (p : Int) := by rw [IntKind.wrap_u64]; omega
      have HSm := Aside0.mk (smallN A c x p Wb (HX.out.fr HF.out) (by omega) (by omega))
      gi_wp2_with fail
      refine ⟨trivial, (fun h => by cases h), ?_⟩
      refine ((callsIn_wide.2 HSm.out).inRound _).mono ?_
      rintro e w5 ⟨rfl, k5, rfl⟩
      have HF5 := Aside0.mk (HF.out.drewN k5)
      obtain ⟨Wc, hWc⟩ : ∃ Wc, Wc = Wb.drewN k5 := ⟨_, rfl⟩
      rw [← hWc] at HF5 ⊢
      clear hWc HF HSm g0
      by_cases hr : x % p = 0
      · have t2 : (((x % p : Nat) : Int) == 0) = true := by rw [hr]; rfl
        have HRp := Aside0.mk hr
        clear hr
        have g1 : Wc.cell? ⟨s + 1, 0, none⟩ = some (.int .i64 0) := HF5.out.cell 1 rfl 0 rfl
        have f1 : Wc.frozen? ⟨s + 1, 0, none⟩ = false := HF5.out.frozen 1 rfl 0
        gi_wp2_with fail
        have HN := HF5.out.set_ 1 rfl 0 (.int .i64 (p : Int))
        refine ⟨HN.at 4 rfl, false, rfl, (fun h => by cases h), fun _ => ⟨p, ?_, hp2, hpN, HRp.out⟩⟩
        exact (HN.put 4 rfl (.loop (rec .done (some .ret)))).sub (List.sublist_append_left (FacL s A c N p (rec .done (some .ret))) [(q, .cells S 305)])
      · have t2 : (((x % p : Nat) : Int) == 0) = false := by simp; omega
        have HRp := Aside0.mk hr
        clear hr
        gi_wp2_with fail
        exact ⟨HF5.out.at 4 rfl, true, rfl, (fun _ => ⟨HF5.out.put 4 rfl _, HRp.out⟩), fun h => by cases h⟩
    · rintro e W ⟨he, hW⟩
      refine ⟨he, ?_⟩
      rcases hW with ⟨q, S, h, hk⟩ | ⟨p, h, h2⟩
      · exact .inl ⟨h.at 4 rfl, _, h.sub (List.sublist_append_left _ [_]), hk⟩
      · exact .inr ⟨.ret, h.at 4 rfl, rfl, p, _, h, h2⟩
  case done =>
    rintro W o ⟨r, h, hk⟩ hlo o'
    rw [hsz] at hlo ⊢
    have HF := Aside0.mk (h.put 4 rfl (.loop o'))
    obtain ⟨Wb, hWb⟩ : ∃ Wb, Wb = W.putObj (s + 1 + 1 + 1 + 1) (.loop o') := ⟨_, rfl⟩
    rw [← hWb] at HF ⊢
    clear hWb h hlo
    have g1 : Wb.cell? ⟨s + 1, 0, none⟩ = some (.int .i64 0) := HF.out.cell 1 rfl 0 rfl
    have f1 : Wb.frozen? ⟨s + 1, 0, none⟩ = false := HF.out.frozen 1 rfl 0
    go_wp2_with fail
    have HR := Aside0.mk (HF.out.set_ 1 rfl 0 (.int .i64 0))
    refine ⟨by simp, .inl ⟨_, _, rfl, run_takeDeferred (HR.out.at 3 rfl), ?_⟩⟩
    have HD := HR.out.put 3 rfl (.deferred none)
    refine ⟨.int .i64 0, ?_, 0, rfl, ?_, .inl ⟨rfl, hk⟩⟩
    · have q4 := HD.cell 1 rfl 0 rfl
      simp [results, Tryz.f237, go_sem, q4]
    · exact HD.bel
  case stop =>
    rintro k W o ⟨rfl, p, r, h, hp⟩ hlo o'
    rw [hsz] at hlo ⊢
    have HF := Aside0.mk (h.put 4 rfl (.loop o'))
    obtain ⟨Wb, hWb⟩ : ∃ Wb, Wb = W.putObj (s + 1 + 1 + 1 + 1) (.loop o') := ⟨_, rfl⟩
    rw [← hWb] at HF ⊢
    clear hWb h hlo
    gi_wp2_with fail
    refine ⟨by simp, .inl ⟨_, _, rfl, run_takeDeferred (HF.out.at 3 rfl), ?_⟩⟩
    have HD := HF.out.put 3 rfl (.deferred none)
    refine ⟨.int .i64 p, ?_, p, rfl, ?_, .inr hp⟩
    · have q4 := HD.cell 1 rfl 0 rfl
      simp [results, Tryz.f237, go_sem, q4]
    · exact HD.bel
/-- No number from 2 to 1000 divides. -/
def passF (x : Nat) : Bool := (List.range 1001).all fun k => decide (k < 2) || decide (x % k ≠ 0)
theorem passF_true {x : Nat} (h : ∀ k, 2 ≤ k → k ≤ 1000 → x % k ≠ 0) : passF x = true := by
  unfold passF
  rw [List.all_eq_true]
  intro k hk
  rw [List.mem_range] at hk
  rw [Bool.or_eq_true, decide_eq_true_eq, decide_eq_true_eq]
  by_cases h2 : k < 2
  · exact .inl h2
  · exact .inr (h k (by omega) (by omega))
theorem passF_of {x : Nat} (h : passF x = true) {k : Nat} (h2 : 2 ≤ k) (h1 : k ≤ 1000) : x % k ≠ 0 := by
  unfold passF at h
  rw [List.all_eq_true] at h
  have := h k (List.mem_range.2 (by omega))
  rw [Bool.or_eq_true, decide_eq_true_eq, decide_eq_true_eq] at this
  rcases this with h3 | h3
  · omega
  · exact h3
theorem passF_false {x k : Nat} (h2 : 2 ≤ k) (h1 : k ≤ 1000) (h : x % k = 0) : passF x = false := by
  rcases hp : passF x with _ | _
  · rfl
  · exact absurd h (passF_of hp h2 h1)
set_option maxHeartbeats 1000000 in
set_option maxRecDepth 100000 in
theorem passesN (A : Option Addr) (c x : Nat) (w : World) (h : Num w A c [x]) (hx : 1000 < x) :
    Calls Tryz.prog 220 #[.slice A 1 c] w fun e w' => e = .returned (.bool (passF x)) ∧ Below w.heap.size w w' := by
  have HN := Aside0.mk h
  have HB := Aside0.mk (bitsN A c [x] w h (by simp))
  rw [val_one] at HB
  have HFa := Aside0.mk (factorN A c x 1000 w h (by omega))
  have tb : decide ((bl x : Int) < 2) = false := by
    have := bl_two (show 2 ≤ x by omega)
    rw [decide_eq_false_iff_not]; omega
  generalize bl x = bx at *
  clear h
  go_enter Tryz.func220, Tryz.ntmps220
  go_wp2_with fail
  refine HB.out.mono ?_
  rintro e w' ⟨rfl, rfl⟩
  go_wp2_with fail
  refine HFa.out.mono ?_
  rintro e w1 ⟨p, rfl, hb, hp⟩
  have HP := Aside0.mk hb
  rcases hp with ⟨rfl, hk⟩ | ⟨hp2, hp1, hp0⟩
  · have HR := Aside0.mk (passF_true hk)
    clear hk hb tb
    go_wp2_with fail
    go_ret
    exact ⟨by rw [HR.out]; rfl, HP.out⟩
  · have HR := Aside0.mk (passF_false hp2 hp1 hp0)
    have wu : IntKind.u64.wrap (p : Int) = (p : Int) := by rw [IntKind.wrap_u64]; omega
    have t0 : ((p : Int) == 0) = false := by simp; omega
    have HC := Aside0.mk (compareN A (some ⟨w1.heap.size, 0, none⟩) c 1 [x] [p] (w1.alloc (.cells #[.int .u64 (p : Int)] 23)) ((HN.out.below hb).below (below_alloc (Below.refl _ _) _)) (num_of_blk (l := [p]) (heap_alloc_new _ _) (W64_one (by omega)) (by simp) (by simp)) (by simp) (by simp))
    simp only [val_one, List.length_singleton] at HC
    have hcmp := cmp_eq x p
    rw [decide_eq_false (show ¬ x = p by omega)] at hcmp
    obtain ⟨cx, hcx⟩ : ∃ cx, cx = cmpI x p := ⟨_, rfl⟩
    rw [← hcx] at HC hcmp
    have HP2 := Aside0.mk (hb.alloc hb.size (.cells #[.int .u64 (p : Int)] 23))
    clear hcx hb tb
    go_wp2_with fail
    refine HC.out.mono ?_
    rintro e w' ⟨rfl, rfl⟩
    go_wp2_with fail
    go_ret
    exact ⟨by rw [HR.out]; rfl, HP2.out⟩
end Go.Proofs.YtjpibgehhgaopaaGreat.Top
/- prime's small parts: sized, must, small, Good. -/
namespace Go.Proofs.YtjpibgehhgaopaaGreat.Top
open Go.RowKit Go.Proofs.YtjpibgehhgaopaaGreatW.PrintWords Go.Proofs.YtjpibgehhgaopaaGreatW.PrintLast Go.Proofs.YtjpibgehhgaopaaGreat.PTopGenerated
set_option linter.unusedVariables false
set_option linter.unusedSimpArgs false

set_option maxRecDepth 100000 in
theorem sized64 (w : World) : Calls Tryz.prog 149 #[.int .i64 64] w fun e w' => e = .returned (.bool true) ∧ w' = w := by
  go_enter Tryz.func149, Tryz.ntmps149
  go_wp2_with fail
  go_ret
  exact ⟨rfl, rfl⟩
set_option maxRecDepth 100000 in
theorem mustD (w : World) : Calls Tryz.prog 189 #[.int .i64 0] w fun x w' => x = .returned (.tuple #[]) ∧ w' = w := by
  go_enter Tryz.func189, Tryz.ntmps189
  go_wp2_with fail
  go_end0
  exact ⟨rfl, rfl⟩
set_option maxRecDepth 100000 in
theorem mustDbad (e : Int) (he : e ≠ 0) (w : World) : Calls Tryz.prog 189 #[.int .i64 e] w fun x w' => x = .panicked [{ v := .iface 202 (.agg #[.int .i64 e]), recovered := false }] ∧ w' = w := by
  have t1 : (e == 0) = false := by simp [he]
  go_enter Tryz.func189, Tryz.ntmps189
  go_wp2_with fail
  exact ⟨rfl, rfl, rfl⟩
set_option maxRecDepth 100000 in
theorem smallP (A : Option Addr) (c : Nat) (w : World) : Calls Tryz.prog 221 #[.slice A 1 c] w fun x w' => x = .returned (.slice A 1 c) ∧ w' = w := by
  go_enter Tryz.func221, Tryz.ntmps221
  go_wp2_with fail
  go_loopw [0] (fun v0 wr => v0 = .slice A 1 c ∧ wr = w) (fun _ _ => 0)
  case atStart => exact ⟨rfl, rfl⟩
  case round =>
    obtain ⟨rfl, rfl⟩ := hrel
    go_wp2_with fail
    go_ret
    exact ⟨rfl, rfl⟩
/-- What Good answers. -/
def goodF (e x : Nat) : Bool := passF x && decide (Nat.gcd (x - 1) e = 1)
set_option maxHeartbeats 1000000 in
set_option maxRecDepth 100000 in
theorem goodN (A : Option Addr) (c x e : Nat) (w : World) (h : Num w A c [x]) (hx : 1000 < x) (he : e ≠ 0) (he2 : e < 18446744073709551616) :
    Calls Tryz.prog 188 #[.slice A 1 c, .int .u64 (e : Int)] w fun en w' => en = .returned (.bool (goodF e x)) ∧ Below w.heap.size w w' := by
  have hpw := h.w64 x (by simp)
  have HN := Aside0.mk h
  have HB := Aside0.mk (bitsN A c [x] w h (by simp))
  rw [val_one] at HB
  have HPs := Aside0.mk (passesN A c x w h hx)
  have tb : (((bl x : Nat) : Int) == 0) = false := by
    have := bl_two (show 2 ≤ x by omega)
    simp
    omega
  have te : ((e : Int) == 0) = false := by simp; omega
  generalize bl x = bx at *
  have HS := Aside0.mk (fun (w1 : World) (hb : Below w.heap.size w w1) => by
    have hb0 := below_alloc (Below.refl _ w1) (.cells #[.int .u64 1] 23)
    have hone : Num (w1.alloc (.cells #[.int .u64 1] 23)) (some ⟨w1.heap.size, 0, none⟩) 1 [1] := num_of_blk (l := [1]) (heap_alloc_new w1 _) (W64_one (by omega)) (by simp) (by simp)
    have hs := sub0 A (some ⟨w1.heap.size, 0, none⟩) c 1 [x] [1] 1 _ ((h.below hb).below hb0) hone rfl (by omega)
    simp only [val_one, List.length_singleton, Nat.pow_one] at hs
    rw [if_neg (show ¬ x < 1 by omega)] at hs
    have e0 : (x + 18446744073709551616 - 1) % 18446744073709551616 = x - 1 := by omega
    have e1 : digs 1 (x + 18446744073709551616 - 1) = [x - 1] := by rw [digs1, e0]
    rw [e1] at hs
    exact hs)
  have HG := Aside0.mk (show goodF e x = (passF x && decide (Nat.gcd (x - 1) e = 1)) from rfl)
  generalize goodF e x = gf at *
  clear h
  go_enter Tryz.func188, Tryz.ntmps188
  go_wp2_with fail
  refine HB.out.mono ?_
  rintro e w' ⟨rfl, rfl⟩
  go_wp2_with fail
  refine HPs.out.mono ?_
  rintro en w1 ⟨rfl, hb⟩
  have HS1 := Aside0.mk (HS.out w1 hb)
  have HB1 := Aside0.mk hb
  clear hb
  rcases hpf : passF x with _ | _
  · have HR := Aside0.mk (show gf = false by rw [HG.out, hpf]; rfl)
    go_wp2_with fail
    go_ret
    exact ⟨by rw [HR.out]; rfl, HB1.out⟩
  · have HR := Aside0.mk (show gf = decide (Nat.gcd (x - 1) e = 1) by rw [HG.out, hpf]; rfl)
    clear hpf HG HS
    generalize x - 1 = y at *
    go_wp2_with fail
    refine HS1.out.mono ?_
    rintro en w2 ⟨v2, rfl, hr2⟩
    obtain ⟨A2, c2, rfl, hn2⟩ := hr2.num
    have HB2 := Aside0.mk ((HB1.out.alloc HB1.out.size (.cells #[.int .u64 1] 23)).trans (hr2.bel.mono (by have := HB1.out.size; simp; omega)))
    have HN2 := Aside0.mk hn2
    clear hr2 hn2
    go_wp2_with fail
    refine (smallP _ _ _).mono ?_
    rintro en w' ⟨rfl, rfl⟩
    have HD := Aside0.mk (divisor1 A2 (some ⟨w'.heap.size, 0, none⟩) c2 1 y e _ (HN2.out.below (below_alloc (Below.refl _ _) (.cells #[.int .u64 (e : Int)] 23))) (num_of_blk (l := [e]) (heap_alloc_new _ _) (W64_one he2) (by simp) (by simp)))
    have HB3 := Aside0.mk (HB2.out.alloc HB2.out.size (.cells #[.int .u64 (e : Int)] 23))
    go_wp2_with fail
    refine HD.out.mono ?_
    rintro en w4 ⟨v4, rfl, hr4⟩
    obtain ⟨A4, c4, rfl, hn4⟩ := hr4.num
    have HB4 := Aside0.mk (HB3.out.trans (hr4.bel.mono HB3.out.size))
    have HBg := Aside0.mk (bitsN A4 c4 [Nat.gcd y e] w4 hn4 (by simp))
    rw [val_one] at HBg
    have hone := bl_one (Nat.gcd y e)
    generalize bl (Nat.gcd y e) = bg at *
    clear hr4 hn4
    go_wp2_with fail
    refine HBg.out.mono ?_
    rintro en w' ⟨rfl, rfl⟩
    go_wp2_with fail
    go_ret
    exact ⟨by rw [HR.out]; rfl, HB4.out⟩
end Go.Proofs.YtjpibgehhgaopaaGreat.Top
/- prime's Candidate, of 64 bits. -/
namespace Go.Proofs.YtjpibgehhgaopaaGreat.Top
open Go.RowKit Go.Proofs.YtjpibgehhgaopaaGreatW.PrintWords Go.Proofs.YtjpibgehhgaopaaGreatW.PrintLast Go.Proofs.YtjpibgehhgaopaaGreat.PTopGenerated
set_option linter.unusedVariables false
set_option linter.unusedSimpArgs false

theorem orN {a b : Nat} (ha : a < 18446744073709551616) (hb : b < 18446744073709551616) : Go.bits .or .u64 (a : Int) (b : Int) = ((a ||| b : Nat) : Int) := by
  rw [or64, BitVec.toNat_or]
  have h : ∀ n : Nat, n < 18446744073709551616 → (bv6 (n : Int)).toNat = n := fun n hn => by
    show (BitVec.ofInt 64 (n : Int)).toNat = n
    rw [BitVec.toNat_ofInt]
    omega
  rw [h a ha, h b hb]
theorem or_lt {a b : Nat} (ha : a < 18446744073709551616) (hb : b < 18446744073709551616) : a ||| b < 18446744073709551616 := by
  rw [show (18446744073709551616 : Nat) = 2 ^ 64 by decide] at *
  exact Nat.or_lt_two_pow ha hb
/-- A candidate out of a word. -/
def candF (x : Nat) : Nat := ((x ||| 1) ||| 9223372036854775808) ||| 4611686018427387904
theorem candF_lt {x : Nat} (h : x < 18446744073709551616) : candF x < 18446744073709551616 := or_lt (or_lt (or_lt h (by omega)) (by omega)) (by omega)
theorem candF_ge (x : Nat) : 13835058055282163712 ≤ candF x := by
  unfold candF
  rw [Nat.or_assoc, show (9223372036854775808 ||| 4611686018427387904 : Nat) = 13835058055282163712 by decide]
  exact Nat.right_le_or
theorem candF_odd (x : Nat) : candF x % 2 = 1 := by
  unfold candF
  rw [show (2 : Nat) = 2 ^ 1 by rfl, Nat.or_mod_two_pow, Nat.or_mod_two_pow, Nat.or_mod_two_pow]
  have : x % 2 ^ 1 = 0 ∨ x % 2 ^ 1 = 1 := by omega
  rcases this with h | h <;> rw [h] <;> decide
theorem Res.drew {w w' : World} {v : Value} {r : List Nat} (h : Res w w' v r) (k : Nat) : Res w (w'.drewN k) v r :=
  ⟨own_move h.own fun _ _ => by simp, h.w64, h.bel.trans (pw_below_drewN (Below.refl _ _) k)⟩
theorem index292 (W : World) : (Instr.index 292 (.agg #[.int .i64 63, .int .i64 62]) (.int .i64 0)).run Tryz.prog W = .ok (.int .i64 63) W ∧ (Instr.index 292 (.agg #[.int .i64 63, .int .i64 62]) (.int .i64 1)).run Tryz.prog W = .ok (.int .i64 62) W := by
  constructor <;> simp [Instr.index, go_sem, run_underlying Tryz.underlying292, Result.andThen]
set_option maxHeartbeats 1000000 in
set_option maxRecDepth 100000 in
theorem candN (A : Option Addr) (c : Nat) (bs : List Int) (w : World) (hr : ReadsInt w .u8 A bs.length bs) (hl : bs.length = 8) (hcap : bs.length ≤ c) (hby : ∀ i : Nat, Byt (rd bs (i : Int))) :
    Calls Tryz.prog 219 #[.slice A 8 c, .int .i64 64] w fun e w' => ∃ v, e = .returned (.tuple #[v, .int .i64 0]) ∧ Res w w' v [candF (getI bs).toNat] := by
  have hi0 := fun W => (index292 W).1
  have hi1 := fun W => (index292 W).2
  have HO := Aside0.mk (ofN A c bs w hr (by omega) (by omega) hcap hby)
  rw [hl] at HO
  have hX : (getI bs).toNat < 18446744073709551616 := by have := getI_U bs; unfold U64 at this; omega
  generalize (getI bs).toNat = X at *
  clear hr hl hcap hby
  go_enter Tryz.func219, Tryz.ntmps219
  go_wp2_with fail
  refine (sized64 _).mono ?_
  rintro e w' ⟨rfl, rfl⟩
  go_wp2_with fail
  refine HO.out.mono ?_
  rintro e w1 ⟨v, rfl, hr1⟩
  obtain ⟨g, cap, rfl, _⟩ := hr1.own.form (by simp)
  obtain ⟨q1, q2⟩ := own_at hr1.own 0 (by omega) (by simp)
  rw [Int.toNat_zero] at q1 q2
  rw [show rd (nz [X]) 0 = (X : Int) from rfl] at q1
  have ha := and_full X hX
  have hself : w1.setCell ⟨g, 0, none⟩ (.int .u64 (X : Int)) = w1 := by
    rcases hr1.own.2 with ⟨h1, _⟩ | ⟨g', cap', cur, h1, _, hg, _⟩
    · cases h1
    · injection h1 with h1
      injection h1 with h1
      injection h1 with h1
      subst h1
      exact setCell_self hg ((blk_cell hg 0).symm.trans q1)
  have HR1 := Aside0.mk hr1
  clear hr1
  go_wp2_with fail
  go_region
  go_wp2_with fail
  have h1 := orN (a := X) (b := 1) hX (by omega)
  have hY : X ||| 1 < 18446744073709551616 := or_lt hX (by omega)
  rw [show Go.bits .or .u64 (X : Int) 1 = ((X ||| 1 : Nat) : Int) from h1]
  have HRS := Aside0.mk ((HR1.out.store1 hY).drew 1)
  obtain ⟨W2, hW2⟩ : ∃ W2, W2 = (w1.setCell ⟨g, 0, none⟩ (.int .u64 ((X ||| 1 : Nat) : Int))).drew := ⟨_, rfl⟩
  change Aside0 (Res w' (w1.setCell ⟨g, 0, none⟩ (.int .u64 ((X ||| 1 : Nat) : Int))).drew (.slice (some ⟨g, 0, none⟩) 1 cap) [X ||| 1]) at HRS
  rw [← hW2] at HRS
  rw [← hW2]
  have HC := Aside0.mk (show candF X = ((X ||| 1) ||| 9223372036854775808) ||| 4611686018427387904 from rfl)
  generalize X ||| 1 = Y at *
  clear hW2 h1 q1 q2 ha hself HR1 HO
  have HYl := Aside0.mk hY
  have hZ0 : Y ||| 9223372036854775808 < 18446744073709551616 := or_lt hY (by omega)
  have hV0 : (Y ||| 9223372036854775808) ||| 4611686018427387904 < 18446744073709551616 := or_lt hZ0 (by omega)
  have o1 : Go.bits .or .u64 (Y : Int) 9223372036854775808 = ((Y ||| 9223372036854775808 : Nat) : Int) := orN (b := 9223372036854775808) hY (by omega)
  have o2 : Go.bits .or .u64 ((Y ||| 9223372036854775808 : Nat) : Int) 4611686018427387904 = (((Y ||| 9223372036854775808) ||| 4611686018427387904 : Nat) : Int) := orN (b := 4611686018427387904) hZ0 (by omega)
  generalize (Y ||| 9223372036854775808) ||| 4611686018427387904 = V at *
  generalize Y ||| 9223372036854775808 = Z at *
  have HO1 := Aside0.mk o1
  have HO2 := Aside0.mk o2
  have HZ := Aside0.mk (And.intro hZ0 hV0)
  clear o1 o2 hZ0 hV0 hX hY
  go_loopw [54] (fun v54 wr => (v54 = .int .i64 0 ∧ Aside0 (Res w' wr (.slice (some ⟨g, 0, none⟩) 1 cap) [Y])) ∨ (v54 = .int .i64 1 ∧ Aside0 (Res w' wr (.slice (some ⟨g, 0, none⟩) 1 cap) [Z])) ∨ (v54 = .int .i64 2 ∧ Aside0 (Res w' wr (.slice (some ⟨g, 0, none⟩) 1 cap) [V]))) (fun v54 _ => 2 - (intOf v54).toNat)
  case atStart => exact .inl ⟨rfl, HRS⟩
  case round =>
    clear HRS
    rcases hrel with ⟨rfl, HR⟩ | ⟨rfl, HR⟩ | ⟨rfl, HR⟩
    · obtain ⟨q1, q2⟩ := own_at HR.out.own 0 (by omega) (by simp)
      rw [Int.toNat_zero] at q1 q2
      rw [show rd (nz [Y]) 0 = (Y : Int) from rfl] at q1
      go_wp2_with fail
      go_region
      go_wp2_with fail
      rw [HO1.out]
      exact ⟨.inr (.inl ⟨rfl, ⟨(HR.out.store1 HZ.out.1).drew 1⟩⟩), by decide⟩
    · obtain ⟨q1, q2⟩ := own_at HR.out.own 0 (by omega) (by simp)
      rw [Int.toNat_zero] at q1 q2
      rw [show rd (nz [Z]) 0 = (Z : Int) from rfl] at q1
      go_wp2_with fail
      go_region
      go_wp2_with fail
      rw [HO2.out]
      exact ⟨.inr (.inr ⟨rfl, ⟨(HR.out.store1 HZ.out.2).drew 1⟩⟩), by decide⟩
    · go_wp2_with fail
      go_ret2
      exact ⟨_, rfl, by rw [HC.out]; exact HR.out⟩
end Go.Proofs.YtjpibgehhgaopaaGreat.Top
