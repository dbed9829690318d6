/- group's Share, of the group of 23 and the numbers 9 and 3. -/
import Derived.Test.YtjpibgehhgaopaaGreatZ40
namespace Go.Proofs.YtjpibgehhgaopaaGreat.Top
open Go.RowKit Go.Proofs.YtjpibgehhgaopaaGreatW.PrintWords Go.Proofs.YtjpibgehhgaopaaGreatW.PrintLast Go.Proofs.YtjpibgehhgaopaaGreat.PTopGenerated
set_option linter.unusedVariables false
set_option linter.unusedSimpArgs false

theorem idle169 (a : Value) (w : World) : CallsD Tryz.prog 169 #[a] .returning w fun e u' w' => e = .returned (.tuple #[]) ∧ u' = .returning ∧ w' = w := by
  refine callsD_of_wpS Tryz.func169 rfl fun c₀ cs hu => ?_
  apply wpS_seq
  apply wpS_region
  simp [wpOpsS, go_sem, recoverD, hu, Tryz.ntmps169, Exit.thenS]
  apply wpS_seq
  apply wpS_region
  simp [wpOpsS, go_sem, hu, Tryz.ntmps169, Exit.thenS]
  refine wpS_cond (t := false) (by simp [Act.eval, Array.replicate]) ?_
  simp only [Bool.false_eq_true, if_false]
  refine wpS_of_wp (wp_skip ?_)
  cases c₀
  simp_all [bodyPostS, results, Tryz.results169]
set_option maxRecDepth 100000 in
/-- group's guarded, where what it does throws nothing. -/
theorem guardG (f : Nat) (lb : Array Value) (w : World) (R : World → Prop) (he : ∀ args w, (callFunc f args).run Tryz.prog w = .ok (.enter f args) w)
    (h : Calls Tryz.prog f lb (w.alloc (.cells #[.int .i64 0] 29)) fun e w' => e = .returned (.tuple #[]) ∧ w'.heap[w.heap.size]? = some (.cells #[.int .i64 0] 29 (0, 0)) ∧ R w') :
    Calls Tryz.prog 119 #[.func (.func f) #[] lb] w fun e w' => e = .returned (.int .i64 0) ∧ ∃ w1, w1.heap[w.heap.size]? = some (.cells #[.int .i64 0] 29 (0, 0)) ∧ R w1 ∧ w' = w1.setCell ⟨w.heap.size, 0, none⟩ (.int .i64 0) := by
  have hmf : ∀ (fn : Fn) (first cap : Array Value) (w : World), (Instr.makeFunc fn first cap).run Tryz.prog w = .ok (.func fn first cap) w := fun _ _ _ _ => rfl
  have HC := Aside0.mk h
  clear h
  go_enter_defers Tryz.func119, Tryz.ntmps119
  go_wp2_with fail
  refine HC.out.mono ?_
  rintro e w1 ⟨rfl, h1, h2⟩
  have f0 : w1.frozen? ⟨w.heap.size, 0, none⟩ = false := frozen_of_row w1 _ 0 _ _ h1
  have c0 : w1.cell? ⟨w.heap.size, 0, none⟩ = some (.int .i64 0) := blk_cell h1 0
  have HR := Aside0.mk (And.intro h1 h2)
  clear h1 h2 HC
  go_wp2_with fail
  have q0 : (w1.setCell ⟨w.heap.size, 0, none⟩ (.int .i64 0)).cell? ⟨w.heap.size, 0, none⟩ = some (.int .i64 0) := World.cell?_setCell_same _ _ _ c0
  have HS := Aside0.mk (show ∃ w2, w2.heap[w.heap.size]? = some (.cells #[.int .i64 0] 29 (0, 0)) ∧ R w2 ∧ w1.setCell ⟨w.heap.size, 0, none⟩ (.int .i64 0) = w2.setCell ⟨w.heap.size, 0, none⟩ (.int .i64 0) from ⟨w1, HR.out.1, HR.out.2, rfl⟩)
  generalize w1.setCell ⟨w.heap.size, 0, none⟩ (.int .i64 0) = w2 at *
  refine leaves_cons (f := 169) (args := #[.pointer (some ⟨w.heap.size, 0, none⟩)]) (by simp) (by simp [go_sem]) ?_
  refine (idle169 _ _).mono ?_
  rintro e u' w'' ⟨rfl, rfl, rfl⟩
  show Leaves _ _ _ _ _ _ _
  simp [Leaves, settle, results, Tryz.results119, go_sem, q0]
  exact HS.out
/-- Share's boxes. -/
abbrev ShL (pt p34 px py pb pe : Nat) (tp Ag Ax Ay : Option Addr) (cg cx cy : Nat) (bv : Value) : List (Nat × Obj) :=
  [(pt, .cells #[.pointer tp] 53), (p34, .cells #[.slice Ag 1 cg] 34), (px, .cells #[.slice Ax 1 cx] 22), (py, .cells #[.slice Ay 1 cy] 22), (pb, .cells #[bv] 22), (pe, .cells #[.int .i64 0] 29)]
theorem reads_st {B : Nat} {w w' : World} {A : Option Addr} {n : Nat} {bs : List Int} (h : ReadsInt w .u8 A n bs) (ht : ∀ ad, A = some ad → ∃ cur, w.heap[ad.block]? = some (.cells cur 5 (0, 0))) (hs : St B none w w') : ReadsInt w' .u8 A n bs :=
  reads_bytes h ht fun k cur hk => hs.stay k _ hk (by simp) (by intro c e; injection e with _ e; simp at e) (by intro c e; injection e with _ e; simp at e)
set_option maxHeartbeats 2000000 in
set_option maxRecDepth 100000 in
theorem shareC (B : Nat) (t : Option Nat) (n : Nat) (w0 W : World) (tp Ag Ax Ay : Option Addr) (cg cx cy pt p34 px py pb pe : Nat) (htp : .pointer tp = ptrV t) (hF : Ft B t n w0 W (ShL pt p34 px py pb pe tp Ag Ax Ay cg cx cy (.slice none 0 0))) (hn : n ≤ 500000000)
    (hg : Num W Ag cg [23]) (hx : ReadsInt W .u8 Ax 1 [3]) (htx : ∀ ad, Ax = some ad → ∃ cur, W.heap[ad.block]? = some (.cells cur 5 (0, 0))) (hcx : 1 ≤ cx) (hy : ReadsInt W .u8 Ay 1 [9]) (hcy : 1 ≤ cy) :
    Calls Tryz.prog 120 #[.pointer (some ⟨p34, 0, none⟩), .pointer (some ⟨py, 0, none⟩), .pointer (some ⟨px, 0, none⟩), .pointer (some ⟨pt, 0, none⟩), .pointer (some ⟨pb, 0, none⟩)] W fun e w' => e = .returned (.tuple #[]) ∧ ∃ g, Ft B t (n + 547) w0 w' (ShL pt p34 px py pb pe tp Ag Ax Ay cg cx cy (.slice (some ⟨g, 0, none⟩) 1 1)) ∧ w0.heap.size ≤ g ∧ w'.heap[g]? = some (.cells #[.int .u8 16] 5 (0, 0)) := by
  have HF := Aside0.mk hF
  have HA := Aside0.mk (And.intro hg (And.intro hx (And.intro htx (And.intro hcx (And.intro hn htp)))))
  have HPe := Aside0.mk (peerG Ag Ay cg cy W hg hy hcy)
  have a0 := hF.c0 0 rfl
  have a1 := hF.c0 1 rfl
  have a2 := hF.c0 2 rfl
  have a3 := hF.c0 3 rfl
  clear htp hF hg hx htx hcx hy hcy hn
  go_enter Tryz.func120, Tryz.ntmps120
  go_wp2_with fail
  refine HPe.out.mono ?_
  rintro e w1 ⟨v, A, c, rfl, hm, hn1, hb1⟩
  have HM := Aside0.mk hm
  obtain ⟨A1, c1, A2, c2, rfl, hm1, hm2⟩ := hm
  obtain ⟨kk, hkk⟩ : ∃ kk, kk = KI 23 := ⟨_, rfl⟩
  rw [← hkk] at HM ⊢
  have hb2 := hb1.alloc hb1.size (.cells #[.slice A1 1 c1, .int .u64 kk, .slice A2 1 c2] 73)
  have HF1 := Aside0.mk ((HF.out.mv hb1).alloc (.cells #[.slice A1 1 c1, .int .u64 kk, .slice A2 1 c2] 73) (nt_cells _ _ (by decide)))
  simp only [List.nil_append, List.cons_append] at HF1
  have hb3 := below_alloc (Below.refl w1.heap.size w1) (.cells #[.slice A1 1 c1, .int .u64 kk, .slice A2 1 c2] 73)
  have HX1 := Aside0.mk (And.intro (HM.out.below hb3) (And.intro (hn1.below hb3) (And.intro (HA.out.1.below hb2) (HA.out.2.1.below hb2))))
  clear hm1 hm2 hn1 hb1 hb2 hb3 hkk HM a0 a1 a2 a3
  have q0 := HF1.out.c0 0 rfl
  have q1 := HF1.out.c0 1 rfl
  have q2 := HF1.out.c0 2 rfl
  have q4 := HF1.out.c0 4 rfl
  obtain ⟨q6, q7, q8⟩ := HF1.out.mo 6 rfl
  go_wp2_with fail
  have HSz := Aside0.mk (sizeG Ag cg (w1.alloc (.cells #[.slice A1 1 c1, .int .u64 kk, .slice A2 1 c2] 73)).drew (HX1.out.2.2.1.below (pw_below_drewN (Below.refl _ _) 1)))
  -- BEGIN S1
  refine start_ (n := 11) (S := fun w' => w'.cell? ⟨px, 0, none⟩ = some (.slice Ax 1 cx) ∧ w'.cell? ⟨p34, 0, none⟩ = some (.slice Ag 1 cg)) (ds := [10]) #[false, false, false, false, false, false, false, false, false, false, false] (by kernel_rfl) rfl rfl ⟨q2, q1⟩ (fun hHeld => ?_)
  refine take_ (i := 0) (N := some 13) (v := ?_) (a' := ?_) #[true, false, false, false, false, false, false, false, false, false, false] rfl rfl (by kernel_rfl) (fun _ _ _ h => h) (Or.inl ⟨by rfl, ?_⟩) hHeld ?_ ?_
  rotate_left
  · rintro w' ⟨s0, s1⟩
    go_simp
    with_reducible rfl
  rotate_left
  · simp only [Act.put, List.setIfInBounds_toArray, List.set_cons_zero, List.set_cons_succ, i64_w, i32_w]
    rfl
  refine pure_ (i := 1) (N := some 14) (v := ?_) (a' := ?_) #[true, true, false, false, false, false, false, false, false, false, false] rfl rfl (by kernel_rfl) (fun _ _ _ h => h) (Or.inl ⟨by rfl, ?_⟩) ?_ ?_
  rotate_left
  · intro w'
    go_simp
    with_reducible rfl
  rotate_left
  · simp only [Act.put, List.setIfInBounds_toArray, List.set_cons_zero, List.set_cons_succ, i64_w, i32_w]
    rfl
  refine pure_ (i := 2) (N := some 15) (v := ?_) (a' := ?_) #[true, true, true, false, false, false, false, false, false, false, false] rfl rfl (by kernel_rfl) (fun _ _ _ h => h) (Or.inl ⟨by rfl, ?_⟩) ?_ ?_
  rotate_left
  · intro w'
    go_simp
    with_reducible rfl
  rotate_left
  · simp only [Act.put, List.setIfInBounds_toArray, List.set_cons_zero, List.set_cons_succ, i64_w, i32_w]
    rfl
  refine pure_ (i := 3) (N := some 16) (v := ?_) (a' := ?_) #[true, true, true, true, false, false, false, false, false, false, false] rfl rfl (by kernel_rfl) (fun _ _ _ h => h) (Or.inl ⟨by rfl, ?_⟩) ?_ ?_
  rotate_left
  · intro w'
    go_simp
    with_reducible rfl
  rotate_left
  · simp only [Act.put, List.setIfInBounds_toArray, List.set_cons_zero, List.set_cons_succ, i64_w, i32_w]
    rfl
  refine take_ (i := 4) (N := some 17) (v := ?_) (a' := ?_) #[true, true, true, true, true, false, false, false, false, false, false] rfl rfl (by kernel_rfl) (fun _ _ _ h => h) (Or.inl ⟨by rfl, ?_⟩) hHeld ?_ ?_
  rotate_left
  · rintro w' ⟨s0, s1⟩
    go_simp
    with_reducible rfl
  rotate_left
  · simp only [Act.put, List.setIfInBounds_toArray, List.set_cons_zero, List.set_cons_succ, i64_w, i32_w]
    rfl
  refine pure_ (i := 5) (N := some 18) (v := ?_) (a' := ?_) #[true, true, true, true, true, true, false, false, false, false, false] rfl rfl (by kernel_rfl) (fun _ _ _ h => h) (Or.inl ⟨by rfl, ?_⟩) ?_ ?_
  rotate_left
  · intro w'
    go_simp
    with_reducible rfl
  rotate_left
  · simp only [Act.put, List.setIfInBounds_toArray, List.set_cons_zero, List.set_cons_succ, i64_w, i32_w]
    rfl
  refine take_ (i := 6) (N := some 19) (v := ?_) (a' := ?_) #[true, true, true, true, true, true, true, false, false, false, false] rfl rfl (by kernel_rfl) (fun _ _ _ h => h) (Or.inl ⟨by rfl, ?_⟩) hHeld ?_ ?_
  rotate_left
  · rintro w' ⟨s0, s1⟩
    go_simp
    with_reducible rfl
  rotate_left
  · simp only [Act.put, List.setIfInBounds_toArray, List.set_cons_zero, List.set_cons_succ, i64_w, i32_w]
    rfl
  refine one_ (i := 7) (N := some 20) #[true, true, true, true, true, true, true, true, false, false, false] rfl rfl (by kernel_rfl) (by decide) (fun K hK => ?_)
  refine goes_ Tryz.func123 (by kernel_rfl) rfl #[.agg #[.slice Ag 1 cg]] (by rfl) rfl rfl (by simp only [List.map_toArray, List.map_cons, List.map_nil]; rfl) ?_
  with_reducible refine (HSz.out).mono ?_
  rintro e w6 ⟨rfl, hb6⟩
  have HF6 := Aside0.mk ((HF1.out.drewN 1).mv hb6)
  have hdr := pw_below_drewN (Below.refl (w1.alloc (.cells #[.slice A1 1 c1, .int .u64 kk, .slice A2 1 c2] 73)).heap.size (w1.alloc (.cells #[.slice A1 1 c1, .int .u64 kk, .slice A2 1 c2] 73))) 1
  have HX6 := Aside0.mk (And.intro ((HX1.out.1.below hdr).below hb6) (And.intro ((HX1.out.2.1.below hdr).below hb6) (And.intro ((HX1.out.2.2.1.below hdr).below hb6) ((HX1.out.2.2.2.below hdr).below hb6))))
  have p2 := HF6.out.c0 2 rfl
  have p1 := HF6.out.c0 1 rfl
  clear hb6 hdr
  refine ⟨_, rfl, ?_⟩
  refine hK.out _ _ ⟨p2, p1⟩ (fun hHeld => ?_)
  clear hK K
  refine norm_ (a' := ?_) ?_ ?_
  rotate_left
  · show Act.put _ (some 20) _ = _
    simp only [Act.put, List.setIfInBounds_toArray, List.set_cons_zero, List.set_cons_succ, i64_w, i32_w]
    rfl
  refine pure_ (i := 8) (N := some 21) (v := ?_) (a' := ?_) #[true, true, true, true, true, true, true, true, true, false, false] rfl rfl (by kernel_rfl) (fun _ _ _ h => h) (Or.inl ⟨by rfl, ?_⟩) ?_ ?_
  rotate_left
  · intro w'
    go_simp
    with_reducible rfl
  rotate_left
  · simp only [Act.put, List.setIfInBounds_toArray, List.set_cons_zero, List.set_cons_succ, i64_w, i32_w]
    rfl
  refine pure_ (i := 9) (N := some 22) (v := ?_) (a' := ?_) #[true, true, true, true, true, true, true, true, true, true, false] rfl rfl (by kernel_rfl) (fun _ _ _ h => h) (Or.inl ⟨by rfl, ?_⟩) ?_ ?_
  rotate_left
  · intro w'
    go_simp
    with_reducible rfl
  rotate_left
  · simp only [Act.put, List.setIfInBounds_toArray, List.set_cons_zero, List.set_cons_succ, i64_w, i32_w]
    rfl
  refine last_ (i := 10) (N := some 23) #[true, true, true, true, true, true, true, true, true, true, true] rfl rfl (by kernel_rfl) (by decide) (fun K hK => ?_)
  refine goes_ Tryz.func122 (by kernel_rfl) rfl #[.bool true, .int .i64 1] (by rfl) rfl rfl (by simp only [List.map_toArray, List.map_cons, List.map_nil]; rfl) ?_
  with_reducible refine ((mustG 1 w6)).mono ?_
  rintro e w' ⟨rfl, hw'⟩
  have hw2 := hw'.symm
  clear hw'
  subst hw2
  refine ⟨_, rfl, ?_⟩
  refine hK.out _ _ ?_
  clear hK K
  refine norm_ (a' := ?_) ?_ ?_
  rotate_left
  · show Act.put _ (some 23) _ = _
    simp only [Act.put, List.setIfInBounds_toArray, List.set_cons_zero, List.set_cons_succ, i64_w, i32_w]
    rfl
  refine done_ (by kernel_rfl) ?_
  -- END S1
  have r0 := HF6.out.c0 0 rfl
  have r1 := HF6.out.c0 1 rfl
  have r2 := HF6.out.c0 2 rfl
  have r4 := HF6.out.c0 4 rfl
  have fr4 := HF6.out.frozen 4 rfl 0
  obtain ⟨r6, r7, r8⟩ := HF6.out.mo 6 rfl
  have hRa := raisedG B t n (.agg #[.slice A1 1 c1, .int .u64 kk, .slice A2 1 c2]) Ag A Ax cg c cx w6 HF6.out.tr (by have := HA.out.2.2.2.2.1; omega) HX6.out.2.2.1 HX6.out.1 HX6.out.2.1 HX6.out.2.2.2 HA.out.2.2.2.1
  rw [← HA.out.2.2.2.2.2] at hRa
  have HRa := Aside0.mk hRa
  clear hRa q0 q1 q2 q4 q6 q7 q8
  go_wp2_with fail
  refine HRa.out.mono ?_
  rintro e w7 ⟨g, rfl, hg1, hg2, hs7, ht7⟩
  have HF7 := Aside0.mk (HF6.out.call hs7 ht7)
  have s4 := HF7.out.c0 4 rfl
  have fs4 := HF7.out.frozen 4 rfl 0
  have HG7 := Aside0.mk (show w0.heap.size ≤ g ∧ g ≠ pb ∧ w7.heap[g]? = some (.cells #[.int .u8 16] 5 (0, 0)) from ⟨Nat.le_trans HF6.out.size hg1, by have h := (HF6.out.ltk 4 rfl).2; omega, hg2⟩)
  have HF8 := Aside0.mk (HF7.out.set_ 4 rfl 0 (.slice (some ⟨g, 0, none⟩) 1 1) (by decide))
  simp only [List.set, Array.setIfInBounds] at HF8
  clear r0 r1 r2 r4 fr4 r6 r7 r8 hg1 hg2 hs7 ht7
  go_wp2_with fail
  go_end0
  refine ⟨rfl, g, ?_, HG7.out.1, (Below.heap_setCell _ _ _ _ HG7.out.2.1).trans HG7.out.2.2⟩
  have h8 := HF8.out
  exact ⟨h8.st, h8.tr, h8.hB, fun p hp => h8.ge p (List.mem_append_left [_] hp), fun p hp => h8.has p (List.mem_append_left [_] hp), (List.pairwise_append.1 h8.ne).1, fun p hp => h8.ok p (List.mem_append_left [_] hp)⟩
theorem results_share {tmps : Array Value} {w : World} {b8 : Nat} {x y : Value} (h8 : tmps.getD 8 undef = .pointer (some ⟨b8, 0, none⟩)) (h9 : tmps.getD 9 undef = y) (hx : w.heap[b8]? = some (.cells #[x] 22 (0, 0))) : (results Tryz.f73 tmps).run Tryz.prog w = .ok (.tuple #[x, y]) w := by
  have h8' : tmps[8]?.getD undef = .pointer (some ⟨b8, 0, none⟩) := by simpa using h8
  have h9' : tmps[9]?.getD undef = y := by simpa using h9
  have hc : w.cell? ⟨b8, 0, none⟩ = some x := blk_cell hx 0
  have hr : (loadVar 22 ⟨b8, 0, none⟩).run Tryz.prog w = .ok x w := by simp [go_sem, hc]
  simp [results, Tryz.f73, h8', h9', asAddr, hr]
set_option maxHeartbeats 2000000 in
set_option maxRecDepth 100000 in
theorem shareG (B : Nat) (t : Option Nat) (n : Nat) (w : World) (tp Ag Ax Ay : Option Addr) (cg cx cy : Nat) (htp : .pointer tp = ptrV t) (hT : T w B t n) (hn : n ≤ 400000000)
    (hg : Num w Ag cg [23]) (hx : ReadsInt w .u8 Ax 1 [3]) (htx : ∀ ad, Ax = some ad → ∃ cur, w.heap[ad.block]? = some (.cells cur 5 (0, 0))) (hcx : 1 ≤ cx) (hy : ReadsInt w .u8 Ay 1 [9]) (hcy : 1 ≤ cy) :
    Calls Tryz.prog 73 #[.pointer tp, .agg #[.slice Ag 1 cg], .slice Ax 1 cx, .slice Ay 1 cy] w fun e w' => ∃ g, e = .returned (.tuple #[.slice (some ⟨g, 0, none⟩) 1 1, .int .i64 0]) ∧ w'.heap[g]? = some (.cells #[.int .u8 16] 5 (0, 0)) ∧ St B none w w' ∧ T w' B t (n + 547) := by
  have hmf : ∀ (fn : Fn) (first cap : Array Value) (w : World), (Instr.makeFunc fn first cap).run Tryz.prog w = .ok (.func fn first cap) w := fun _ _ _ _ => rfl
  have HF0 := Aside0.mk ((((((Ft.nil hT).alloc (.cells #[.pointer tp] 53) (nt_cells _ _ (by decide))).alloc (.cells #[.slice Ag 1 cg] 34) (nt_cells _ _ (by decide))).alloc (.cells #[.slice Ax 1 cx] 22) (nt_cells _ _ (by decide))).alloc (.cells #[.slice Ay 1 cy] 22) (nt_cells _ _ (by decide))).alloc (.cells #[.slice none 0 0] 22) (nt_cells _ _ (by decide)))
  have HF1 := Aside0.mk (HF0.out.alloc (.cells #[.int .i64 0] 29) (nt_cells _ _ (by decide)))
  simp only [List.nil_append, List.cons_append, World.size_alloc] at HF0 HF1
  have hb : Below w.heap.size w (((((w.alloc (.cells #[.pointer tp] 53)).alloc (.cells #[.slice Ag 1 cg] 34)).alloc (.cells #[.slice Ax 1 cx] 22)).alloc (.cells #[.slice Ay 1 cy] 22)).alloc (.cells #[.slice none 0 0] 22)) := by
    repeat (first | exact Below.refl _ _ | apply below_alloc)
  obtain ⟨w5, hw5⟩ : ∃ w5, w5 = (((((w.alloc (.cells #[.pointer tp] 53)).alloc (.cells #[.slice Ag 1 cg] 34)).alloc (.cells #[.slice Ax 1 cx] 22)).alloc (.cells #[.slice Ay 1 cy] 22)).alloc (.cells #[.slice none 0 0] 22)) := ⟨_, rfl⟩
  rw [← hw5] at hb HF0 HF1
  have hsz : w5.heap.size = w.heap.size + 1 + 1 + 1 + 1 + 1 := by rw [hw5]; simp
  rw [← hsz] at HF1
  have hb2 := hb.alloc hb.size (.cells #[.int .i64 0] 29)
  have hSh := shareC B t n w _ tp Ag Ax Ay cg cx cy _ _ _ _ _ _ htp HF1.out (by omega) (hg.below hb2) (hx.below hb2) (fun ad e => by
    obtain ⟨cur, hc⟩ := htx ad e
    exact ⟨cur, (hb2.block _ (blk_lt hc)).trans hc⟩) hcx (hy.below hb2) hcy
  have HG := Aside0.mk (guardG 120 #[.pointer (some ⟨w.heap.size + 1, 0, none⟩), .pointer (some ⟨w.heap.size + 1 + 1 + 1, 0, none⟩), .pointer (some ⟨w.heap.size + 1 + 1, 0, none⟩), .pointer (some ⟨w.heap.size, 0, none⟩), .pointer (some ⟨w.heap.size + 1 + 1 + 1 + 1, 0, none⟩)] w5
    (fun w' => ∃ g, Ft B t (n + 547) w w' (ShL w.heap.size (w.heap.size + 1) (w.heap.size + 1 + 1) (w.heap.size + 1 + 1 + 1) (w.heap.size + 1 + 1 + 1 + 1) w5.heap.size tp Ag Ax Ay cg cx cy (.slice (some ⟨g, 0, none⟩) 1 1)) ∧ w'.heap[g]? = some (.cells #[.int .u8 16] 5 (0, 0)))
    (enters_of Tryz.func120 (by kernel_rfl) rfl) (hSh.mono fun e w' ⟨e1, g, h1, _, h2⟩ => ⟨e1, h1.at 5 rfl, g, h1, h2⟩))
  rw [hw5] at HG
  simp only [World.size_alloc] at HG
  clear hSh hb hb2 hw5 hsz hT hg hx htx hcx hy hcy htp HF0 HF1
  go_enter Tryz.func73, Tryz.ntmps73
  go_wp2_with fail
  refine HG.out.mono ?_
  rintro e w2 ⟨rfl, w1, h1, ⟨g, h2, h3⟩, rfl⟩
  have HF2 := Aside0.mk (h2.set_ 5 rfl 0 (.int .i64 0) (by decide))
  simp only [List.set, Array.setIfInBounds] at HF2
  have hg1 : g ≠ w.heap.size + 1 + 1 + 1 + 1 + 1 := blk_ne h3 h1 (by decide)
  have hg2 : g ≠ w.heap.size + 1 + 1 + 1 + 1 := blk_ne h3 (h2.at 4 rfl) (by decide)
  have HR := Aside0.mk (And.intro hg2 ((Below.heap_setCell w1 ⟨w.heap.size + 1 + 1 + 1 + 1 + 1, 0, none⟩ (.int .i64 0) g hg1).trans h3))
  generalize w1.setCell ⟨w.heap.size + 1 + 1 + 1 + 1 + 1, 0, none⟩ (.int .i64 0) = wq at *
  have c4 := HF2.out.c0 4 rfl
  have f4 := HF2.out.frozen 4 rfl 0
  have HF3 := Aside0.mk (HF2.out.set_ 4 rfl 0 (.slice (some ⟨g, 0, none⟩) 1 1) (by decide))
  simp only [List.set, Array.setIfInBounds] at HF3
  clear h1 h2 h3 hg1 hg2 HG
  go_wp2_with fail
  refine bodyPost_ret (results_share rfl rfl (HF3.out.at 4 rfl)) rfl ?_
  exact ⟨g, rfl, (Below.heap_setCell _ _ _ _ HR.out.1).trans HR.out.2, HF3.out.st, HF3.out.tr⟩
end Go.Proofs.YtjpibgehhgaopaaGreat.Top
