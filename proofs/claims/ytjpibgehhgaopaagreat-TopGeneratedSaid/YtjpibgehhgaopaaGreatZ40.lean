/- word's Put and nat's Bytes, of the number 16 as one byte. -/
import Derived.Laws.CopyRow
import Derived.Test.YtjpibgehhgaopaaGreatZ39
namespace Go.Proofs.YtjpibgehhgaopaaGreat.Top
open Go.RowKit Go.Proofs.YtjpibgehhgaopaaGreatW.PrintWords Go.Proofs.YtjpibgehhgaopaaGreatW.PrintLast Go.Proofs.YtjpibgehhgaopaaGreat.PTopGenerated
set_option linter.unusedVariables false
set_option linter.unusedSimpArgs false

/-- The eight bytes ahead of round i. -/
def putC : Nat → Array Value
  | 0 => #[.int .u8 0, .int .u8 0, .int .u8 0, .int .u8 0, .int .u8 0, .int .u8 0, .int .u8 0, .int .u8 0]
  | _ + 1 => #[.int .u8 0, .int .u8 0, .int .u8 0, .int .u8 0, .int .u8 0, .int .u8 0, .int .u8 0, .int .u8 16]
set_option maxHeartbeats 1000000 in
set_option maxRecDepth 100000 in
theorem put16 (w : World) : Calls Tryz.prog 185 #[.int .u64 16] w fun e w' => ∃ g, e = .returned (.slice (some ⟨g, 0, none⟩) 8 8) ∧ w.heap.size ≤ g ∧ w'.heap[g]? = some (.cells (putC 8) 272 (0, 0)) ∧ Below w.heap.size w w' := by
  go_enter Tryz.func185, Tryz.ntmps185
  go_wp2_with fail
  go_loopw [5] (fun v5 wr => ∃ i : Nat, v5 = .int .i64 (i : Int) ∧ Aside0 (i ≤ 8 ∧ wr.heap[w.heap.size]? = some (.cells (putC i) 272 (0, 0)) ∧ Below w.heap.size w wr)) (fun v5 _ => 8 - (intOf v5).toNat)
  case atStart => exact ⟨0, rfl, ⟨by omega, heap_alloc_new _ _, below_alloc (Below.refl _ _) _⟩⟩
  case round =>
    obtain ⟨i, rfl, HI⟩ := hrel
    rcases (show i = 0 ∨ i = 1 ∨ i = 2 ∨ i = 3 ∨ i = 4 ∨ i = 5 ∨ i = 6 ∨ i = 7 ∨ i = 8 by have := HI.out.1; omega) with rfl | rfl | rfl | rfl | rfl | rfl | rfl | rfl | rfl
    · have c0 : wr.cell? ⟨w.heap.size, 7, none⟩ = some (.int .u8 0) := blk_cell HI.out.2.1 7
      have f0 := frozen_of_row wr w.heap.size 7 _ _ HI.out.2.1
      go_wp2_with fail
      go_roundw
      case rel => exact ⟨1, rfl, ⟨by omega, heap_setCell_same _ _ _ _ _ _ HI.out.2.1, HI.out.2.2.setCell (Nat.le_refl _) _⟩⟩
      case measure => decide
    · have c0 : wr.cell? ⟨w.heap.size, 6, none⟩ = some (.int .u8 0) := blk_cell HI.out.2.1 6
      have f0 := frozen_of_row wr w.heap.size 6 _ _ HI.out.2.1
      go_wp2_with fail
      go_roundw
      case rel => exact ⟨2, rfl, ⟨by omega, heap_setCell_same _ _ _ _ _ _ HI.out.2.1, HI.out.2.2.setCell (Nat.le_refl _) _⟩⟩
      case measure => decide
    · have c0 : wr.cell? ⟨w.heap.size, 5, none⟩ = some (.int .u8 0) := blk_cell HI.out.2.1 5
      have f0 := frozen_of_row wr w.heap.size 5 _ _ HI.out.2.1
      go_wp2_with fail
      go_roundw
      case rel => exact ⟨3, rfl, ⟨by omega, heap_setCell_same _ _ _ _ _ _ HI.out.2.1, HI.out.2.2.setCell (Nat.le_refl _) _⟩⟩
      case measure => decide
    · have c0 : wr.cell? ⟨w.heap.size, 4, none⟩ = some (.int .u8 0) := blk_cell HI.out.2.1 4
      have f0 := frozen_of_row wr w.heap.size 4 _ _ HI.out.2.1
      go_wp2_with fail
      go_roundw
      case rel => exact ⟨4, rfl, ⟨by omega, heap_setCell_same _ _ _ _ _ _ HI.out.2.1, HI.out.2.2.setCell (Nat.le_refl _) _⟩⟩
      case measure => decide
    · have c0 : wr.cell? ⟨w.heap.size, 3, none⟩ = some (.int .u8 0) := blk_cell HI.out.2.1 3
      have f0 := frozen_of_row wr w.heap.size 3 _ _ HI.out.2.1
      go_wp2_with fail
      go_roundw
      case rel => exact ⟨5, rfl, ⟨by omega, heap_setCell_same _ _ _ _ _ _ HI.out.2.1, HI.out.2.2.setCell (Nat.le_refl _) _⟩⟩
      case measure => decide
    · have c0 : wr.cell? ⟨w.heap.size, 2, none⟩ = some (.int .u8 0) := blk_cell HI.out.2.1 2
      have f0 := frozen_of_row wr w.heap.size 2 _ _ HI.out.2.1
      go_wp2_with fail
      go_roundw
      case rel => exact ⟨6, rfl, ⟨by omega, heap_setCell_same _ _ _ _ _ _ HI.out.2.1, HI.out.2.2.setCell (Nat.le_refl _) _⟩⟩
      case measure => decide
    · have c0 : wr.cell? ⟨w.heap.size, 1, none⟩ = some (.int .u8 0) := blk_cell HI.out.2.1 1
      have f0 := frozen_of_row wr w.heap.size 1 _ _ HI.out.2.1
      go_wp2_with fail
      go_roundw
      case rel => exact ⟨7, rfl, ⟨by omega, heap_setCell_same _ _ _ _ _ _ HI.out.2.1, HI.out.2.2.setCell (Nat.le_refl _) _⟩⟩
      case measure => decide
    · have c0 : wr.cell? ⟨w.heap.size, 0, none⟩ = some (.int .u8 0) := blk_cell HI.out.2.1 0
      have f0 := frozen_of_row wr w.heap.size 0 _ _ HI.out.2.1
      go_wp2_with fail
      go_roundw
      case rel => exact ⟨8, rfl, ⟨by omega, heap_setCell_same _ _ _ _ _ _ HI.out.2.1, HI.out.2.2.setCell (Nat.le_refl _) _⟩⟩
      case measure => decide
    · go_wp2_with fail
      go_ret
      exact ⟨_, rfl, Nat.le_refl _, HI.out.2.1, HI.out.2.2⟩
theorem make5_1 : ∀ W : World, (Instr.makeSlice 22 (.int .i64 1) (.int .i64 1)).run Tryz.prog W = .ok (.slice (some ⟨W.heap.size, 0, none⟩) 1 1) (W.alloc (.cells #[.int .u8 0] 5)) := fun W => by
  have h := print_make 22 5 .u8 1 Tryz.underlying22 info5' (by decide) 1 (by omega) W
  rwa [show madeCells #[Value.int .u8 0] 1 = #[.int .u8 0] by simp [madeCells]; exact ⟨0, by decide, rfl⟩] at h
theorem size5' : (Tryz.prog.info? 5).map (·.size) = some 1 := by kernel_rfl
theorem copy16 (W : World) (gb gp : Nat) (ty : TypeId) (h : W.heap[gb]? = some (.cells #[.int .u8 0] 5 (0, 0))) (hp : W.heap[gp]? = some (.cells (putC 8) 272 (0, 0))) :
    (Builtin.copy_ #[22, 22] ty #[.slice (some ⟨gb, 0, none⟩) 1 1, .slice (some ⟨gp, 7, none⟩) 1 1]).run Tryz.prog W = .ok (goInt 1) (W.setRow gb #[.int .u8 16]) := by
  have h1 := run_copy_row (P := Tryz.prog) W 22 22 ty 5 gb 0 1 1 ⟨gp, 7, none⟩ 1 1 #[.int .u8 0] 5 [.int .u8 16] Tryz.underlying22 size5' h rfl (by
    intro j v hj
    rcases j with _ | j
    · simp at hj
      subst hj
      exact blk_cell hp 7
    · simp at hj) (by simp) (by intro v hv; rw [List.mem_singleton] at hv; subst hv; rfl)
  simpa using h1
theorem val16 : bl (val [16]) = 5 := by decide +kernel
set_option maxHeartbeats 1000000 in
set_option maxRecDepth 100000 in
theorem bytes16 (A : Option Addr) (c : Nat) (w : World) (h : Num w A c [16]) : Calls Tryz.prog 146 #[.slice A 1 c, .int .i64 1] w fun e w' => ∃ g, e = .returned (.tuple #[.slice (some ⟨g, 0, none⟩) 1 1, .int .i64 0]) ∧ w.heap.size ≤ g ∧ w'.heap[g]? = some (.cells #[.int .u8 16] 5 (0, 0)) ∧ Below w.heap.size w w' := by
  have HB := Aside0.mk (bitsN A c [16] w h (by simp))
  rw [val16] at HB
  have HN := Aside0.mk h
  have hmk := make5_1
  clear h
  go_enter Tryz.func146, Tryz.ntmps146
  go_wp2_with fail
  refine HB.out.mono ?_
  rintro e w' ⟨rfl, rfl⟩
  go_wp2_with fail
  have HF0 := Aside0.mk ((Fr.nil w').alloc (.cells #[.int .u8 0] 5))
  simp only [List.nil_append] at HF0
  go_loopw [7] (fun v7 wr => (v7 = .int .i64 0 ∧ Aside0 (Fr w' wr [(w'.heap.size, .cells #[.int .u8 0] 5)])) ∨ (v7 = .int .i64 1 ∧ Aside0 (Fr w' wr [(w'.heap.size, .cells #[.int .u8 16] 5)]))) (fun v7 _ => 1 - (intOf v7).toNat)
  case atStart => exact .inl ⟨rfl, HF0⟩
  case round =>
    rcases hrel with ⟨rfl, HF⟩ | ⟨rfl, HF⟩
    · have HA := Aside0.mk (show Calls Tryz.prog 51 #[.slice A 1 c, .int .i64 0] wr (fun e w' => e = .returned (.int .u64 16) ∧ w' = wr) from atN A c [16] 0 wr (HN.out.fr HF.out))
      go_wp2_with fail
      refine HA.out.mono ?_
      rintro e w2 ⟨rfl, rfl⟩
      go_wp2_with fail
      refine (put16 _).mono ?_
      rintro e w3 ⟨gp, rfl, hgp, hrow, hb3⟩
      have HF3 := Aside0.mk (HF.out.mv hb3)
      have hmx : max (-7 : Int) 0 = 0 := by decide
      have hcp := copy16 w3.drew w'.heap.size gp 3 (HF3.out.at 0 rfl) hrow
      clear hrow hb3 hgp HF0
      go_wp2_with fail
      go_region
      go_wp2_with fail
      go_roundw
      case rel => exact .inr ⟨rfl, ⟨(HF3.out.drewN 1).row 0 rfl #[.int .u8 16]⟩⟩
      case measure => decide
    · go_wp2_with fail
      go_ret2
      exact ⟨_, rfl, Nat.le_refl _, HF.out.at 0 rfl, HF.out.bel⟩
end Go.Proofs.YtjpibgehhgaopaaGreat.Top
/- group's raised and peer, of the group of 23 and the numbers 9 and 3. -/
namespace Go.Proofs.YtjpibgehhgaopaaGreat.Top
open Go.RowKit Go.Proofs.YtjpibgehhgaopaaGreatW.PrintWords Go.Proofs.YtjpibgehhgaopaaGreatW.PrintLast Go.Proofs.YtjpibgehhgaopaaGreat.PTopGenerated
set_option linter.unusedVariables false
set_option linter.unusedSimpArgs false

theorem pow16 : powW 23 9 3 = 16 := by decide +kernel
theorem raw1 : rawW 23 9 11 = 1 := by decide +kernel
theorem getI3 : (getI [3]).toNat = 3 := by decide +kernel
theorem getI9 : (getI [9]).toNat = 9 := by decide +kernel
theorem byt_one {x : Int} (h : Byt x) : ∀ i : Nat, Byt (rd [x] (i : Int)) := by
  intro i
  rcases i with _ | i
  · exact h
  · unfold rd Byt
    simp
set_option maxHeartbeats 2000000 in
set_option maxRecDepth 100000 in
theorem raisedG (B : Nat) (t : Option Nat) (n : Nat) (v : Value) (Ag Aa Ax : Option Addr) (cg ca cx : Nat) (w : World) (hT : T w B t n) (hn : n ≤ 600000000) (hg : Num w Ag cg [23]) (hM : Md w v 23) (ha : Num w Aa ca [9]) (hx : ReadsInt w .u8 Ax 1 [3]) (hcx : 1 ≤ cx) :
    Calls Tryz.prog 124 #[ptrV t, .agg #[.slice Ag 1 cg], v, .slice Aa 1 ca, .slice Ax 1 cx] w fun e w' => ∃ g, e = .returned (.slice (some ⟨g, 0, none⟩) 1 1) ∧ w.heap.size ≤ g ∧ w'.heap[g]? = some (.cells #[.int .u8 16] 5 (0, 0)) ∧ St B none w w' ∧ T w' B t (n + 547) := by
  have HMd := Aside0.mk hM
  obtain ⟨A1, c1, A2, c2, rfl, hm1, hm2⟩ := hM
  obtain ⟨kk, hkk⟩ : ∃ kk, kk = KI 23 := ⟨_, rfl⟩
  rw [← hkk] at HMd ⊢
  have HF0 := Aside0.mk (((Ft.nil hT).alloc (.cells #[.slice Ag 1 cg] 34) (nt_cells _ _ (by decide))).alloc (.cells #[.slice A1 1 c1, .int .u64 kk, .slice A2 1 c2] 73) (nt_cells _ _ (by decide)))
  simp only [List.nil_append, List.cons_append, World.size_alloc] at HF0
  have hb := below_alloc (below_alloc (Below.refl w.heap.size w) (.cells #[.slice Ag 1 cg] 34)) (.cells #[.slice A1 1 c1, .int .u64 kk, .slice A2 1 c2] 73)
  have HO := Aside0.mk (ofN Ax cx [3] _ (hx.below hb) (by simp) (by simp) (by simpa using hcx) (byt_one (by unfold Byt; omega)))
  rw [getI3] at HO
  have HA := Aside0.mk (And.intro hg ha)
  have HN := Aside0.mk hn
  clear hT hm1 hm2 hkk hg ha hx hcx hb hn
  go_enter Tryz.func124, Tryz.ntmps124
  go_wp2_with fail
  refine HO.out.mono ?_
  rintro e w1 ⟨v1, rfl, hr1⟩
  obtain ⟨X1, d1, rfl, hn1⟩ := hr1.num
  have HF1 := Aside0.mk (HF0.out.mv hr1.bel)
  have HN1 := Aside0.mk hn1
  obtain ⟨m0, m1, m2⟩ := HF1.out.mo 1 rfl
  have g0 := HF1.out.c0 0 rfl
  have HD := Aside0.mk (HF1.out.drewN 1)
  have hRaw := powRawT B t n (.agg #[.slice A1 1 c1, .int .u64 kk, .slice A2 1 c2]) 23 9 3 Aa X1 ca d1 w1.drew HD.out.tr (by have := HN.out; omega) (HMd.out.kp HD.out.st.kp) (by omega) (by omega) (HA.out.2.st HD.out.st) (hn1.below (pw_below_drewN (Below.refl _ _) 1))
  rw [pow16] at hRaw
  have HRaw := Aside0.mk hRaw
  clear hr1 hn1 hRaw
  go_wp2_with fail
  -- BEGIN A2
  refine start_ (n := 13) (S := fun w' => w'.cell? ⟨w.heap.size + 1, 0, none⟩ = some (.slice A1 1 c1) ∧ w'.cell? ⟨w.heap.size + 1, 1, none⟩ = some (.int .u64 kk) ∧ w'.cell? ⟨w.heap.size + 1, 2, none⟩ = some (.slice A2 1 c2) ∧ w'.cell? ⟨w.heap.size, 0, none⟩ = some (.slice Ag 1 cg)) (ds := [6, 7]) #[false, false, false, false, false, false, false, false, false, false, false, false, false] (by kernel_rfl) rfl rfl ⟨m0, m1, m2, g0⟩ (fun hHeld => ?_)
  refine pure_ (i := 0) (N := some 25) (v := ?_) (a' := ?_) #[true, false, false, false, false, false, false, false, false, false, false, false, false] rfl rfl (by kernel_rfl) (fun _ _ _ h => h) (Or.inl ⟨by rfl, ?_⟩) ?_ ?_
  rotate_left
  · intro w'
    go_simp
    with_reducible rfl
  rotate_left
  · simp only [Act.put, List.setIfInBounds_toArray, List.set_cons_zero, List.set_cons_succ, i64_w, i32_w]
    rfl
  refine pure_ (i := 2) (N := some 27) (v := ?_) (a' := ?_) #[true, false, true, false, false, false, false, false, false, false, false, false, false] rfl rfl (by kernel_rfl) (fun _ _ _ h => h) (Or.inl ⟨by rfl, ?_⟩) ?_ ?_
  rotate_left
  · intro w'
    go_simp
    with_reducible rfl
  rotate_left
  · simp only [Act.put, List.setIfInBounds_toArray, List.set_cons_zero, List.set_cons_succ, i64_w, i32_w]
    rfl
  refine pure_ (i := 3) (N := some 28) (v := ?_) (a' := ?_) #[true, false, true, true, false, false, false, false, false, false, false, false, false] rfl rfl (by kernel_rfl) (fun _ _ _ h => h) (Or.inl ⟨by rfl, ?_⟩) ?_ ?_
  rotate_left
  · intro w'
    go_simp
    with_reducible rfl
  rotate_left
  · simp only [Act.put, List.setIfInBounds_toArray, List.set_cons_zero, List.set_cons_succ, i64_w, i32_w]
    rfl
  refine take_ (i := 1) (N := some 26) (v := ?_) (a' := ?_) #[true, true, true, true, false, false, false, false, false, false, false, false, false] rfl rfl (by kernel_rfl) (fun _ _ _ h => h) (Or.inl ⟨by rfl, ?_⟩) hHeld ?_ ?_
  rotate_left
  · rintro w' ⟨s0, s1, s2, s3⟩
    go_simp
    with_reducible rfl
  rotate_left
  · simp only [Act.put, List.setIfInBounds_toArray, List.set_cons_zero, List.set_cons_succ, i64_w, i32_w]
    rfl
  refine take_ (i := 5) (N := some 30) (v := ?_) (a' := ?_) #[true, true, true, true, false, true, false, false, false, false, false, false, false] rfl rfl (by kernel_rfl) (fun _ _ _ h => h) (Or.inl ⟨by rfl, ?_⟩) hHeld ?_ ?_
  rotate_left
  · rintro w' ⟨s0, s1, s2, s3⟩
    go_simp
    with_reducible rfl
  rotate_left
  · simp only [Act.put, List.setIfInBounds_toArray, List.set_cons_zero, List.set_cons_succ, i64_w, i32_w]
    rfl
  refine one_ (i := 4) (N := some 29) #[true, true, true, true, true, true, false, false, false, false, false, false, false] rfl rfl (by kernel_rfl) (by decide) (fun K hK => ?_)
  refine goes_ Tryz.func171 (by kernel_rfl) rfl #[ptrV t, .agg #[.slice A1 1 c1, .int .u64 kk, .slice A2 1 c2], .slice Aa 1 ca, .slice X1 1 d1] (by rfl) rfl rfl (by simp only [List.map_toArray, List.map_cons, List.map_nil]; rfl) ?_
  with_reducible refine (HRaw.out).mono ?_
  rintro e w5 ⟨A5, d5, rfl, hn5, hs5, ht5⟩
  have HF5 := Aside0.mk (HD.out.call hs5 ht5)
  have HN5 := Aside0.mk hn5
  obtain ⟨q0, q1, q2⟩ := HF5.out.mo 1 rfl
  have qb := HF5.out.c0 0 rfl
  have HSz := Aside0.mk (sizeG Ag cg w5 (HA.out.1.st HF5.out.st))
  clear hn5 hs5 ht5
  refine ⟨_, rfl, ?_⟩
  refine hK.out _ _ ⟨q0, q1, q2, qb⟩ (fun hHeld => ?_)
  clear hK K
  refine norm_ (a' := ?_) ?_ ?_
  rotate_left
  · show Act.put _ (some 29) _ = _
    simp only [Act.put, List.setIfInBounds_toArray, List.set_cons_zero, List.set_cons_succ, i64_w, i32_w]
    rfl
  refine last_ (i := 6) (N := some 31) #[true, true, true, true, true, true, true, false, false, false, false, false, false] rfl rfl (by kernel_rfl) (by decide) (fun K hK => ?_)
  refine goes_ Tryz.func123 (by kernel_rfl) rfl #[.agg #[.slice Ag 1 cg]] (by rfl) rfl rfl (by simp only [List.map_toArray, List.map_cons, List.map_nil]; rfl) ?_
  with_reducible refine (HSz.out).mono ?_
  rintro e w6 ⟨rfl, hb6⟩
  have HF6 := Aside0.mk (HF5.out.mv hb6)
  have HBy := Aside0.mk (bytes16 A5 d5 w6 (HN5.out.below hb6))
  have HSz6 := Aside0.mk (show w5.heap.size ≤ w6.heap.size from hb6.size)
  clear hb6
  refine ⟨_, rfl, ?_⟩
  refine hK.out _ _ ?_
  clear hK K
  refine norm_ (a' := ?_) ?_ ?_
  rotate_left
  · show Act.put _ (some 31) _ = _
    simp only [Act.put, List.setIfInBounds_toArray, List.set_cons_zero, List.set_cons_succ, i64_w, i32_w]
    rfl
  refine last_ (i := 7) (N := some 32) #[true, true, true, true, true, true, true, true, false, false, false, false, false] rfl rfl (by kernel_rfl) (by decide) (fun K hK => ?_)
  refine goes_ Tryz.func146 (by kernel_rfl) rfl #[.slice A5 1 d5, .int .i64 1] (by rfl) rfl rfl (by simp only [List.map_toArray, List.map_cons, List.map_nil]; rfl) ?_
  with_reducible refine (HBy.out).mono ?_
  rintro e w7 ⟨gq, rfl, hq1, hq2, hb7⟩
  have HF7 := Aside0.mk (HF6.out.mv hb7)
  have HQ := Aside0.mk (show w5.heap.size ≤ gq ∧ w7.heap[gq]? = some (.cells #[.int .u8 16] 5 (0, 0)) from ⟨Nat.le_trans HSz6.out hq1, hq2⟩)
  clear hq1 hq2 hb7 q0 q1 q2 qb
  refine ⟨_, rfl, ?_⟩
  refine hK.out _ _ ?_
  clear hK K
  refine norm_ (a' := ?_) ?_ ?_
  rotate_left
  · show Act.put _ (some 32) _ = _
    simp only [Act.put, List.setIfInBounds_toArray, List.set_cons_zero, List.set_cons_succ, i64_w, i32_w]
    rfl
  refine pure_ (i := 8) (N := some 24) (v := ?_) (a' := ?_) #[true, true, true, true, true, true, true, true, true, false, false, false, false] rfl rfl (by kernel_rfl) (fun _ _ _ h => h) (Or.inl ⟨by rfl, ?_⟩) ?_ ?_
  rotate_left
  · intro w'
    go_simp
    with_reducible rfl
  rotate_left
  · simp only [Act.put, List.setIfInBounds_toArray, List.set_cons_zero, List.set_cons_succ, i64_w, i32_w]
    rfl
  refine pure_ (i := 9) (N := some 33) (v := ?_) (a' := ?_) #[true, true, true, true, true, true, true, true, true, true, false, false, false] rfl rfl (by kernel_rfl) (fun _ _ _ h => h) (Or.inl ⟨by rfl, ?_⟩) ?_ ?_
  rotate_left
  · intro w'
    go_simp
    with_reducible rfl
  rotate_left
  · simp only [Act.put, List.setIfInBounds_toArray, List.set_cons_zero, List.set_cons_succ, i64_w, i32_w]
    rfl
  refine pure_ (i := 10) (N := some 34) (v := ?_) (a' := ?_) #[true, true, true, true, true, true, true, true, true, true, true, false, false] rfl rfl (by kernel_rfl) (fun _ _ _ h => h) (Or.inl ⟨by rfl, ?_⟩) ?_ ?_
  rotate_left
  · intro w'
    go_simp
    with_reducible rfl
  rotate_left
  · simp only [Act.put, List.setIfInBounds_toArray, List.set_cons_zero, List.set_cons_succ, i64_w, i32_w]
    rfl
  refine pure_ (i := 11) (N := some 13) (v := ?_) (a' := ?_) #[true, true, true, true, true, true, true, true, true, true, true, true, false] rfl rfl (by kernel_rfl) (fun _ _ _ h => h) (Or.inl ⟨by rfl, ?_⟩) ?_ ?_
  rotate_left
  · intro w'
    go_simp
    with_reducible rfl
  rotate_left
  · simp only [Act.put, List.setIfInBounds_toArray, List.set_cons_zero, List.set_cons_succ, i64_w, i32_w]
    rfl
  refine pure_ (i := 12) (N := some 14) (v := ?_) (a' := ?_) #[true, true, true, true, true, true, true, true, true, true, true, true, true] rfl rfl (by kernel_rfl) (fun _ _ _ h => h) (Or.inl ⟨by rfl, ?_⟩) ?_ ?_
  rotate_left
  · intro w'
    go_simp
    with_reducible rfl
  rotate_left
  · simp only [Act.put, List.setIfInBounds_toArray, List.set_cons_zero, List.set_cons_succ, i64_w, i32_w]
    rfl
  refine done_ (by kernel_rfl) ?_
  -- END A2
  go_wp2_with fail
  go_ret
  exact ⟨gq, rfl, Nat.le_trans HF5.out.size HQ.out.1, HQ.out.2, HF7.out.st, HF7.out.tr⟩
theorem Fr.c0 {w W : World} {L : List (Nat × Obj)} (h : Fr w W L) (i : Nat) {k : Nat} {a : Value} {ty : TypeId} (hi : L[i]? = some (k, .cells #[a] ty (0, 0))) : W.cell? ⟨k, 0, none⟩ = some a := h.cell i hi 0 rfl
theorem sub21 : digs 1 (val [23] + 18446744073709551616 ^ 1 - val [2]) = [21] := by decide +kernel
theorem cmp21 : cmpI (val [9]) (val [21]) = -1 := by decide +kernel
theorem cmp1 : cmpI (val [1]) (val [1]) = 0 := by decide +kernel
theorem bl9 : bl (val [9]) = 4 := by decide +kernel
set_option maxHeartbeats 2000000 in
set_option maxRecDepth 100000 in
theorem peerG (Ag Ay : Option Addr) (cg cy : Nat) (w : World) (hg : Num w Ag cg [23]) (hy : ReadsInt w .u8 Ay 1 [9]) (hcy : 1 ≤ cy) :
    Calls Tryz.prog 121 #[.agg #[.slice Ag 1 cg], .slice Ay 1 cy] w fun e w' => ∃ v A c, e = .returned (.tuple #[v, .slice A 1 c]) ∧ Md w' v 23 ∧ Num w' A c [9] ∧ Below w.heap.size w w' := by
  have HF0 := Aside0.mk (((Fr.nil w).alloc (.cells #[.slice Ag 1 cg] 34)).alloc (.cells #[.slice none 0 0, .int .u64 0, .slice none 0 0] 73))
  simp only [List.nil_append, List.cons_append, World.size_alloc] at HF0
  have HG := Aside0.mk (And.intro hg (And.intro hy hcy))
  have HS := Aside0.mk (setupG Ag cg _ (hg.fr HF0.out))
  have g0 : ((w.alloc (.cells #[.slice Ag 1 cg] 34)).alloc (.cells #[.slice none 0 0, .int .u64 0, .slice none 0 0] 73)).cell? ⟨w.heap.size, 0, none⟩ = some (.slice Ag 1 cg) := HF0.out.cell 0 rfl 0 rfl
  clear hg hy hcy
  go_enter Tryz.func121, Tryz.ntmps121
  go_wp2_with fail
  refine HS.out.mono ?_
  rintro e w1 ⟨v, rfl, hm, hb1⟩
  have HM1 := Aside0.mk hm
  obtain ⟨A1, c1, A2, c2, rfl, hm1, hm2⟩ := hm
  obtain ⟨kk, hkk⟩ : ∃ kk, kk = KI 23 := ⟨_, rfl⟩
  rw [← hkk] at HM1 ⊢
  have hb2 := below_alloc (Below.refl w1.heap.size w1) (.cells #[.slice A1 1 c1, .int .u64 kk, .slice A2 1 c2] 73)
  have HF1 := Aside0.mk ((HF0.out.mv hb1).alloc (.cells #[.slice A1 1 c1, .int .u64 kk, .slice A2 1 c2] 73))
  simp only [List.nil_append, List.cons_append] at HF1
  have HM2 := Aside0.mk (And.intro (HM1.out.below hb2) (hm1.below hb2))
  have h0 := HF1.out.c0 0 rfl
  obtain ⟨m0, m1, m2⟩ := HF1.out.mo 2 rfl
  have HSz := Aside0.mk (sizeG Ag cg _ (HG.out.1.fr HF1.out))
  clear hm1 hm2 hkk hb1 hb2 g0 HM1
  go_wp2_with fail
  refine HSz.out.mono ?_
  rintro e w2 ⟨rfl, hb2⟩
  have HF2 := Aside0.mk (HF1.out.mv hb2)
  have HM3 := Aside0.mk (And.intro (HM2.out.1.below hb2) (HM2.out.2.below hb2))
  clear h0 m0 m1 m2 hb2
  go_wp2_with fail
  refine (mustG _ _).mono ?_
  rintro e w' ⟨rfl, rfl⟩
  obtain ⟨m0, m1, m2⟩ := HF2.out.mo 2 rfl
  have HO := Aside0.mk (ofN Ay cy [9] w' (HG.out.2.1.below HF2.out.bel) (by simp) (by simp) (by simpa using HG.out.2.2) (byt_one (by unfold Byt; omega)))
  rw [getI9] at HO
  go_wp2_with fail
  refine HO.out.mono ?_
  rintro e w3 ⟨v3, rfl, hr3⟩
  obtain ⟨A3, c3, rfl, hn3⟩ := hr3.num
  have hb3 := hr3.bel
  have HF3 := Aside0.mk (HF2.out.mv hb3)
  have HM4 := Aside0.mk (And.intro (HM3.out.1.below hb3) (And.intro (HM3.out.2.below hb3) hn3))
  clear hr3 hb3 m0 m1 m2 hn3
  obtain ⟨m0, m1, m2⟩ := HF3.out.mo 2 rfl
  have hl2 := litNum w3 2 (by omega)
  have hb4 := below_alloc (Below.refl w3.heap.size w3) (.cells #[.int .u64 2] 23)
  have hSub := sub0 A1 (some ⟨w3.heap.size, 0, none⟩) c1 1 [23] [2] 1 _ (HM4.out.2.1.below hb4) hl2 rfl (by omega)
  rw [sub21] at hSub
  have HSub := Aside0.mk hSub
  have HF4 := Aside0.mk (HF3.out.mv hb4)
  have HM5 := Aside0.mk (And.intro (HM4.out.1.below hb4) (And.intro (HM4.out.2.1.below hb4) (HM4.out.2.2.below hb4)))
  clear hl2 hb4 hSub
  go_wp2_with fail
  refine HSub.out.mono ?_
  rintro e w5 ⟨v5, rfl, hr5⟩
  obtain ⟨A5, c5, rfl, hn5⟩ := hr5.num
  have hb5 := hr5.bel
  have HF5 := Aside0.mk (HF4.out.mv hb5)
  have HM6 := Aside0.mk (And.intro (HM5.out.1.below hb5) (And.intro (HM5.out.2.1.below hb5) (And.intro (HM5.out.2.2.below hb5) hn5)))
  have hBt := bitsN A3 c3 [9] w5 HM6.out.2.2.1 (by simp)
  rw [bl9] at hBt
  have HBt := Aside0.mk hBt
  have hCm := compareN A3 A5 c3 c5 [9] [21] w5 HM6.out.2.2.1 hn5 (by simp) (by simp)
  rw [cmp21] at hCm
  have HCm := Aside0.mk hCm
  clear m0 m1 m2 hr5 hb5 hn5 hBt hCm
  go_wp2_with fail
  refine HBt.out.mono ?_
  rintro e w' ⟨rfl, rfl⟩
  go_wp2_with fail
  refine HCm.out.mono ?_
  rintro e w' ⟨rfl, rfl⟩
  go_wp2_with fail
  refine (mustG _ _).mono ?_
  rintro e w' ⟨rfl, rfl⟩
  obtain ⟨m0, m1, m2⟩ := HF5.out.mo 2 rfl
  have HRt := Aside0.mk (right1 A1 c1 23 w' HM6.out.2.1)
  go_wp2_with fail
  refine HRt.out.mono ?_
  rintro e w7 ⟨v7, rfl, hr7⟩
  obtain ⟨A7, c7, rfl, hn7⟩ := hr7.num
  have hb7 := hr7.bel
  have HF7 := Aside0.mk (HF5.out.mv hb7)
  have HM8 := Aside0.mk (And.intro (HM6.out.1.below hb7) (And.intro (HM6.out.2.2.1.below hb7) hn7))
  clear m0 m1 m2 hr7 hb7 hn7
  obtain ⟨m0, m1, m2⟩ := HF7.out.mo 2 rfl
  have hRw := rawN (.agg #[.slice A1 1 c1, .int .u64 kk, .slice A2 1 c2]) 23 9 (23 / 2) A3 A7 c3 c7 w7 HM8.out.1 (by omega) HM8.out.2.1 HM8.out.2.2
  rw [show 23 / 2 = 11 from rfl, raw1] at hRw
  have HRw := Aside0.mk hRw
  clear hRw
  go_wp2_with fail
  refine HRw.out.mono ?_
  rintro e w8 ⟨v8, rfl, hr8⟩
  obtain ⟨A8, c8, rfl, hn8⟩ := hr8.num
  have hb8 := hr8.bel
  have hb9 := below_alloc (Below.refl w8.heap.size w8) (.cells #[.int .u64 1] 23)
  have hCm := compareN A8 (some ⟨w8.heap.size, 0, none⟩) c8 1 [1] [1] _ (hn8.below hb9) (litNum w8 1 (by omega)) (by simp) (by simp)
  rw [cmp1] at hCm
  have HCm2 := Aside0.mk hCm
  have HF9 := Aside0.mk ((HF7.out.mv hb8).mv hb9)
  have HM9 := Aside0.mk (And.intro ((HM8.out.1.below hb8).below hb9) ((HM8.out.2.1.below hb8).below hb9))
  clear m0 m1 m2 hr8 hb8 hn8 hb9 hCm
  go_wp2_with fail
  refine HCm2.out.mono ?_
  rintro e w' ⟨rfl, hw'⟩
  subst hw'
  go_wp2_with fail
  refine (mustG _ _).mono ?_
  rintro e w' ⟨rfl, hw'⟩
  subst hw'
  obtain ⟨m0, m1, m2⟩ := HF9.out.mo 2 rfl
  have hold := HF9.out.at 1 rfl
  have HF10 := Aside0.mk (HF9.out.row 1 rfl #[.slice A1 1 c1, .int .u64 kk, .slice A2 1 c2])
  have hkp := Kp.row hold (by decide) #[.slice A1 1 c1, .int .u64 kk, .slice A2 1 c2]
  have HM10 := Aside0.mk (And.intro (HM9.out.1.kp hkp) (HM9.out.2.kp hkp))
  clear hkp
  go_wp2_with (refine wpList_store_row rfl 73 (.tmp 4) (.tmp 60) rfl (w.heap.size + 1) #[.slice A1 1 c1, .int .u64 kk, .slice A2 1 c2] rfl rfl 73 _ hold size73 rfl (one3 _ _ _ _ _ _ _) ?_)
  obtain ⟨q0, q1, q2⟩ := HF10.out.mo 1 rfl
  refine bodyPost_ret (v := .tuple #[.agg #[.slice A1 1 c1, .int .u64 kk, .slice A2 1 c2], .slice A3 1 c3]) (by simp [results, Tryz.f121, go_sem, q0, q1, q2]) rfl ?_
  exact ⟨_, A3, c3, rfl, HM10.out.1, HM10.out.2, HF10.out.bel⟩
end Go.Proofs.YtjpibgehhgaopaaGreat.Top
