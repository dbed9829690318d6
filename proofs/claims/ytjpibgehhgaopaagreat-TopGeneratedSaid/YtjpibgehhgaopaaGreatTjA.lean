/- rsa: a trace's New, Many, Sum; got of what is right; Do's closure where nothing is thrown. -/
import Derived.Laws.Tables
import Derived.Laws.Rows
import Derived.Test.YtjpibgehhgaopaaGreatZ33
namespace Go.Proofs.YtjpibgehhgaopaaGreat.Top
open Go.RowKit Go.Proofs.YtjpibgehhgaopaaGreatW.PrintWords Go.Proofs.YtjpibgehhgaopaaGreatW.PrintLast Go.Proofs.YtjpibgehhgaopaaGreat.PTopGenerated
set_option linter.unusedVariables false
set_option linter.unusedSimpArgs false

theorem traceNew (w : World) : Calls Tryz.prog 13 #[] w fun x w' => x = .returned (.pointer (some ⟨w.heap.size, 0, none⟩)) ∧ w' = w.alloc (.cells #[.slice none 0 0, .int .i64 0, .int .u64 14695981039346656037] 90) := by
  have hu90 := Tryz.underlying90
  go_enter Tryz.func13, Tryz.ntmps13
  go_wp2_with fail
  go_ret
  exact ⟨rfl, rfl⟩
theorem T_new (w : World) (n : Nat) : T (w.alloc (.cells #[.slice none 0 0, .int .i64 0, .int .u64 14695981039346656037] 90)) w.heap.size (some w.heap.size) n :=
  ⟨by simp, .slice none 0 0, [], ⟨Nat.le_refl _, heap_alloc_new w _, Kd.R_nil _ _ _ _ _⟩, Nat.zero_le _⟩
theorem T.cells {w : World} {B n tb : Nat} (h : T w B (some tb) n) : ∃ v m s, w.heap[tb]? = some (.cells #[v, .int .i64 m, .int .u64 s] 90 (0, 0)) := by
  obtain ⟨_, v, l, h1, _⟩ := h
  exact ⟨v, _, _, h1.2.1⟩
theorem manyT (tb : Nat) (v : Value) (m s : Int) (w : World) (h : w.heap[tb]? = some (.cells #[v, .int .i64 m, .int .u64 s] 90 (0, 0))) : Calls Tryz.prog 15 #[.pointer (some ⟨tb, 0, none⟩)] w fun x w' => x = .returned (.int .i64 m) ∧ w' = w := by
  have h1 : w.cell? ⟨tb, 1, none⟩ = some (.int .i64 m) := blk_cell h 1
  clear h
  have hu90 := Tryz.underlying90
  go_enter Tryz.func15, Tryz.ntmps15
  go_wp2_with fail
  go_ret
  exact ⟨rfl, rfl⟩
theorem sumT (tb : Nat) (v : Value) (m s : Int) (w : World) (h : w.heap[tb]? = some (.cells #[v, .int .i64 m, .int .u64 s] 90 (0, 0))) : Calls Tryz.prog 16 #[.pointer (some ⟨tb, 0, none⟩)] w fun x w' => (∃ s', x = .returned (.int .u64 s')) ∧ w' = w := by
  have h1 : w.cell? ⟨tb, 1, none⟩ = some (.int .i64 m) := blk_cell h 1
  have h2 : w.cell? ⟨tb, 2, none⟩ = some (.int .u64 s) := blk_cell h 2
  clear h
  have hu90 := Tryz.underlying90
  by_cases hm : m = 0
  · subst hm
    go_enter Tryz.func16, Tryz.ntmps16
    go_wp2_with fail
    go_ret
    exact ⟨⟨_, rfl⟩, rfl⟩
  · have hl0 : (m == 0) = false := by simp [hm]
    have hl1 : decide (m = 0) = false := by simp [hm]
    go_enter Tryz.func16, Tryz.ntmps16
    go_wp2_with fail
    go_ret
    exact ⟨⟨_, rfl⟩, rfl⟩
theorem gotOk (v : Value) (w : World) : Calls Tryz.prog 35 #[v, .int .i64 0] w fun x w' => x = .returned v ∧ w' = w := by
  go_enter Tryz.func35, Tryz.ntmps35
  go_wp2_with fail
  go_ret
  exact ⟨rfl, rfl⟩
set_option maxRecDepth 100000 in
set_option maxHeartbeats 1000000 in
/-- Do's closure where nothing is thrown: how many events, and their sum, are written into the answer. -/
theorem idle14 (pa px pt tb : Nat) (c0 c1 c2 c3 c4 c5 c6 c7 c8 c9 c10 c11 c12 tv : Value) (m s : Int) (w : World) (hpa : w.heap[pa]? = some (.cells #[c0, c1, c2, c3, c4, c5, c6, c7, c8, c9, c10, c11, c12] 31 (0, 0)))
    (hpx : w.heap[px]? = some (.cells #[.pointer (some ⟨pt, 0, none⟩)] 52 (0, 0))) (hpt : w.cell? ⟨pt, 20, none⟩ = some (.pointer (some ⟨tb, 0, none⟩))) (hne : pa ≠ pt)
    (hT : w.heap[tb]? = some (.cells #[tv, .int .i64 m, .int .u64 s] 90 (0, 0))) :
    CallsD Tryz.prog 14 #[.pointer (some ⟨pa, 0, none⟩), .pointer (some ⟨px, 0, none⟩)] .returning w fun e u' w' => e = .returned (.tuple #[]) ∧ u' = .returning ∧ ∃ s' k, w' = (((w.setCell ⟨pa, 11, none⟩ (.int .i64 m)).setCell ⟨pa, 12, none⟩ (.int .u64 s')).drewN k) := by
  have x0 : w.cell? ⟨px, 0, none⟩ = some (.pointer (some ⟨pt, 0, none⟩)) := blk_cell hpx 0
  have a1 : w.cell? ⟨pa, 11, none⟩ = some c11 := blk_cell hpa 11
  have a2 : w.cell? ⟨pa, 12, none⟩ = some c12 := blk_cell hpa 12
  have f1 := frozen_of_row w pa 11 _ _ hpa
  have f2 := frozen_of_row w pa 12 _ _ hpa
  have hnx : pa ≠ px := blk_ne hpa hpx (by decide)
  have HT := Aside0.mk (show ∀ k, (w.drewN k).heap[tb]? = some (.cells #[tv, .int .i64 m, .int .u64 s] 90 (0, 0)) from fun _ => hT)
  have hu56 := Tryz.underlying56
  have hu31 := Tryz.underlying31
  clear hpa hpx hT
  refine callsD_of_wpS Tryz.func14 rfl fun c₀ cs hu => ?_
  simp only [Tryz.ntmps14, List.size_toArray, List.length_cons, List.length_nil, Nat.reduceAdd, Nat.reduceSub, Array.replicate_succ, Array.replicate_zero, List.push_toArray, List.append_toArray, List.nil_append, List.cons_append]
  apply wpS_seq
  apply wpS_seq
  apply wpS_region
  simp [wpOpsS, go_sem, recoverD, hu, Exit.thenS]
  refine wpS_of_wp ?_
  go_wp2_with fail
  simp only [Exit.thenS]
  refine wpS_of_wp ?_
  go_wp2_with fail
  go_region_held3 (fun W => W.cell? ⟨px, 0, none⟩ = some (.pointer (some ⟨pt, 0, none⟩)) ∧ W.cell? ⟨pt, 20, none⟩ = some (.pointer (some ⟨tb, 0, none⟩))) (go_keep) (first | (go_at_call 15; refine (manyT tb tv m s _ (HT.out _)).mono ?_; rintro e w' ⟨rfl, rfl⟩) | (go_at_call 16; refine (sumT tb tv m s _ (HT.out _)).mono ?_; rintro e w' ⟨⟨s', rfl⟩, rfl⟩))
  all_goals go_wp2_with fail
  all_goals exact ⟨rfl, _, rfl, _, results_none rfl _ _ _, rfl, hu, _, _, rfl⟩
end Go.Proofs.YtjpibgehhgaopaaGreat.Top
