/- The contracts of Span, Branch, Index, Many, Sum, Events, Same, New over a trace's list of events. -/
import Derived.Test.YtcjphioimmgbfaaTrB
import Derived.BigQuiet
import Derived.Deep.QuietTactic
namespace Go.Proofs.Ytcjphioimmgbfaa.Tra
open Go.RowKit Go.Proofs.YtcjphioimmgbfaaW.PrintWords Go.Proofs.YtcjphioimmgbfaaW.PrintLast Go.Proofs.YtcjphioimmgbfaaW.PrintMore Go.Proofs.Ytcjphioimmgbfaa.PTraceActs
set_option linter.unusedVariables false
set_option linter.unusedSimpArgs false

theorem spanO (B : Nat) (t : Option Nat) (v : Value) (l : List S24) (n : Int) (w : World) (h : TrO w B t v l) (hl : l.length ≤ 1099511627776) :
    Calls Try.prog 18 #[ptrV t, .int .i64 n] w fun x w' => x = .returned (.tuple #[]) ∧ PutO w w' B t v (l ++ [⟨1, n, 0⟩]) := by
  have H := Aside0.mk h
  clear h
  have hu24 := Try.underlying24
  go_enter Try.func18, Try.ntmps18
  go_wp2_with (go_at_call 36; refine (putO B t v l ⟨1, n, 0⟩ _ H.out (by omega)).mono ?_; rintro e w' ⟨rfl, hp⟩; have HP := Aside0.mk hp; clear hp)
  go_end0
  exact ⟨rfl, HP.out⟩
theorem indexO (B : Nat) (t : Option Nat) (v : Value) (l : List S24) (i n : Int) (w : World) (h : TrO w B t v l) (hl : l.length ≤ 1099511627776) :
    Calls Try.prog 33 #[ptrV t, .int .i64 i, .int .i64 n] w fun x w' => x = .returned (.int .i64 i) ∧ PutO w w' B t v (l ++ [⟨3, i, n⟩]) := by
  have H := Aside0.mk h
  clear h
  have hu24 := Try.underlying24
  go_enter Try.func33, Try.ntmps33
  go_wp2_with (go_at_call 36; refine (putO B t v l ⟨3, i, n⟩ _ H.out (by omega)).mono ?_; rintro e w' ⟨rfl, hp⟩; have HP := Aside0.mk hp; clear hp)
  go_ret
  exact ⟨rfl, HP.out⟩
theorem branchO (B : Nat) (t : Option Nat) (v : Value) (l : List S24) (b : Bool) (w : World) (h : TrO w B t v l) (hl : l.length ≤ 1099511627776) :
    Calls Try.prog 34 #[ptrV t, .bool b] w fun x w' => x = .returned (.bool b) ∧ PutO w w' B t v (l ++ [⟨2, if b then 1 else 0, 0⟩]) := by
  have H := Aside0.mk h
  clear h
  have hu24 := Try.underlying24
  cases b
  · have HB := Aside0.mk (((Below.refl w.heap.size w).alloc (Nat.le_refl _) (.cells #[.int .i64 2, .int .i64 0, .int .i64 0] 24)))
    go_enter Try.func34, Try.ntmps34
    go_wp2_with (go_at_call 36; refine (putO B t v l ⟨2, 0, 0⟩ _ (H.out.below HB.out) (by omega)).mono ?_; rintro e w' ⟨rfl, hp⟩; have HP := Aside0.mk hp; clear hp)
    go_ret
    exact ⟨rfl, PutO.after_below HB.out HP.out⟩
  · have HB := Aside0.mk (((Below.refl w.heap.size w).alloc (Nat.le_refl _) (.cells #[.int .i64 2, .int .i64 1, .int .i64 0] 24)))
    go_enter Try.func34, Try.ntmps34
    go_wp2_with (go_at_call 36; refine (putO B t v l ⟨2, 1, 0⟩ _ (H.out.below HB.out) (by omega)).mono ?_; rintro e w' ⟨rfl, hp⟩; have HP := Aside0.mk hp; clear hp)
    go_ret
    exact ⟨rfl, PutO.after_below HB.out HP.out⟩

theorem manyO (B : Nat) (t : Option Nat) (v : Value) (l : List S24) (w : World) (h : TrO w B t v l) (hn : t = none → l = []) :
    Calls Try.prog 15 #[ptrV t] w fun x w' => x = .returned (.int .i64 (l.length : Int)) ∧ w = w' := by
  rcases t with _ | tb
  · obtain rfl := hn rfl
    show Calls Try.prog 15 #[.pointer none] w _
    go_enter Try.func15, Try.ntmps15
    go_wp2
    go_ret
    exact ⟨rfl, rfl⟩
  · obtain ⟨hB, hblk, hR⟩ := h
    have h1 : w.cell? ⟨tb, 1, none⟩ = some (.int .i64 (l.length : Int)) := blk_cell hblk 1
    clear hblk hR hn
    have hu63 := Try.underlying63
    show Calls Try.prog 15 #[.pointer (some ⟨tb, 0, none⟩)] w _
    go_enter Try.func15, Try.ntmps15
    go_wp2
    go_ret
    exact ⟨rfl, rfl⟩

theorem sumO (B : Nat) (t : Option Nat) (v : Value) (l : List S24) (w : World) (h : TrO w B t v l) (hn : t = none → l = []) :
    Calls Try.prog 20 #[ptrV t] w fun x w' => x = .returned (.int .u64 (sumE l)) ∧ w = w' := by
  rcases t with _ | tb
  · obtain rfl := hn rfl
    show Calls Try.prog 20 #[.pointer none] w _
    go_enter Try.func20, Try.ntmps20
    go_wp2
    go_ret
    exact ⟨rfl, rfl⟩
  · obtain ⟨hB, hblk, hR⟩ := h
    have h1 : w.cell? ⟨tb, 1, none⟩ = some (.int .i64 (l.length : Int)) := blk_cell hblk 1
    have h2 : w.cell? ⟨tb, 2, none⟩ = some (.int .u64 (sumE l)) := blk_cell hblk 2
    clear hblk hR hn
    have hu63 := Try.underlying63
    show Calls Try.prog 20 #[.pointer (some ⟨tb, 0, none⟩)] w _
    by_cases hl : l = []
    · have hl0 : (((l.length : Nat) : Int) == 0) = true := by simp [hl]
      go_enter Try.func20, Try.ntmps20
      go_wp2
      go_ret
      exact ⟨by rw [hl]; rfl, rfl⟩
    · have hl0 : (((l.length : Nat) : Int) == 0) = false := by simp [hl]
      go_enter Try.func20, Try.ntmps20
      go_wp2
      go_ret
      exact ⟨rfl, rfl⟩

theorem k24_KM {w w' : World} {base : Nat} {ok : Nat → Prop} {x : S24} {cs : List Value} (h : k24.K w x cs) : k24.M w' base ok x cs := by
  rw [k24_open h]
  exact k24_mkM _ _ _ _

/-- slices.Clone of events: nil of nil; else a new row. -/
theorem cloneE (A : Option Addr) (c : Nat) (xs : List S24) (w : World) (hr : Kd.C k24 w A xs.length xs) (hl : xs.length ≤ 1000000) :
    Calls Try.prog 35 #[.slice A xs.length c] w fun x w' => ∃ A1 c1, x = .returned (.slice A1 xs.length c1) ∧ Kd.R k24 24 w' w.heap.size (fun _ => True) (.slice A1 xs.length c1) xs ∧ Below w.heap.size w w' := by
  have hu22 := Try.underlying22
  rcases A with _ | ad
  · have hq := fun W => Lib.run_eql_slice_nil (P := Try.prog) W 22 24 none 0 c 0 0 Try.underlying22
    have h0 : xs = [] := by
      rcases Nat.eq_zero_or_pos xs.length with h | h
      · exact List.eq_nil_of_length_eq_zero h
      · obtain ⟨_, e, _⟩ := hr.2.2 h
        cases e
    subst h0
    clear hr
    go_enter Try.func35, Try.ntmps35
    go_wp2
    go_ret
    exact ⟨none, 0, rfl, Kd.R_nil _ _ _ _ _, Below.refl _ _⟩
  · have hq := fun W => Lib.run_eql_slice_nil (P := Try.prog) W 22 24 (some ad) xs.length c 0 0 Try.underlying22
    have HL := Aside0.mk (show (0 + xs.length) * 24 ≤ 140737488355328 by omega)
    have HO := Aside0.mk (show Kd.R k24 24 (w.alloc (.cells #[] 24)) w.heap.size (fun _ => True) (.slice (some ⟨w.heap.size, 0, none⟩) 0 0) [] from
      ⟨fun _ _ => trivial, [], World.ownsRow_made w #[] 0 (Nat.le_refl _) (by unfold maxLen; omega) (by simp), Reps.none _ _⟩)
    have HR := Aside0.mk (ReadsRow.imp_ hr (below_alloc (Below.refl _ _) (.cells #[] 24)) (fun _ _ hp => hp))
    have HB := Aside0.mk (below_alloc (Below.refl w.heap.size w) (.cells #[] 24))
    clear hr hl
    go_enter Try.func35, Try.ntmps35
    go_wp2_with (at_builtin; refine Kd.R_append_rows k24 (Rr := k24.K w) (w0 := w) w.heap.size rfl (.tmp 5) (.tmp 6) 22 24 _ 24 rfl Try.underlying22 info24 rfl (by decide) (by decide) (.slice (some ⟨w.heap.size, 0, none⟩) 0 0) [] xs (some ad) xs.length c (fun _ => True) (fun _ => False) rfl rfl HO.out HR.out (fun _ _ hk => k24_KM hk) (fun _ h => h.elim) (fun _ _ => trivial) HB.out (by simp) HL.out ?_; intro v1 w1 hR1 hB1 hg1 hat1; have HR1 := Aside0.mk hR1; have HB1 := Aside0.mk hB1; clear hR1 hB1 hg1 hat1)
    go_ret
    obtain ⟨A1, c1, hv⟩ := Kd.R_slice HR1.out
    subst hv
    exact ⟨A1, c1, rfl, HR1.out, HB1.out⟩

/-- Events: the first thousand, in a row of their own. -/
theorem eventsO (B : Nat) (t : Option Nat) (v : Value) (l : List S24) (w : World) (h : TrO w B t v l) (hn : t = none → l = []) :
    Calls Try.prog 14 #[ptrV t] w fun x w' => ∃ A1 c1, x = .returned (.slice A1 (l.take 1000).length c1) ∧ Kd.R k24 24 w' w.heap.size (fun _ => True) (.slice A1 (l.take 1000).length c1) (l.take 1000) ∧ Below w.heap.size w w' := by
  rcases t with _ | tb
  · obtain rfl := hn rfl
    show Calls Try.prog 14 #[.pointer none] w _
    go_enter Try.func14, Try.ntmps14
    go_wp2
    go_ret
    exact ⟨none, 0, rfl, Kd.R_nil _ _ _ _ _, Below.refl _ _⟩
  · obtain ⟨hB, hblk, hR⟩ := h
    obtain ⟨A, c, rfl, hlc, hC⟩ := Kd.R_reads hR
    have h0 : w.cell? ⟨tb, 0, none⟩ = some (.slice A (l.take 1000).length c) := blk_cell hblk 0
    have hl : (l.take 1000).length ≤ 1000000 := by rw [List.length_take]; omega
    have HC := Aside0.mk hC
    have hu63 := Try.underlying63
    generalize l.take 1000 = xs at *
    clear hblk hR hC hlc
    show Calls Try.prog 14 #[.pointer (some ⟨tb, 0, none⟩)] w _
    go_enter Try.func14, Try.ntmps14
    go_wp2_with (go_at_call 35; refine (cloneE A c xs w HC.out hl).mono ?_; rintro e w' ⟨A1, c1, rfl, hR1, hB1⟩; have HR1 := Aside0.mk hR1; have HB1 := Aside0.mk hB1; clear hR1 hB1)
    go_ret
    exact ⟨A1, c1, rfl, HR1.out, HB1.out⟩

/-- New: an empty trace. -/
theorem newO (w : World) : Calls Try.prog 12 #[] w fun x w' => ∃ tb, x = .returned (ptrV (some tb)) ∧ Tr w' w.heap.size tb (.slice none 0 0) [] ∧ Below w.heap.size w w' ∧ w.heap.size ≤ tb := by
  have hu63 := Try.underlying63
  go_enter Try.func12, Try.ntmps12
  go_wp2
  go_ret
  exact ⟨w.heap.size, rfl, ⟨Nat.le_refl _, heap_alloc_new w _, Kd.R_nil _ _ _ _ _⟩, below_alloc (Below.refl _ _) _, Nat.le_refl _⟩
end Go.Proofs.Ytcjphioimmgbfaa.Tra
