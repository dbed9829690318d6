/- The laws' own helpers: awake, put, over a trace's list of events. -/
import Derived.Test.YtcjphioimmgbfaaTrD
namespace Go.Proofs.Ytcjphioimmgbfaa.Tra
open Go.RowKit Go.Proofs.YtcjphioimmgbfaaW.PrintWords Go.Proofs.YtcjphioimmgbfaaW.PrintLast Go.Proofs.YtcjphioimmgbfaaW.PrintMore Go.Proofs.Ytcjphioimmgbfaa.PTraceActs
attribute [local go_sem high] eqA24
set_option linter.unusedVariables false
set_option linter.unusedSimpArgs false

theorem newO' (w : World) : Calls Try.prog 12 #[] w fun x w' => ∃ tb, x = .returned (.pointer (some ⟨tb, 0, none⟩)) ∧ Aside0 (TrO w' w.heap.size (some tb) (.slice none 0 0) []) ∧ Aside0 (Below w.heap.size w w' ∧ w.heap.size ≤ tb) :=
  (newO w).mono fun x w' ⟨tb, h1, h2, h3, h4⟩ => ⟨tb, h1, ⟨h2⟩, ⟨h3, h4⟩⟩

/-- What a trace made since B does to itself leaves what lies below B. -/
theorem OnlyT.below_ {w w1 : World} {B : Nat} {t : Option Nat} {v : Value} {l : List S24} (h : OnlyT w w1 t v.ownBlock) (hT : TrO w B t v l) (hB : B ≤ w.heap.size) : Below B w w1 := by
  refine ⟨h.os, h.tape, h.output, h.size, fun k hk => h.block k (by omega) ?_ ?_⟩
  · rintro rfl
    have := hT.1
    omega
  · intro e
    rcases t with _ | tb
    · obtain rfl : v = .slice none 0 0 := hT
      simp [Value.ownBlock] at e
    · obtain ⟨inner, hown⟩ := Kd.R_own hT.2.2
      have := own_base hown k e.symm
      omega
theorem PutO.below_ {w w1 : World} {B : Nat} {t : Option Nat} {v : Value} {l l' : List S24} (h : PutO w w1 B t v l') (hT : TrO w B t v l) (hB : B ≤ w.heap.size) : Below B w w1 := by
  obtain ⟨v1, h1, h2, h3⟩ := h
  exact h2.below_ hT hB

set_option maxHeartbeats 400000 in
theorem awakeT (w : World) : Calls Try.prog 11 #[] w fun x w' => x = .returned (.bool true) ∧ Below w.heap.size w w' := by
  have hu24 := Try.underlying24
  have hu22 := Try.underlying22
  go_enter Try.func11, Try.ntmps11
  go_wp2_with fail
  refine (newO' w).mono ?_
  rintro x w1 ⟨tb, rfl, HT, HB⟩
  go_wp2_with fail
  refine (indexO w.heap.size (some tb) (.slice none 0 0) [] 3 16 w1 HT.out (by simp)).mono ?_
  rintro x w2 ⟨rfl, hp⟩
  have HB2 := Aside0.mk (hp.below_ HT.out HB.out.1.size)
  obtain ⟨v2, h2, _, _⟩ := hp
  have HT2 := Aside0.mk h2
  clear h2
  go_wp2_with fail
  refine (eventsO' w.heap.size (some tb) v2 _ w2 HT2.out (by simp)).mono ?_
  rintro x w3 ⟨xs, A1, c1, rfl, HX, HR, HC, HB3⟩
  obtain rfl : xs = [⟨3, 3, 16⟩] := HX.out
  obtain ⟨ad, e1, a0, a1, a2⟩ := at_T24 HC.out 0 (by omega) (by simp)
  subst e1
  simp [rd_T24, show ad.add 0 = ad from by simp [Addr.add]] at a0 a1 a2
  go_wp2
  go_ret
  exact ⟨rfl, HB.out.1.trans (HB2.out.trans (HB3.out.mono (Nat.le_trans HB.out.1.size HB2.out.size)))⟩

/-- An event as its call writes it. -/
def cleanE (e : S24) : S24 := if e.f0 = 1 then ⟨1, e.f1, 0⟩ else if e.f0 = 2 then ⟨2, if e.f1 = 1 then 1 else 0, 0⟩ else ⟨3, e.f1, e.f2⟩

theorem TrO.drewed {w : World} {B : Nat} {t : Option Nat} {v : Value} {l : List S24} (h : TrO w B t v l) : TrO w.drew B t v l := h.below (below_drew (Below.refl _ _))
/-- The event's box is still there behind a call that writes to the trace. -/
theorem box_kept {w W w1 : World} {B : Nat} {t : Option Nat} {v : Value} {l l' : List S24} (hT : TrO w B t v l) (hs : w.heap.size < W.heap.size) (h : PutO W w1 B t v l') (i : Nat) (u : Value) (hc : W.cell? ⟨w.heap.size, i, none⟩ = some u) : w1.cell? ⟨w.heap.size, i, none⟩ = some u := by
  obtain ⟨v1, _, hO, _⟩ := h
  refine (World.cell?_of_block (a := ⟨w.heap.size, i, none⟩) (hO.block w.heap.size hs ?_ ?_)).trans hc
  · rintro rfl
    have := blk_lt hT.2.1
    omega
  · intro he
    rcases t with _ | tb
    · obtain rfl : v = .slice none 0 0 := hT
      simp [Value.ownBlock] at he
    · obtain ⟨inner, hown⟩ := Kd.R_own hT.2.2
      have := own_lt hown _ he.symm
      omega

set_option maxHeartbeats 1000000 in
set_option maxRecDepth 100000 in
theorem putL (B : Nat) (t : Option Nat) (v : Value) (l : List S24) (e : S24) (w : World) (h : TrO w B t v l) (hl : l.length ≤ 1099511627776) :
    Calls Try.prog 13 #[ptrV t, evV e] w fun x w' => x = .returned (.bool true) ∧ PutO w w' B t v (l ++ [cleanE e]) := by
  have HT := Aside0.mk h
  have HBx := Aside0.mk (below_alloc (Below.refl w.heap.size w) (boxE e))
  have HL := Aside0.mk hl
  clear h hl
  have hu24 := Try.underlying24
  by_cases h1 : e.f0 = 1
  · have h1' : (e.f0 == 1) = true := by simpa using h1
    have HC := Aside0.mk (show cleanE e = ⟨1, e.f1, 0⟩ from if_pos h1)
    clear h1
    go_enter Try.func13, Try.ntmps13
    go_wp2_with fail
    refine (spanO B t v l e.f1 _ (HT.out.below HBx.out) HL.out).mono ?_
    rintro x w1 ⟨rfl, hp⟩
    have HP := Aside0.mk hp
    clear hp
    go_wp2_with fail
    go_ret
    exact ⟨rfl, by rw [HC.out]; exact PutO.after_below HBx.out HP.out⟩
  · have h1' : (e.f0 == 1) = false := by simpa using h1
    by_cases h2 : e.f0 = 2
    · have h2' : (e.f0 == 2) = true := by simpa using h2
      have HC := Aside0.mk (show cleanE e = ⟨2, if (e.f1 == 1) = true then 1 else 0, 0⟩ by unfold cleanE; rw [if_neg h1, if_pos h2]; simp)
      clear h1 h2
      go_enter Try.func13, Try.ntmps13
      go_wp2_with fail
      -- BEGIN R6
      refine start_ (n := 10) (S := fun w' => w'.cell? ⟨w.heap.size, 1, none⟩ = some (.int .i64 e.f1)) (ds := []) #[false, false, false, false, false, false, false, false, false, false] (by kernel_rfl) rfl rfl ((by simp)) (fun hHeld => ?_)
      refine pure_ (i := 0) (N := some 15) (v := ?_) (a' := ?_) #[true, false, false, false, false, false, false, false, false, false] rfl rfl (by kernel_rfl) (fun _ _ _ h => h) (Or.inl ⟨by rfl, ?_⟩) ?_ ?_
      rotate_left
      · intro w'
        go_simp
        with_reducible rfl
      rotate_left
      · simp only [Act.put, List.setIfInBounds_toArray, List.set_cons_zero, List.set_cons_succ, i64_w, i32_w]
        rfl
      refine pure_ (i := 1) (N := some 16) (v := ?_) (a' := ?_) #[true, true, false, false, false, false, false, false, false, false] rfl rfl (by kernel_rfl) (fun _ _ _ h => h) (Or.inl ⟨by rfl, ?_⟩) ?_ ?_
      rotate_left
      · intro w'
        go_simp
        with_reducible rfl
      rotate_left
      · simp only [Act.put, List.setIfInBounds_toArray, List.set_cons_zero, List.set_cons_succ, i64_w, i32_w]
        rfl
      refine pure_ (i := 5) (N := some 20) (v := ?_) (a' := ?_) #[true, true, false, false, false, true, false, false, false, false] rfl rfl (by kernel_rfl) (fun _ _ _ h => h) (Or.inl ⟨by rfl, ?_⟩) ?_ ?_
      rotate_left
      · intro w'
        go_simp
        with_reducible rfl
      rotate_left
      · simp only [Act.put, List.setIfInBounds_toArray, List.set_cons_zero, List.set_cons_succ, i64_w, i32_w]
        rfl
      refine take_ (i := 2) (N := some 17) (v := ?_) (a' := ?_) #[true, true, true, false, false, true, false, false, false, false] rfl rfl (by kernel_rfl) (fun _ _ _ h => h) (Or.inl ⟨by rfl, ?_⟩) hHeld ?_ ?_
      rotate_left
      · intro w' s0
        go_simp
        with_reducible rfl
      rotate_left
      · simp only [Act.put, List.setIfInBounds_toArray, List.set_cons_zero, List.set_cons_succ, i64_w, i32_w]
        rfl
      refine pure_ (i := 3) (N := some 18) (v := ?_) (a' := ?_) #[true, true, true, true, false, true, false, false, false, false] rfl rfl (by kernel_rfl) (fun _ _ _ h => h) (Or.inl ⟨by rfl, ?_⟩) ?_ ?_
      rotate_left
      · intro w'
        go_simp
        with_reducible rfl
      rotate_left
      · simp only [Act.put, List.setIfInBounds_toArray, List.set_cons_zero, List.set_cons_succ, i64_w, i32_w]
        rfl
      refine take_ (i := 6) (N := some 21) (v := ?_) (a' := ?_) #[true, true, true, true, false, true, true, false, false, false] rfl rfl (by kernel_rfl) (fun _ _ _ h => h) (Or.inl ⟨by rfl, ?_⟩) hHeld ?_ ?_
      rotate_left
      · intro w' s0
        go_simp
        with_reducible rfl
      rotate_left
      · simp only [Act.put, List.setIfInBounds_toArray, List.set_cons_zero, List.set_cons_succ, i64_w, i32_w]
        rfl
      refine pure_ (i := 7) (N := some 22) (v := ?_) (a' := ?_) #[true, true, true, true, false, true, true, true, false, false] rfl rfl (by kernel_rfl) (fun _ _ _ h => h) (Or.inl ⟨by rfl, ?_⟩) ?_ ?_
      rotate_left
      · intro w'
        go_simp
        with_reducible rfl
      rotate_left
      · simp only [Act.put, List.setIfInBounds_toArray, List.set_cons_zero, List.set_cons_succ, i64_w, i32_w]
        rfl
      refine one_ (i := 4) (N := some 19) #[true, true, true, true, true, true, true, true, false, false] rfl rfl (by kernel_rfl) (by decide) (fun K hK => ?_)
      refine goes_ Try.func34 (by kernel_rfl) rfl #[ptrV t, .bool (e.f1 == 1)] (by rfl) rfl rfl (by simp only [List.map_toArray, List.map_cons, List.map_nil]; rfl) ?_
      with_reducible refine (branchO B t v l (e.f1 == 1) _ (HT.out.below HBx.out).drewed HL.out).mono ?_
      rintro x w3 ⟨rfl, hp⟩
      have HP := Aside0.mk hp
      clear hp
      refine ⟨_, rfl, ?_⟩
      refine hK.out _ _ ((box_kept HT.out (by simp) HP.out 1 (.int .i64 e.f1) (by simp))) (fun hHeld => ?_)
      clear hK K
      refine norm_ (a' := ?_) ?_ ?_
      rotate_left
      · show Act.put _ (some 19) _ = _
        simp only [Act.put, List.setIfInBounds_toArray, List.set_cons_zero, List.set_cons_succ, i64_w, i32_w]
        rfl
      refine pure_ (i := 8) (N := some 23) (v := ?_) (a' := ?_) #[true, true, true, true, true, true, true, true, true, false] rfl rfl (by kernel_rfl) (fun _ _ _ h => h) (Or.inl ⟨by rfl, ?_⟩) ?_ ?_
      rotate_left
      · intro w'
        go_simp
        with_reducible rfl
      rotate_left
      · simp only [Act.put, List.setIfInBounds_toArray, List.set_cons_zero, List.set_cons_succ, i64_w, i32_w]
        rfl
      refine pure_ (i := 9) (N := some 4) (v := ?_) (a' := ?_) #[true, true, true, true, true, true, true, true, true, true] rfl rfl (by kernel_rfl) (fun _ _ _ h => h) (Or.inl ⟨by rfl, ?_⟩) ?_ ?_
      rotate_left
      · intro w'
        go_simp
        with_reducible rfl
      rotate_left
      · simp only [Act.put, List.setIfInBounds_toArray, List.set_cons_zero, List.set_cons_succ, i64_w, i32_w]
        rfl
      refine done_ (by kernel_rfl) ?_
      -- END R6
      go_wp2
      go_ret
      exact ⟨rfl, by rw [HC.out]; exact PutO.after_below (below_drew HBx.out) HP.out⟩
    · have h2' : (e.f0 == 2) = false := by simpa using h2
      have HC := Aside0.mk (show cleanE e = ⟨3, e.f1, e.f2⟩ by unfold cleanE; rw [if_neg h1, if_neg h2])
      clear h1 h2
      go_enter Try.func13, Try.ntmps13
      go_wp2_with fail
      -- BEGIN R7
      refine start_ (n := 10) (S := fun w' => w'.cell? ⟨w.heap.size, 1, none⟩ = some (.int .i64 e.f1) ∧ w'.cell? ⟨w.heap.size, 2, none⟩ = some (.int .i64 e.f2)) (ds := []) #[false, false, false, false, false, false, false, false, false, false] (by kernel_rfl) rfl rfl ⟨(by simp), (by simp)⟩ (fun hHeld => ?_)
      refine pure_ (i := 0) (N := some 24) (v := ?_) (a' := ?_) #[true, false, false, false, false, false, false, false, false, false] rfl rfl (by kernel_rfl) (fun _ _ _ h => h) (Or.inl ⟨by rfl, ?_⟩) ?_ ?_
      rotate_left
      · intro w'
        go_simp
        with_reducible rfl
      rotate_left
      · simp only [Act.put, List.setIfInBounds_toArray, List.set_cons_zero, List.set_cons_succ, i64_w, i32_w]
        rfl
      refine pure_ (i := 1) (N := some 25) (v := ?_) (a' := ?_) #[true, true, false, false, false, false, false, false, false, false] rfl rfl (by kernel_rfl) (fun _ _ _ h => h) (Or.inl ⟨by rfl, ?_⟩) ?_ ?_
      rotate_left
      · intro w'
        go_simp
        with_reducible rfl
      rotate_left
      · simp only [Act.put, List.setIfInBounds_toArray, List.set_cons_zero, List.set_cons_succ, i64_w, i32_w]
        rfl
      refine pure_ (i := 3) (N := some 27) (v := ?_) (a' := ?_) #[true, true, false, true, false, false, false, false, false, false] rfl rfl (by kernel_rfl) (fun _ _ _ h => h) (Or.inl ⟨by rfl, ?_⟩) ?_ ?_
      rotate_left
      · intro w'
        go_simp
        with_reducible rfl
      rotate_left
      · simp only [Act.put, List.setIfInBounds_toArray, List.set_cons_zero, List.set_cons_succ, i64_w, i32_w]
        rfl
      refine pure_ (i := 6) (N := some 30) (v := ?_) (a' := ?_) #[true, true, false, true, false, false, true, false, false, false] rfl rfl (by kernel_rfl) (fun _ _ _ h => h) (Or.inl ⟨by rfl, ?_⟩) ?_ ?_
      rotate_left
      · intro w'
        go_simp
        with_reducible rfl
      rotate_left
      · simp only [Act.put, List.setIfInBounds_toArray, List.set_cons_zero, List.set_cons_succ, i64_w, i32_w]
        rfl
      refine take_ (i := 2) (N := some 26) (v := ?_) (a' := ?_) #[true, true, true, true, false, false, true, false, false, false] rfl rfl (by kernel_rfl) (fun _ _ _ h => h) (Or.inl ⟨by rfl, ?_⟩) hHeld ?_ ?_
      rotate_left
      · rintro w' ⟨s0, s1⟩
        go_simp
        with_reducible rfl
      rotate_left
      · simp only [Act.put, List.setIfInBounds_toArray, List.set_cons_zero, List.set_cons_succ, i64_w, i32_w]
        rfl
      refine take_ (i := 4) (N := some 28) (v := ?_) (a' := ?_) #[true, true, true, true, true, false, true, false, false, false] rfl rfl (by kernel_rfl) (fun _ _ _ h => h) (Or.inl ⟨by rfl, ?_⟩) hHeld ?_ ?_
      rotate_left
      · rintro w' ⟨s0, s1⟩
        go_simp
        with_reducible rfl
      rotate_left
      · simp only [Act.put, List.setIfInBounds_toArray, List.set_cons_zero, List.set_cons_succ, i64_w, i32_w]
        rfl
      refine take_ (i := 7) (N := some 31) (v := ?_) (a' := ?_) #[true, true, true, true, true, false, true, true, false, false] rfl rfl (by kernel_rfl) (fun _ _ _ h => h) (Or.inl ⟨by rfl, ?_⟩) hHeld ?_ ?_
      rotate_left
      · rintro w' ⟨s0, s1⟩
        go_simp
        with_reducible rfl
      rotate_left
      · simp only [Act.put, List.setIfInBounds_toArray, List.set_cons_zero, List.set_cons_succ, i64_w, i32_w]
        rfl
      refine one_ (i := 5) (N := some 29) #[true, true, true, true, true, true, true, true, false, false] rfl rfl (by kernel_rfl) (by decide) (fun K hK => ?_)
      refine goes_ Try.func33 (by kernel_rfl) rfl #[ptrV t, .int .i64 e.f1, .int .i64 e.f2] (by rfl) rfl rfl (by simp only [List.map_toArray, List.map_cons, List.map_nil]; rfl) ?_
      with_reducible refine (indexO B t v l e.f1 e.f2 _ (HT.out.below HBx.out).drewed HL.out).mono ?_
      rintro x w3 ⟨rfl, hp⟩
      have HP := Aside0.mk hp
      clear hp
      refine ⟨_, rfl, ?_⟩
      refine hK.out _ _ ⟨(box_kept HT.out (by simp) HP.out 1 (.int .i64 e.f1) (by simp)), (box_kept HT.out (by simp) HP.out 2 (.int .i64 e.f2) (by simp))⟩ (fun hHeld => ?_)
      clear hK K
      refine norm_ (a' := ?_) ?_ ?_
      rotate_left
      · show Act.put _ (some 29) _ = _
        simp only [Act.put, List.setIfInBounds_toArray, List.set_cons_zero, List.set_cons_succ, i64_w, i32_w]
        rfl
      refine pure_ (i := 8) (N := some 32) (v := ?_) (a' := ?_) #[true, true, true, true, true, true, true, true, true, false] rfl rfl (by kernel_rfl) (fun _ _ _ h => h) (Or.inl ⟨by rfl, ?_⟩) ?_ ?_
      rotate_left
      · intro w'
        go_simp
        with_reducible rfl
      rotate_left
      · simp only [Act.put, List.setIfInBounds_toArray, List.set_cons_zero, List.set_cons_succ, i64_w, i32_w]
        rfl
      refine pure_ (i := 9) (N := some 4) (v := ?_) (a' := ?_) #[true, true, true, true, true, true, true, true, true, true] rfl rfl (by kernel_rfl) (fun _ _ _ h => h) (Or.inl ⟨by rfl, ?_⟩) ?_ ?_
      rotate_left
      · intro w'
        go_simp
        with_reducible rfl
      rotate_left
      · simp only [Act.put, List.setIfInBounds_toArray, List.set_cons_zero, List.set_cons_succ, i64_w, i32_w]
        rfl
      refine done_ (by kernel_rfl) ?_
      -- END R7
      go_wp2
      go_ret
      exact ⟨rfl, by rw [HC.out]; exact PutO.after_below (below_drew HBx.out) HP.out⟩
end Go.Proofs.Ytcjphioimmgbfaa.Tra
