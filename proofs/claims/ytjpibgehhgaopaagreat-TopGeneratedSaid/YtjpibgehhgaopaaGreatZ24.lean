/- miller's strong, by one word. -/
import Derived.Test.YtjpibgehhgaopaaGreatZ23
namespace Go.Proofs.YtjpibgehhgaopaaGreat.Top
open Go.RowKit Go.Proofs.YtjpibgehhgaopaaGreatW.PrintWords Go.Proofs.YtjpibgehhgaopaaGreatW.PrintLast Go.Proofs.YtjpibgehhgaopaaGreat.PTopGenerated
set_option linter.unusedVariables false
set_option linter.unusedSimpArgs false

/-- The squares. -/
def strongL (M : Nat) : Nat → Nat → Bool
  | 0, _ => false
  | s + 1, y => if y = M - 1 then true else if s = 0 then false else strongL M s (rawW M y 2)
/-- Whether a base says yes. -/
def strongF (M b : Nat) : Bool := if rawW M b (oddP (M - 1) 0).1 = 1 then true else strongL M (oddP (M - 1) 0).2 (rawW M b (oddP (M - 1) 0).1)
theorem cmp_eq (x y : Nat) : (cmpI x y == 0) = decide (x = y) := by
  unfold cmpI
  by_cases h1 : x < y
  · rw [if_pos h1, decide_eq_false (by omega)]; rfl
  · rw [if_neg h1]
    by_cases h2 : y < x
    · rw [if_pos h2, decide_eq_false (by omega)]; rfl
    · rw [if_neg h2, decide_eq_true (by omega)]; rfl
theorem oddP_le (d s : Nat) : (oddP d s).2 ≤ s + d := by
  rw [oddP]
  split
  · rename_i h
    have ih := oddP_le (d / 2) (s + 1)
    omega
  · exact Nat.le_add_right _ _
  termination_by d
  decreasing_by omega
set_option maxHeartbeats 2000000 in
set_option maxRecDepth 100000 in
theorem strongI (cs : Array Value) (A : Option Addr) (c M b : Nat) (w : World) (ht : TesC w cs M) (h : Num w A c [b]) (h3 : 3 < M) (ho : M % 2 = 1) (hs62 : (oddP (M - 1) 0).2 ≤ 1000) :
    Calls Tryz.prog 30 #[.agg cs, .slice A 1 c] w fun e w' => e = .returned (.bool (strongF M b)) ∧ Below w.heap.size w w' := by
  obtain ⟨A1, c1, A2, c2, A3, c3, A4, c4, rfl, h1, h2, hl, hd⟩ := ht.has
  have HSF := Aside0.mk (show strongF M b = if rawW M b (oddP (M - 1) 0).1 = 1 then true else strongL M (oddP (M - 1) 0).2 (rawW M b (oddP (M - 1) 0).1) from rfl)
  generalize (oddP (M - 1) 0).1 = d at *
  generalize (oddP (M - 1) 0).2 = s at *
  have hbw := h.w64 b (by simp)
  have HRz := Aside0.mk (fun W (h : Num W A c [b]) => resizeN A c [b] 1 W h (by rw [val_one]; exact wl_one_le hbw) (by omega))
  simp only [val_one, List.length_singleton] at HRz
  rw [digs_one hbw] at HRz
  have HRaw := Aside0.mk (fun W Aa ca a Ae ce E (hk : Kp w W) (ha : Num W Aa ca [a]) (he : Num W Ae ce [E]) => rawN (.agg #[.slice A1 1 c1, .int .u64 (KI M), .slice A2 1 c2]) M a E Aa Ae ca ce W ⟨A1, c1, A2, c2, rfl, h1.kp hk, h2.kp hk⟩ (by omega) ha he)
  generalize KI M = kk at *
  have HF0 := Aside0.mk ((Fr.nil w).alloc (.cells #[.slice A1 1 c1, .int .u64 kk, .slice A2 1 c2, .slice A3 1 c3, .slice A4 1 c4, .int .i64 (s : Int)] 75))
  simp only [List.nil_append] at HF0
  have HN := Aside0.mk (And.intro h (And.intro hl hd))
  have k0 := HF0.out.cell 0 rfl 0 rfl
  clear h h1 h2 hl hd ht
  go_enter Tryz.func30, Tryz.ntmps30
  go_wp2_with fail
  go_step3
  go_wp2_with fail
  refine (HRz.out _ (HN.out.1.fr HF0.out)).mono ?_
  rintro e w1 ⟨v1, rfl, hr1⟩
  obtain ⟨Ab, cb, rfl, hn1⟩ := hr1.num
  have HF1 := Aside0.mk (HF0.out.mv hr1.bel)
  have HN1 := Aside0.mk hn1
  have q0 := HF1.out.cell 0 rfl 0 rfl
  have q1 := HF1.out.cell 0 rfl 1 rfl
  have q2 := HF1.out.cell 0 rfl 2 rfl
  have q4 := HF1.out.cell 0 rfl 4 rfl
  clear hr1 hn1 HRz HF0 k0
  go_wp2_with fail
  refine (HRaw.out _ _ _ _ _ _ _ (Kp.of_below HF1.out.bel) HN1.out (HN.out.2.2.fr HF1.out)).mono ?_
  rintro e w2 ⟨v2, rfl, hr2⟩
  obtain ⟨Ay, cy, rfl, hn2⟩ := hr2.num
  have hb3 := below_alloc (Below.refl _ w2) (.cells #[.int .u64 1] 23)
  have HF2 := Aside0.mk (HF1.out.mv hr2.bel)
  have HF3 := Aside0.mk (HF2.out.mv hb3)
  have HN2 := Aside0.mk (And.intro (hn2.below hb3) (show Num (w2.alloc (.cells #[.int .u64 1] 23)) (some ⟨w2.heap.size, 0, none⟩) 1 [1] from num_of_blk (l := [1]) (heap_alloc_new _ _) (W64_one (by omega)) (by simp) (by simp)))
  obtain ⟨y0, hy0⟩ : ∃ y0, y0 = rawW M b d := ⟨_, rfl⟩
  rw [← hy0] at HN2 HSF
  have HC := Aside0.mk (compareN _ _ _ _ [y0] [1] _ HN2.out.1 HN2.out.2 (by simp) (by simp))
  simp only [val_one, List.length_singleton] at HC
  have hcmp := cmp_eq y0 1
  obtain ⟨cx, hcx⟩ : ∃ cx, cx = cmpI y0 1 := ⟨_, rfl⟩
  rw [← hcx] at HC hcmp
  clear hr2 hn2 hb3 hy0 hcx q0 q1 q2 q4 HF1 HN1
  by_cases hy1 : y0 = 1
  · rw [decide_eq_true hy1] at hcmp
    rw [if_pos hy1] at HSF
    clear hy1
    go_wp2_with fail
    refine HC.out.mono ?_
    rintro e w' ⟨rfl, rfl⟩
    go_wp2_with fail
    rw [Exit.noGoto_ret]
    go_ret
    exact ⟨by rw [HSF.out]; rfl, HF3.out.bel⟩
  · rw [decide_eq_false hy1] at hcmp
    rw [if_neg hy1] at HSF
    clear hy1
    have q5 := HF3.out.cell 0 rfl 5 rfl
    go_wp2_with fail
    refine HC.out.mono ?_
    rintro e w' ⟨rfl, rfl⟩
    go_wp2_with fail
    go_step3
    go_wp2_with fail
    have HNy := Aside0.mk HN2.out.1
    have HB3 := Aside0.mk (show w.heap.size ≤ w.heap.size from Nat.le_refl _)
    obtain ⟨b0, hb0⟩ : ∃ b0, b0 = w.heap.size := ⟨_, rfl⟩
    obtain ⟨W3, hW3⟩ : ∃ W3, W3 = w2.alloc (.cells #[.int .u64 1] 23) := ⟨_, rfl⟩
    rw [← hb0, ← hW3] at HF3
    rw [← hW3] at HNy
    rw [← hb0, ← hW3]
    clear hb0 hW3 HC hcmp q5 HN2 HF2 HB3
    go_loopw [7, 30] (fun v7 v30 wr => ∃ (i y : Nat) (Ay : Option Addr) (cy : Nat), v7 = .slice Ay 1 cy ∧ v30 = .int .i64 (i : Int) ∧ Aside0 (i ≤ s ∧ strongL M (s - i) y = strongF M b) ∧ Aside0 (Num wr Ay cy [y]) ∧ Aside0 (Fr w wr [(b0, .cells #[.slice A1 1 c1, .int .u64 kk, .slice A2 1 c2, .slice A3 1 c3, .slice A4 1 c4, .int .i64 (s : Int)] 75)])) (fun _ v30 _ => s - (intOf v30).toNat)
    case atStart => exact ⟨0, y0, Ay, cy, rfl, rfl, ⟨Nat.zero_le _, by rw [Nat.sub_zero, HSF.out]⟩, HNy, HF3⟩
    case round =>
      clear HNy HF3
      obtain ⟨i, y, Ay, cy, rfl, rfl, HI, HNy, HF3⟩ := hrel
      by_cases hi : i < s
      · obtain ⟨k, hk⟩ : ∃ k, s - i = k + 1 := ⟨s - i - 1, by omega⟩
        have hE : strongF M b = if y = M - 1 then true else if k = 0 then false else strongL M k (rawW M y 2) := by rw [← HI.out.2, hk]; rfl
        have t1 : decide ((i : Int) < (s : Int)) = true := by rw [decide_eq_true_eq]; omega
        have q3 := HF3.out.cell 0 rfl 3 rfl
        have q5 := HF3.out.cell 0 rfl 5 rfl
        have HC := Aside0.mk (compareN Ay A3 cy c3 [y] [M - 1] wr HNy.out (HN.out.2.1.fr HF3.out) (by simp) (by simp))
        simp only [val_one, List.length_singleton] at HC
        have hcmp := cmp_eq y (M - 1)
        obtain ⟨cx, hcx⟩ : ∃ cx, cx = cmpI y (M - 1) := ⟨_, rfl⟩
        rw [← hcx] at HC hcmp
        clear hcx
        by_cases hy : y = M - 1
        · rw [decide_eq_true hy] at hcmp
          rw [if_pos hy] at hE
          have HE := Aside0.mk hE
          clear hy hE hk
          go_wp2_with fail
          refine HC.out.mono ?_
          rintro e w' ⟨rfl, rfl⟩
          go_wp2_with fail
          rw [Exit.noGoto_ret]
          go_ret
          exact ⟨by rw [HE.out]; rfl, HF3.out.bel⟩
        · rw [decide_eq_false hy] at hcmp
          rw [if_neg hy] at hE
          by_cases hk0 : k = 0
          · have t2 : ((i : Int) == (s : Int) - 1) = true := by simp; omega
            have ws : wrap64 ((s : Int) - 1) = (s : Int) - 1 := wrap64_id (by omega) (by omega)
            rw [if_pos hk0] at hE
            have HE := Aside0.mk hE
            clear hy hE hk hk0
            go_wp2_with fail
            refine HC.out.mono ?_
            rintro e w' ⟨rfl, rfl⟩
            go_wp2_with fail
            rw [Exit.noGoto_ret]
            go_ret
            exact ⟨by rw [HE.out]; rfl, HF3.out.bel⟩
          · have t2 : ((i : Int) == (s : Int) - 1) = false := by simp; omega
            have ws : wrap64 ((s : Int) - 1) = (s : Int) - 1 := wrap64_id (by omega) (by omega)
            have w9 : wrap64 ((i : Int) + 1) = ((i + 1 : Nat) : Int) := wrap64_id (by omega) (by omega)
            rw [if_neg hk0] at hE
            have HE := Aside0.mk (show i + 1 ≤ s ∧ strongL M (s - (i + 1)) (rawW M y 2) = strongF M b from ⟨hi, by rw [hE, show s - (i + 1) = k by omega]⟩)
            have HM := Aside0.mk (msr1' i s hi)
            have q0 := HF3.out.cell 0 rfl 0 rfl
            have q1 := HF3.out.cell 0 rfl 1 rfl
            have q2 := HF3.out.cell 0 rfl 2 rfl
            clear hy hE hk hk0
            go_wp2_with fail
            refine HC.out.mono ?_
            rintro e w' ⟨rfl, rfl⟩
            have hb4 := below_alloc (Below.refl _ w') (.cells #[.int .u64 2] 23)
            have HF4 := Aside0.mk (HF3.out.mv hb4)
            have HN4 := Aside0.mk (And.intro (HNy.out.below hb4) (show Num (w'.alloc (.cells #[.int .u64 2] 23)) (some ⟨w'.heap.size, 0, none⟩) 1 [2] from num_of_blk (l := [2]) (heap_alloc_new _ _) (W64_one (by omega)) (by simp) (by simp)))
            clear hb4
            go_wp2_with fail
            refine (HRaw.out _ _ _ _ _ _ _ (Kp.of_below HF4.out.bel) HN4.out.1 HN4.out.2).mono ?_
            rintro e w5 ⟨v5, rfl, hr5⟩
            obtain ⟨A5, c5, rfl, hn5⟩ := hr5.num
            have HF5 := Aside0.mk (HF4.out.mv hr5.bel)
            have HN5 := Aside0.mk hn5
            clear hr5 hn5
            go_wp2_with fail
            go_roundw
            case rel => exact ⟨i + 1, rawW M y 2, A5, c5, rfl, by first | rfl | exact congrArg (Value.int .i64) w9, HE, HN5, HF5⟩
            case measure => first | exact HM.out | (rw [w9]; exact HM.out)
      · obtain rfl : i = s := by have := HI.out.1; omega
        have t1 : decide ((i : Int) < (i : Int)) = false := by simp
        have HR := Aside0.mk (show strongF M b = false by rw [← HI.out.2, Nat.sub_self]; rfl)
        go_wp2_with fail
        rw [Exit.noGoto_ret]
        go_ret
        exact ⟨by rw [HR.out]; rfl, HF3.out.bel⟩
end Go.Proofs.YtjpibgehhgaopaaGreat.Top
/- A call's own blocks beside a script that turns; miller's rounds, plain. -/
namespace Go.Proofs.YtjpibgehhgaopaaGreat.Top
open Go.RowKit Go.Proofs.YtjpibgehhgaopaaGreatW.PrintWords Go.Proofs.YtjpibgehhgaopaaGreatW.PrintLast Go.Proofs.YtjpibgehhgaopaaGreat.PTopGenerated
set_option linter.unusedVariables false
set_option linter.unusedSimpArgs false

/-- What a call has laid, block by block; what lay ahead of it stays, but the block sb. -/
structure Fs (sb : Nat) (w W : World) (L : List (Nat × Obj)) : Prop where
  bel : But sb w W
  lt : sb < w.heap.size
  ge : ∀ p ∈ L, w.heap.size ≤ p.1
  has : ∀ p ∈ L, W.heap[p.1]? = some p.2
  ne : L.Pairwise (fun p q => p.1 ≠ q.1)
section
variable {sb : Nat} {w W W' : World} {L : List (Nat × Obj)}
theorem Fs.nil (w : World) (h : sb < w.heap.size) : Fs sb w w [] := ⟨But.of_below (Below.refl _ _), h, fun _ h => by simp at h, fun _ h => by simp at h, List.Pairwise.nil⟩
theorem Fs.at (h : Fs sb w W L) (i : Nat) {k : Nat} {o : Obj} (hi : L[i]? = some (k, o)) : W.heap[k]? = some o := h.has _ (List.mem_of_getElem? hi)
theorem Fs.cell (h : Fs sb w W L) (i : Nat) {k : Nat} {cs : Array Value} {t : TypeId} (hi : L[i]? = some (k, .cells cs t (0, 0))) (j : Nat) {v : Value} (hv : cs[j]? = some v) : W.cell? ⟨k, j, none⟩ = some v := (blk_cell (h.at i hi) j).trans hv
theorem Fs.frozen (h : Fs sb w W L) (i : Nat) {k : Nat} {cs : Array Value} {t : TypeId} (hi : L[i]? = some (k, .cells cs t (0, 0))) (j : Nat) : W.frozen? ⟨k, j, none⟩ = false := frozen_of_row W k j _ _ (h.at i hi)
theorem Fs.ltk (h : Fs sb w W L) (i : Nat) {k : Nat} {o : Obj} (hi : L[i]? = some (k, o)) : w.heap.size ≤ k ∧ k < W.heap.size := ⟨h.ge _ (List.mem_of_getElem? hi), blk_lt (h.at i hi)⟩
theorem Fs.mv (h : Fs sb w W L) (hb : Below W.heap.size W W') : Fs sb w W' L :=
  ⟨h.bel.trans (But.of_below hb), h.lt, h.ge, fun p hp => (hb.block _ (blk_lt (h.has p hp))).trans (h.has p hp), h.ne⟩
theorem Fs.drewN (h : Fs sb w W L) (k : Nat) : Fs sb w (W.drewN k) L := h.mv (pw_below_drewN (Below.refl _ _) k)
theorem Fs.alloc (h : Fs sb w W L) (o : Obj) : Fs sb w (W.alloc o) (L ++ [(W.heap.size, o)]) := by
  have hm := h.mv (below_alloc (Below.refl _ W) o)
  refine ⟨hm.bel, h.lt, fun p hp => ?_, fun p hp => ?_, ?_⟩
  · rcases List.mem_append.1 hp with hp | hp
    · exact h.ge p hp
    · rw [List.mem_singleton] at hp; subst hp; exact h.bel.size
  · rcases List.mem_append.1 hp with hp | hp
    · exact hm.has p hp
    · rw [List.mem_singleton] at hp; subst hp; exact heap_alloc_new _ _
  · rw [List.pairwise_append]
    refine ⟨h.ne, List.pairwise_singleton _ _, fun p hp q hq => ?_⟩
    rw [List.mem_singleton] at hq
    subst hq
    have := blk_lt (h.has p hp)
    show p.1 ≠ W.heap.size
    omega
/-- The script turns. -/
theorem Fs.script (h : Fs sb w W L) (hb : But sb W W') : Fs sb w W' L :=
  ⟨h.bel.trans hb, h.lt, h.ge, fun p hp => (hb.block _ (blk_lt (h.has p hp)) (by have := h.ge p hp; have := h.lt; omega)).trans (h.has p hp), h.ne⟩
/-- One block turns. -/
theorem Fs.turn (h : Fs sb w W L) (i : Nat) {k : Nat} {o : Obj} (hi : L[i]? = some (k, o)) (o' : Obj) (hg : W.grownBy W' (some k)) (hk : W'.heap[k]? = some o') : Fs sb w W' (L.set i (k, o')) := by
  have hil : i < L.length := (List.getElem?_eq_some_iff.1 hi).1
  have hge := (h.ltk i hi).1
  refine ⟨⟨hg.os.trans h.bel.os, hg.tape.trans h.bel.tape, hg.output.trans h.bel.output, Nat.le_trans h.bel.size hg.size, fun j hj hq => (hg.block j (by have := h.bel.size; omega) (by intro e; injection e with e; omega)).trans (h.bel.block j hj hq)⟩, h.lt, fun p hp => ?_, fun p hp => ?_, ?_⟩
  · rcases List.mem_or_eq_of_mem_set hp with hp | rfl
    · exact h.ge p hp
    · exact hge
  · obtain ⟨j, hj⟩ := List.mem_iff_getElem?.1 hp
    rw [List.getElem?_set] at hj
    split at hj
    · injection hj with hj
      subst hj
      exact hk
    · rename_i hne
      have hpk : p.1 ≠ k := by
        intro e
        obtain ⟨hjl, hje⟩ := List.getElem?_eq_some_iff.1 hj
        obtain ⟨_, hie⟩ := List.getElem?_eq_some_iff.1 hi
        have hpw := List.pairwise_iff_getElem.1 h.ne
        rcases Nat.lt_or_gt_of_ne hne with hlt | hlt
        · have := hpw i j hil hjl hlt
          rw [hie, hje] at this
          exact this e.symm
        · have := hpw j i hjl hil hlt
          rw [hie, hje] at this
          exact this e
      have hm := h.has p (List.mem_of_getElem? hj)
      exact (hg.block p.1 (blk_lt hm) (by intro e'; injection e' with e'; exact hpk e')).trans hm
  · have hkeys : (L.set i (k, o')).map Prod.fst = L.map Prod.fst := by
      rw [List.map_set]
      apply List.ext_getElem?
      intro j
      rw [List.getElem?_set]
      split
      · rename_i e
        subst e
        rw [List.length_map, if_pos hil, List.getElem?_map, hi]
        rfl
      · rfl
    have := h.ne
    rw [← List.pairwise_map (f := Prod.fst) (R := fun a b => a ≠ b)] at this ⊢
    rw [hkeys]
    exact this
theorem Fs.set_ (h : Fs sb w W L) (i : Nat) {k : Nat} {cs : Array Value} {t : TypeId} (hi : L[i]? = some (k, .cells cs t (0, 0))) (j : Nat) (u : Value) : Fs sb w (W.setCell ⟨k, j, none⟩ u) (L.set i (k, .cells (cs.setIfInBounds j u) t (0, 0))) :=
  h.turn i hi _ ⟨rfl, rfl, rfl, by simp, fun q _ hq => Below.heap_setCell _ _ _ q (fun e => hq (by rw [e]))⟩ (heap_setCell_same _ _ _ _ _ _ (h.at i hi))
theorem Fs.put (h : Fs sb w W L) (i : Nat) {k : Nat} {o : Obj} (hi : L[i]? = some (k, o)) (o' : Obj) : Fs sb w (W.putObj k o') (L.set i (k, o')) :=
  h.turn i hi _ (grownBy_putObj' W k o') (World.putObj_heap_same (h.ltk i hi).2)
theorem Fs.sub {L' : List (Nat × Obj)} (h : Fs sb w W L) (hs : L'.Sublist L) : Fs sb w W L' :=
  ⟨h.bel, h.lt, fun p hp => h.ge p (hs.mem hp), fun p hp => h.has p (hs.mem hp), h.ne.sublist hs⟩
theorem Kb.set_ {k : Nat} {cs : Array Value} {t : TypeId} (hk : W.heap[k]? = some (.cells cs t (0, 0))) (ht : t ≠ 5 ∧ t ≠ 84) (j : Nat) (u : Value) : Kb W (W.setCell ⟨k, j, none⟩ u) :=
  ⟨by simp, fun q cur t' ht' hq => by
    rw [Below.heap_setCell]
    · exact hq
    · rintro rfl
      rw [hk] at hq
      injection hq with hq
      injection hq with _ hq
      rcases ht' with rfl | rfl
      · exact absurd hq ht.1
      · exact absurd hq ht.2⟩
theorem Kb.put {k : Nat} {o : Obj} (hk : W.heap[k]? = some o) (ho : o.isCells = false) (o' : Obj) : Kb W (W.putObj k o') :=
  ⟨(grownBy_putObj' W k o').size, fun q cur t' _ hq => ((grownBy_putObj' W k o').block q (blk_lt hq) (by
    intro e
    injection e with e
    subst e
    rw [hk] at hq
    injection hq with hq
    subst hq
    cases ho)).trans hq⟩
end
theorem SW.lt {w : World} {sb : Nat} {ws : List Nat} (h : SW w sb ws) : sb < w.heap.size := by
  obtain ⟨bs, i, h1, _⟩ := h
  obtain ⟨A, c, h2, _⟩ := h1.has
  exact blk_lt h2
/-! ### Rounds, on words -/
def roundsW (M : Nat) : Nat → List Nat → Option (Bool × List Nat)
  | 0, ws => some (true, ws)
  | _ + 1, [] => none
  | n + 1, x :: r => if (0 < x ∧ x < M) ∧ (2 ≤ x ∧ x ≠ M - 1) then (if strongF M x then roundsW M n r else some (false, r)) else roundsW M (n + 1) r
theorem roundsW_none {M : Nat} (n : Nat) : ∀ ws, belowW M ws = none → roundsW M (n + 1) ws = none
  | [], _ => by rw [roundsW]
  | x :: r, h => by
    rw [belowW] at h
    split at h
    · cases h
    · rename_i hx
      rw [roundsW, if_neg (fun hh => hx hh.1)]
      exact roundsW_none n r h
theorem roundsW_some {M : Nat} (n : Nat) : ∀ ws x r, belowW M ws = some (x, r) → roundsW M (n + 1) ws = if 2 ≤ x ∧ x ≠ M - 1 then (if strongF M x then roundsW M n r else some (false, r)) else roundsW M (n + 1) r
  | [], x, r, h => by cases h
  | y :: s, x, r, h => by
    rw [belowW] at h
    split at h
    · rename_i hy
      injection h with h
      injection h with h1 h2
      subst h1
      subst h2
      rw [roundsW]
      by_cases hh : 2 ≤ y ∧ y ≠ M - 1
      · rw [if_pos ⟨hy, hh⟩, if_pos hh]
      · rw [if_neg (fun h => hh h.2), if_neg hh]
    · rename_i hy
      rw [roundsW, if_neg (fun h => hy h.1)]
      exact roundsW_some n s x r h
theorem belowW_len {M : Nat} : ∀ ws x r, belowW M ws = some (x, r) → r.length < ws.length ∧ x < M ∧ 0 < x
  | [], x, r, h => by cases h
  | y :: s, x, r, h => by
    rw [belowW] at h
    split at h
    · rename_i hy
      injection h with h
      injection h with h1 h2
      subst h1
      subst h2
      exact ⟨by simp, hy.2, hy.1⟩
    · have := belowW_len s x r h
      exact ⟨by simp; omega, this.2⟩
end Go.Proofs.YtjpibgehhgaopaaGreat.Top
