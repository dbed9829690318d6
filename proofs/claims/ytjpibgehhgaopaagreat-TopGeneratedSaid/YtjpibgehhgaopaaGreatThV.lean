/- miller's Rounds: what it hands to its guard. -/
import Derived.Test.YtjpibgehhgaopaaGreatZ24
namespace Go.Proofs.YtjpibgehhgaopaaGreat.Top
open Go.RowKit Go.Proofs.YtjpibgehhgaopaaGreatW.PrintWords Go.Proofs.YtjpibgehhgaopaaGreatW.PrintLast Go.Proofs.YtjpibgehhgaopaaGreat.PTopGenerated
set_option linter.unusedVariables false
set_option linter.unusedSimpArgs false

theorem TesC.kp {W W' : World} {cs : Array Value} {M : Nat} (h : TesC W cs M) (hk : Kp W W') : TesC W' cs M := by
  obtain ⟨A1, c1, A2, c2, A3, c3, A4, c4, e, h1, h2, h3, h4⟩ := h.has
  exact ⟨A1, c1, A2, c2, A3, c3, A4, c4, e, h1.kp hk, h2.kp hk, h3.kp hk, h4.kp hk⟩
theorem TesC.less {W : World} {a b d e f : Value} {A3 : Option Addr} {c3 M : Nat} (h : TesC W #[a, b, d, .slice A3 1 c3, e, f] M) : Num W A3 c3 [M - 1] := by
  obtain ⟨A1, c1, A2, c2, A3', c3', A4, c4, e', h1, h2, h3, h4⟩ := h.has
  simp at e'
  obtain ⟨_, _, _, ⟨rfl, rfl⟩, _⟩ := e'
  exact h3
theorem info26' : (Tryz.prog.info? 26).map (fun i => (i.zero, i.size, i.bytes)) = some (some (.slice none 0 0), 1, 24) := by kernel_rfl
/-- A number as a value. -/
def encN (p : Option Addr × Nat × Nat) : Value := .slice p.1 p.2.1 p.2.2
/-- A row of numbers, of which the length alone is told. -/
structure Bas (base : Nat) (W : World) (v : Value) (n : Nat) : Prop where
  has : ∃ xs : List (Option Addr × Nat × Nat), xs.length = n ∧ W.ownsRow base 26 1 v n (encs encN xs)
theorem Bas.keep {base n : Nat} {W W' : World} {v : Value} (h : Bas base W v n) (hb : ∀ g cur, base ≤ g → W.heap[g]? = some (.cells cur 26 (0, 0)) → W'.heap[g]? = W.heap[g]?) : Bas base W' v n := by
  obtain ⟨xs, hl, ho⟩ := h.has
  refine ⟨xs, hl, own_move ho fun k hk => ?_⟩
  obtain ⟨cur, hc⟩ := own_typed ho k hk
  exact hb k cur (own_base ho k hk) hc
theorem Fs.kp_set {sb : Nat} {w W : World} {L : List (Nat × Obj)} (h : Fs sb w W L) (i : Nat) {k : Nat} {cs : Array Value} {t : TypeId} (hi : L[i]? = some (k, .cells cs t (0, 0))) (ht : t ≠ 23) (j : Nat) (u : Value) : Kp W (W.setCell ⟨k, j, none⟩ u) := Kp.set_ (h.at i hi) ht j u
theorem Bas.below {base n : Nat} {W W' : World} {v : Value} (h : Bas base W v n) (hb : Below W.heap.size W W') : Bas base W' v n := h.keep fun g cur _ hg => hb.block g (blk_lt hg)
theorem Bas.script {base n sb : Nat} {W W' : World} {v : Value} (h : Bas base W v n) (hs : sb < base) (hb : But sb W W') : Bas base W' v n := h.keep fun g cur hge hg => hb.block g (blk_lt hg) (by omega)
theorem Bas.set_ {base n k j : Nat} {W : World} {v u : Value} (h : Bas base W v n) (hs : k < base) : Bas base (W.setCell ⟨k, j, none⟩ u) v n := h.keep fun g cur hge hg => Below.heap_setCell _ _ _ _ (by show g ≠ k; omega)
theorem Fs.row {sb : Nat} {w W : World} {L : List (Nat × Obj)} (h : Fs sb w W L) (i : Nat) {k : Nat} {cs : Array Value} {t : TypeId} (hi : L[i]? = some (k, .cells cs t (0, 0))) (cs' : Array Value) : Fs sb w (W.setRow k cs') (L.set i (k, .cells cs' t (0, 0))) :=
  h.turn i hi _ But.row.grown (setRow_heap _ _ _ _ _ _ (h.at i hi))
theorem Kb.row {W : World} {k : Nat} {cs : Array Value} {t : TypeId} (hk : W.heap[k]? = some (.cells cs t (0, 0))) (ht : t ≠ 5 ∧ t ≠ 84) (cs' : Array Value) : Kb W (W.setRow k cs') :=
  ⟨But.row.size, fun q cur t' ht' hq => (But.row.block q (blk_lt hq) (by
    rintro rfl
    rw [hk] at hq
    injection hq with hq
    injection hq with _ hq
    rcases ht' with rfl | rfl
    · exact absurd hq ht.1
    · exact absurd hq ht.2)).trans hq⟩
theorem Fs.grown {sb : Nat} {w W W' : World} {L : List (Nat × Obj)} {o : Option Nat} (h : Fs sb w W L) (hg : W.grownBy W' o) (ho : ∀ k, o = some k → w.heap.size ≤ k ∧ ∀ p ∈ L, p.1 ≠ k) : Fs sb w W' L := by
  refine ⟨⟨hg.os.trans h.bel.os, hg.tape.trans h.bel.tape, hg.output.trans h.bel.output, Nat.le_trans h.bel.size hg.size, fun k hk hq => (hg.block k (by have := h.bel.size; omega) (fun e => by have := (ho k e.symm).1; omega)).trans (h.bel.block k hk hq)⟩, h.lt, h.ge, fun p hp => ?_, h.ne⟩
  have hm := h.has p hp
  exact (hg.block p.1 (blk_lt hm) (fun e => (ho p.1 e.symm).2 p hp rfl)).trans hm
theorem bl_two {x : Nat} (h : 2 ≤ x) : 2 ≤ bl x := by
  by_cases h2 : 2 ≤ bl x
  · exact h2
  · exfalso
    have h1 := (bl_spec (N := x) (by omega)).2.1
    have : 2 ^ bl x ≤ 2 ^ 1 := Nat.pow_le_pow_right (by omega) (by omega)
    omega
theorem bl_lt_two {x : Nat} (h : x < 2) : bl x < 2 := by
  have : x = 0 ∨ x = 1 := by omega
  rcases this with rfl | rfl <;> decide
theorem Kb.grown {W W' : World} {o : Option Nat} (hg : W.grownBy W' o) (ho : ∀ k, o = some k → ∃ cur, W.heap[k]? = some (.cells cur 26 (0, 0))) : Kb W W' :=
  ⟨hg.size, fun q cur t' ht' hq => (hg.block q (blk_lt hq) (fun e => by
    obtain ⟨cur', h⟩ := ho q e.symm
    rw [h] at hq
    injection hq with hq
    injection hq with _ hq
    rcases ht' with rfl | rfl <;> exact absurd hq (by decide))).trans hq⟩
theorem Kp.grown {W W' : World} {o : Option Nat} (hg : W.grownBy W' o) (ho : ∀ k, o = some k → ∃ cur, W.heap[k]? = some (.cells cur 26 (0, 0))) : Kp W W' :=
  ⟨hg.size, fun q cur hq => (hg.block q (blk_lt hq) (fun e => by
    obtain ⟨cur', h⟩ := ho q e.symm
    rw [h] at hq
    injection hq with hq
    injection hq with _ hq
    exact absurd hq (by decide))).trans hq⟩
theorem grown26 {sb B0 : Nat} {w W W' : World} {L : List (Nat × Obj)} {o : Option Nat} (hF : Fs sb w W L) (hg : W.grownBy W' o) (hty : ∀ k, o = some k → B0 ≤ k ∧ ∃ cur, W.heap[k]? = some (.cells cur 26 (0, 0))) (hw : w.heap.size ≤ B0) (hL : ∀ p ∈ L, p.1 < B0 ∨ ∃ cs t, p.2 = .cells cs t (0, 0) ∧ t ≠ 26) : Fs sb w W' L ∧ Kp W W' ∧ Kb W W' := by
  refine ⟨hF.grown hg fun k hk => ⟨Nat.le_trans hw (hty k hk).1, fun p hp e => ?_⟩, Kp.grown hg fun k hk => (hty k hk).2, Kb.grown hg fun k hk => (hty k hk).2⟩
  obtain ⟨h0, cur, hc⟩ := hty k hk
  rcases hL p hp with h | ⟨cs, t, h, ht⟩
  · omega
  · have h1 := hF.has p hp
    rw [e, hc, h] at h1
    injection h1 with h1
    injection h1 with _ h1
    exact ht h1.symm
/-- What the guarded function of Rounds comes to. -/
def RoundsC (w : World) (sb bs bn bk bi bb br M k : Nat) (A : Option Addr) (c : Nat) (ws : List Nat) (e : Ending) (w' : World) : Prop :=
  (∃ is r Av mv cv, roundsW M k ws = some (is, r) ∧ e = .returned (.tuple #[]) ∧ SW w' sb r ∧ Fs sb w w' [(bs, .cells #[.pointer (some ⟨sb, 0, none⟩)] 48), (bn, .cells #[.slice A 1 c] 26), (bk, .cells #[.int .i64 (k : Int)] 3), (bi, .cells #[.bool is] 4), (bb, .cells #[.slice Av mv cv] 45), (br, .cells #[.int .i64 0] 29)]) ∨
  (roundsW M k ws = none ∧ e = .panicked [{ v := .iface 99 (.agg #[.int .i64 150]), recovered := false }] ∧ SW w' sb [] ∧ ∃ v, Fs sb w w' [(bs, .cells #[.pointer (some ⟨sb, 0, none⟩)] 48), (bn, .cells #[.slice A 1 c] 26), (bk, .cells #[.int .i64 (k : Int)] 3), (bi, .cells #[.bool false] 4), (bb, .cells #[v] 45), (br, .cells #[.int .i64 0] 29)])
set_option maxHeartbeats 2000000 in
set_option maxRecDepth 100000 in
theorem roundsC (w W : World) (sb bs bn bk bi bb br M k : Nat) (A : Option Addr) (c : Nat) (ws : List Nat) (hF : Fs sb w W [(bs, .cells #[.pointer (some ⟨sb, 0, none⟩)] 48), (bn, .cells #[.slice A 1 c] 26), (bk, .cells #[.int .i64 (k : Int)] 3), (bi, .cells #[.bool false] 4), (bb, .cells #[.slice none 0 0] 45), (br, .cells #[.int .i64 0] 29)])
    (hs : SW W sb ws) (hn : Num W A c [M]) (ho : M % 2 = 1) (h3 : 3 < M) (h64 : bl M = 64) (hk1 : k ≤ 100) (hodd : (oddP (M - 1) 0).2 ≤ 1000) :
    Calls Tryz.prog 24 #[.pointer (some ⟨bn, 0, none⟩), .pointer (some ⟨bk, 0, none⟩), .pointer (some ⟨bb, 0, none⟩), .pointer (some ⟨bs, 0, none⟩), .pointer (some ⟨bi, 0, none⟩)] W (RoundsC w sb bs bn bk bi bb br M k A c ws) := by
  obtain ⟨B0, hB0⟩ : ∃ B0, B0 = W.heap.size := ⟨_, rfl⟩
  have HLT := Aside0.mk (show bs < B0 ∧ bn < B0 ∧ bk < B0 ∧ bi < B0 ∧ bb < B0 ∧ br < B0 ∧ sb < B0 ∧ w.heap.size ≤ B0 by
    rw [hB0]
    exact ⟨(hF.ltk 0 rfl).2, (hF.ltk 1 rfl).2, (hF.ltk 2 rfl).2, (hF.ltk 3 rfl).2, (hF.ltk 4 rfl).2, (hF.ltk 5 rfl).2, hs.lt, hF.bel.size⟩)
  have HOf := Aside0.mk (ofI A c M W hn ho h3)
  have HF := Aside0.mk hF
  have HN := Aside0.mk (And.intro hs hn)
  have HM := Aside0.mk (And.intro ho (And.intro h3 (And.intro h64 hodd)))
  have q1 := hF.cell 1 rfl 0 rfl
  have t1 : decide ((k : Int) ≥ 0) = true := by rw [decide_eq_true_eq]; omega
  have t2 : decide ((k : Int) ≤ 100) = true := by rw [decide_eq_true_eq]; omega
  clear hF hs hn ho h3 h64 hodd
  go_enter Tryz.func24, Tryz.ntmps24
  go_wp2_with fail
  refine HOf.out.mono ?_
  rintro e w1 ⟨cs, rfl, ht, hb⟩
  obtain ⟨A1, c1, A2, c2, A3, c3, A4, c4, ecs, _⟩ := ht.has
  have HF1 := Aside0.mk ((HF.out.mv hb).alloc (.cells #[.slice none 0 0, .int .u64 0, .slice none 0 0, .slice none 0 0, .slice none 0 0, .int .i64 0] 75))
  simp only [List.nil_append, List.cons_append] at HF1
  have hb1 := (hb.alloc hb.size (.cells #[.slice none 0 0, .int .u64 0, .slice none 0 0, .slice none 0 0, .slice none 0 0, .int .i64 0] 75))
  have hb2 := below_alloc (Below.refl _ w1) (.cells #[.slice none 0 0, .int .u64 0, .slice none 0 0, .slice none 0 0, .slice none 0 0, .int .i64 0] 75)
  have hold := HF1.out.at 6 rfl
  have HT1 := Aside0.mk ((ht.kp (Kp.of_below hb2)).kp (Kp.row hold (by decide) cs))
  have HN1 := Aside0.mk (And.intro ((HN.out.1.below hb1).kb (Kb.row hold (by decide) cs)) ((HN.out.2.below hb1).kp (Kp.row hold (by decide) cs)))
  have HF2 := Aside0.mk (HF1.out.row 6 rfl cs)
  have HB2 := Aside0.mk (show Bas B0 ((w1.alloc (.cells #[.slice none 0 0, .int .u64 0, .slice none 0 0, .slice none 0 0, .slice none 0 0, .int .i64 0] 75)).setRow w1.heap.size cs) (.slice none 0 0) 0 from ⟨[], rfl, own_nil _ _ _ _⟩)
  have HSZ := Aside0.mk (show B0 ≤ w1.heap.size by rw [hB0]; exact hb.size)
  subst ecs
  have q2 := HF2.out.cell 2 rfl 0 rfl
  clear hb ht hb1 hb2 HOf q1 hB0
  go_wp2_with (refine wpList_store_row rfl 75 (.tmp 5) (.tmp 10) rfl w1.heap.size _ rfl rfl 75 _ hold size75 rfl (six_one _ _ _ _ _ _ rfl rfl rfl rfl) ?_)
  refine (mustI _ _).mono ?_
  rintro e w' ⟨rfl, rfl⟩
  go_wp2_with fail
  clear q2 t1 t2 hold
  obtain ⟨W2, hW2⟩ : ∃ W2, W2 = (w1.alloc (.cells #[.slice none 0 0, .int .u64 0, .slice none 0 0, .slice none 0 0, .slice none 0 0, .int .i64 0] 75)).setRow w1.heap.size #[.slice A1 1 c1, .int .u64 (KI M), .slice A2 1 c2, .slice A3 1 c3, .slice A4 1 c4, .int .i64 ((oddP (M - 1) 0).2 : Int)] := ⟨_, rfl⟩
  obtain ⟨bt, hbt⟩ : ∃ bt, bt = w1.heap.size := ⟨_, rfl⟩
  rw [← hW2, ← hbt] at HF2
  rw [← hW2] at HT1 HN1 HB2
  rw [← hbt] at HSZ
  rw [← hW2, ← hbt]
  generalize KI M = kk at *
  generalize ((oddP (M - 1) 0).2 : Int) = ss at *
  clear hbt hW2 HF1 HN HF
  go_loopg [] ws.length (fun n wr => ∃ (m : Nat) (ws' : List Nat) (v : Value), Aside0 (n = ws'.length ∧ m ≤ k ∧ roundsW M (k - m) ws' = roundsW M k ws) ∧ Aside0 (SW wr sb ws' ∧ Num wr A c [M] ∧ TesC wr #[.slice A1 1 c1, .int .u64 kk, .slice A2 1 c2, .slice A3 1 c3, .slice A4 1 c4, .int .i64 ss] M) ∧ Aside0 (Bas B0 wr v m) ∧ Aside0 (Fs sb w wr [(bs, .cells #[.pointer (some ⟨sb, 0, none⟩)] 48), (bn, .cells #[.slice A 1 c] 26), (bk, .cells #[.int .i64 (k : Int)] 3), (bi, .cells #[.bool false] 4), (bb, .cells #[v] 45), (br, .cells #[.int .i64 0] 29), (bt, .cells #[.slice A1 1 c1, .int .u64 kk, .slice A2 1 c2, .slice A3 1 c3, .slice A4 1 c4, .int .i64 ss] 75)]))
  case atStart => exact ⟨0, ws, _, ⟨rfl, Nat.zero_le _, by rw [Nat.sub_zero]⟩, ⟨HN1.out.1, HN1.out.2, HT1.out⟩, HB2, HF2⟩
  case round =>
    clear HF2 HT1 HN1 HB2
    obtain ⟨m, ws', v, HK, HN, HB, HF⟩ := hrel
    obtain ⟨xs, hxl, hxo⟩ := HB.out.has
    obtain ⟨A', c', rfl⟩ := own_slice hxo
    have HX := Aside0.mk (And.intro hxl hxo)
    clear hxl hxo
    have q2 := HF.out.cell 2 rfl 0 rfl
    have q4 := HF.out.cell 4 rfl 0 rfl
    by_cases hm : m < k
    · obtain ⟨j, hj⟩ : ∃ j, k - m = j + 1 := ⟨k - m - 1, by omega⟩
      have hE := HK.out.2.2
      rw [hj] at hE
      have HJ := Aside0.mk hj
      have u1 : decide ((m : Int) < (k : Int)) = true := by rw [decide_eq_true_eq]; omega
      have q0 := HF.out.cell 0 rfl 0 rfl
      have q1 := HF.out.cell 1 rfl 0 rfl
      have HBel := Aside0.mk (belowS sb M ws' A c wr HN.out.1 HN.out.2.1 HM.out.2.2.1)
      have HE := Aside0.mk hE
      clear hE hj
      go_wp2_with fail
      refine HBel.out.mono ?_
      rintro e w2 hbp
      rcases hbp with ⟨x, r, v2, k2, hbw, rfl, hown, hsw, hbut⟩ | ⟨hbw, rfl, hsw, hbut⟩
      · have hlen := belowW_len _ _ _ hbw
        obtain ⟨g2, cap2, rfl, _⟩ := hown.form (by simp)
        have hn2 := (own_num (r := [x]) hown (W64_one (by have := HN.out.2.1.w64 M (by simp); omega))).2
        have HF2 := Aside0.mk (HF.out.script hbut)
        have HN2 := Aside0.mk (And.intro hsw (And.intro (HN.out.2.1.kp (HN.out.1.kp hbut)) (And.intro (HN.out.2.2.kp (HN.out.1.kp hbut)) hn2)))
        have hxo2 := own_move HX.out.2 (w1 := w2) fun kq hkq => hbut.block kq (own_lt HX.out.2 kq hkq) (by have := own_base HX.out.2 kq hkq; have := HLT.out.2.2.2.2.2.2.1; omega)
        have HX2 := Aside0.mk (And.intro HX.out.1 hxo2)
        have hrs := roundsW_some j _ _ _ hbw
        rw [HE.out] at hrs
        have HR := Aside0.mk (And.intro hrs hlen)
        have HBx := Aside0.mk (bitsN (some ⟨g2, 0, none⟩) cap2 [x] w2 hn2 (by simp))
        rw [val_one] at HBx
        have hbsz := hbut.size
        have hb0w : B0 ≤ wr.heap.size := by
          have := (HF.out.ltk 6 rfl).2
          have := HSZ.out
          omega
        have HSZ2 := Aside0.mk (show B0 ≤ w2.heap.size by omega)
        clear hbw hown hsw hbut hlen hn2 hxo2 hrs HBel HE HF HN HB HX q0 q1 q2 q4 hbsz hb0w
        have q3 := HF2.out.cell 6 rfl 1 rfl
        have q4 := HF2.out.cell 4 rfl 0 rfl
        by_cases hx2 : 2 ≤ x
        · have tb : decide ((bl x : Int) < 2) = false := by
            have := bl_two hx2
            rw [decide_eq_false_iff_not]; omega
          have HCx := Aside0.mk (compareN (some ⟨g2, 0, none⟩) A3 cap2 c3 [x] [M - 1] w2 HN2.out.2.2.2 HN2.out.2.2.1.less (by simp) (by simp))
          simp only [val_one, List.length_singleton] at HCx
          have hcmp := cmp_eq x (M - 1)
          obtain ⟨cx, hcx⟩ : ∃ cx, cx = cmpI x (M - 1) := ⟨_, rfl⟩
          rw [← hcx] at HCx hcmp
          clear hcx
          have q3 := HF2.out.cell 6 rfl 3 rfl
          by_cases hx1 : x = M - 1
          · rw [decide_eq_true hx1] at hcmp
            have HE2 := Aside0.mk (show roundsW M (k - m) r = roundsW M k ws by rw [HJ.out, HR.out.1, if_neg (fun h => h.2 hx1)])
            generalize bl x = bx at *
            clear hx2 hx1
            go_wp2_with fail
            refine (mustI _ _).mono ?_
            rintro e w' ⟨rfl, rfl⟩
            go_wp2_with fail
            refine HBx.out.mono ?_
            rintro e w' ⟨rfl, rfl⟩
            go_wp2_with fail
            refine HCx.out.mono ?_
            rintro e w' ⟨rfl, rfl⟩
            go_wp2_with fail
            go_roundg (r.length)
            case rel => exact ⟨m, r, _, ⟨rfl, HK.out.2.1, HE2.out⟩, ⟨HN2.out.1, HN2.out.2.1, HN2.out.2.2.1⟩, ⟨⟨xs, HX2.out⟩⟩, HF2⟩
            case measure => have := HR.out.2.1; have := HK.out.1; omega
          · rw [decide_eq_false hx1] at hcmp
            have HE2 := Aside0.mk (show (if strongF M x then roundsW M j r else some (false, r)) = roundsW M k ws by rw [HR.out.1]; rw [if_pos (show 2 ≤ x ∧ x ≠ M - 1 from ⟨hx2, hx1⟩)])
            generalize bl x = bx at *
            clear hx2 hx1
            go_wp2_with fail
            refine (mustI _ _).mono ?_
            rintro e w' ⟨rfl, rfl⟩
            go_wp2_with fail
            refine HBx.out.mono ?_
            rintro e w' ⟨rfl, rfl⟩
            go_wp2_with fail
            refine HCx.out.mono ?_
            rintro e w' ⟨rfl, rfl⟩
            have hb3 := below_alloc (Below.refl _ w') (.cells #[.slice (some ⟨g2, 0, none⟩) 1 cap2] 26)
            have HRD := Aside0.mk (show ReadsOf encN (none, 0, 0) (w'.alloc (.cells #[.slice (some ⟨g2, 0, none⟩) 1 cap2] 26)) (some ⟨w'.heap.size, 0, none⟩) 1 [(some ⟨g2, 0, none⟩, 1, cap2)] from ⟨rfl, by omega, fun _ => ⟨_, rfl, fun i hi => by
              obtain rfl : i = 0 := by omega
              exact blk_cell (heap_alloc_new _ _) 0⟩⟩)
            have HF3 := Aside0.mk (HF2.out.mv hb3)
            have HN3 := Aside0.mk (And.intro (HN2.out.1.below hb3) (And.intro (HN2.out.2.1.below hb3) (And.intro (HN2.out.2.2.1.kp (Kp.of_below hb3)) (HN2.out.2.2.2.below hb3))))
            have HX3 := Aside0.mk (show (w'.alloc (.cells #[.slice (some ⟨g2, 0, none⟩) 1 cap2] 26)).ownsRow B0 26 1 (.slice A' m c') xs.length (encs encN xs) by
              rw [HX2.out.1]
              exact own_move HX2.out.2 fun kq hkq => hb3.block kq (own_lt HX2.out.2 kq hkq))
            have HBR := Aside0.mk (Below.refl B0 (w'.alloc (.cells #[.slice (some ⟨g2, 0, none⟩) 1 cap2] 26)))
            have HSZ3 := Aside0.mk (show B0 ≤ (w'.alloc (.cells #[.slice (some ⟨g2, 0, none⟩) 1 cap2] 26)).heap.size from Nat.le_trans HSZ2.out hb3.size)
            have HLN := Aside0.mk (show (xs.length + 1) * 24 ≤ 140737488355328 by have := HX2.out.1; omega)
            have HTY := Aside0.mk (show ∀ kq, (Value.slice A' m c').ownBlock = some kq → B0 ≤ kq ∧ ∃ cur, (w'.alloc (.cells #[.slice (some ⟨g2, 0, none⟩) 1 cap2] 26)).heap[kq]? = some (.cells cur 26 (0, 0)) from fun kq hkq => ⟨own_base HX3.out kq hkq, own_typed HX3.out kq hkq⟩)
            have HL7 := Aside0.mk (show ∀ p ∈ ([(bs, .cells #[.pointer (some ⟨sb, 0, none⟩)] 48), (bn, .cells #[.slice A 1 c] 26), (bk, .cells #[.int .i64 (k : Int)] 3), (bi, .cells #[.bool false] 4), (bb, .cells #[.slice A' m c'] 45), (br, .cells #[.int .i64 0] 29), (bt, .cells #[.slice A1 1 c1, .int .u64 kk, .slice A2 1 c2, .slice A3 1 c3, .slice A4 1 c4, .int .i64 ss] 75)] : List (Nat × Obj)), p.1 < B0 ∨ ∃ cs t, p.2 = Obj.cells cs t (0, 0) ∧ t ≠ 26 by
              have hl := HLT.out
              intro p hp
              simp only [List.mem_cons, List.not_mem_nil, or_false] at hp
              rcases hp with rfl | rfl | rfl | rfl | rfl | rfl | rfl
              · exact .inl hl.1
              · exact .inl hl.2.1
              · exact .inl hl.2.2.1
              · exact .inl hl.2.2.2.1
              · exact .inl hl.2.2.2.2.1
              · exact .inl hl.2.2.2.2.2.1
              · exact .inr ⟨_, _, rfl, by decide⟩)
            have HAFT := Aside0.mk (show ∀ (A6 : Option Addr) (c6 : Nat) (w4 : World), w4.ownsRow B0 26 1 (.slice A6 (m + 1) c6) (m + 1) (encs encN (xs ++ [(some ⟨g2, 0, none⟩, 1, cap2)])) → (w'.alloc (.cells #[.slice (some ⟨g2, 0, none⟩) 1 cap2] 26)).grownBy w4 (Value.slice A' m c').ownBlock →
                w4.cell? ⟨bb, 0, none⟩ = some (.slice A' m c') ∧ w4.frozen? ⟨bb, 0, none⟩ = false ∧ Fs sb w (w4.setCell ⟨bb, 0, none⟩ (.slice A6 (m + 1) c6)) [(bs, .cells #[.pointer (some ⟨sb, 0, none⟩)] 48), (bn, .cells #[.slice A 1 c] 26), (bk, .cells #[.int .i64 (k : Int)] 3), (bi, .cells #[.bool false] 4), (bb, .cells #[.slice A6 (m + 1) c6] 45), (br, .cells #[.int .i64 0] 29), (bt, .cells #[.slice A1 1 c1, .int .u64 kk, .slice A2 1 c2, .slice A3 1 c3, .slice A4 1 c4, .int .i64 ss] 75)] ∧ Bas B0 (w4.setCell ⟨bb, 0, none⟩ (.slice A6 (m + 1) c6)) (.slice A6 (m + 1) c6) (m + 1) ∧
                SW (w4.setCell ⟨bb, 0, none⟩ (.slice A6 (m + 1) c6)) sb r ∧ Num (w4.setCell ⟨bb, 0, none⟩ (.slice A6 (m + 1) c6)) A c [M] ∧ TesC (w4.setCell ⟨bb, 0, none⟩ (.slice A6 (m + 1) c6)) #[.slice A1 1 c1, .int .u64 kk, .slice A2 1 c2, .slice A3 1 c3, .slice A4 1 c4, .int .i64 ss] M ∧ Num (w4.setCell ⟨bb, 0, none⟩ (.slice A6 (m + 1) c6)) (some ⟨g2, 0, none⟩) cap2 [x] from by
              intro A6 c6 w4 ho4 hg4
              obtain ⟨h1, kp4, kb4⟩ := grown26 HF3.out hg4 HTY.out HLT.out.2.2.2.2.2.2.2 HL7.out
              have kp5 := kp4.trans (h1.kp_set 4 rfl (by decide) 0 (.slice A6 (m + 1) c6))
              refine ⟨h1.cell 4 rfl 0 rfl, h1.frozen 4 rfl 0, h1.set_ 4 rfl 0 _, Bas.set_ ⟨⟨_, by simp [HX2.out.1], ho4⟩⟩ HLT.out.2.2.2.2.1, (HN3.out.1.kb kb4).kb (Kb.set_ (h1.at 4 rfl) (by decide) 0 _), HN3.out.2.1.kp kp5, HN3.out.2.2.1.kp kp5, HN3.out.2.2.2.kp kp5⟩)
            have HN1 := Aside0.mk (show (xs ++ [(some (⟨g2, 0, none⟩ : Addr), 1, cap2)]).length = m + 1 by simp [HX2.out.1])
            have HST := Aside0.mk (fun W (h : TesC W #[.slice A1 1 c1, .int .u64 kk, .slice A2 1 c2, .slice A3 1 c3, .slice A4 1 c4, .int .i64 ss] M) (hn : Num W (some ⟨g2, 0, none⟩) cap2 [x]) => strongI #[.slice A1 1 c1, .int .u64 kk, .slice A2 1 c2, .slice A3 1 c3, .slice A4 1 c4, .int .i64 ss] _ cap2 M x W h hn HM.out.2.1 HM.out.1 HM.out.2.2.2)
            obtain ⟨sf, hsf⟩ : ∃ sf, sf = strongF M x := ⟨_, rfl⟩
            rw [← hsf] at HE2 HST
            clear hb3 q3 hsf
            go_wp2_with (first | (at_builtin; refine print_append_row_of (w0 := w'.alloc (.cells #[.slice (some ⟨g2, 0, none⟩) 1 cap2] 26)) encN (none, 0, 0) B0 rfl (.tmp 43) (.tmp 45) 45 26 (.slice none 0 0) 24 rfl Tryz.underlying45 info26' rfl (by decide) (fun _ => rfl) (.slice A' m c') xs [(some ⟨g2, 0, none⟩, 1, cap2)] (some ⟨w'.heap.size, 0, none⟩) 1 1 rfl rfl HX3.out HRD.out HBR.out HSZ3.out HLN.out ?_; intro v4 w4 ho4 hb4 hg4 _; rw [HN1.out] at ho4; obtain ⟨A6, c6, rfl⟩ := own_slice ho4; obtain ⟨q5, f5, hA⟩ := HAFT.out _ _ _ ho4 hg4; have HA := Aside0.mk hA; clear ho4 hg4 hb4 hA) | (refine wpList_load_row rfl 75 (.tmp 5) rfl bt rfl 75 _ (0, 0) _ (HA.out.1.at 6 rfl) Tryz.underlying75 rfl size75 ?_))
            have HSt1 := Aside0.mk (HST.out _ HA.out.2.2.2.2.1 HA.out.2.2.2.2.2)
            refine HSt1.out.mono ?_
            rintro e w5 ⟨rfl, hb5⟩
            have HF5 := Aside0.mk (HA.out.1.mv hb5)
            have HN5 := Aside0.mk (And.intro (HA.out.2.2.1.below hb5) (And.intro (HA.out.2.2.2.1.below hb5) (And.intro (HA.out.2.2.2.2.1.kp (Kp.of_below hb5)) (HA.out.2.1.below hb5))))
            rcases sf with _ | _
            · have HE3 := Aside0.mk (show roundsW M k ws = some (false, r) by rw [← HE2.out]; rfl)
              go_wp2_with fail
              go_end0
              exact .inl ⟨false, r, _, _, _, HE3.out, rfl, HN5.out.1, HF5.out.sub (List.sublist_append_left _ [_])⟩
            · have HE3 := Aside0.mk (show roundsW M (k - (m + 1)) r = roundsW M k ws by rw [← HE2.out, show k - (m + 1) = j by have := HJ.out; omega]; rfl)
              go_wp2_with fail
              go_roundg (r.length)
              case rel => exact ⟨m + 1, r, _, ⟨rfl, by have := HJ.out; omega, HE3.out⟩, ⟨HN5.out.1, HN5.out.2.1, HN5.out.2.2.1⟩, ⟨HN5.out.2.2.2⟩, HF5⟩
              case measure => have := HR.out.2.1; have := HK.out.1; omega
        · have tb : decide ((bl x : Int) < 2) = true := by
            have := bl_lt_two (show x < 2 by omega)
            rw [decide_eq_true_eq]; omega
          have HE2 := Aside0.mk (show roundsW M (k - m) r = roundsW M k ws by rw [HJ.out, HR.out.1, if_neg (fun h => hx2 h.1)])
          generalize bl x = bx at *
          clear hx2
          go_wp2_with fail
          refine (mustI _ _).mono ?_
          rintro e w' ⟨rfl, rfl⟩
          go_wp2_with fail
          refine HBx.out.mono ?_
          rintro e w' ⟨rfl, rfl⟩
          go_wp2_with fail
          go_roundg (r.length)
          case rel => exact ⟨m, r, _, ⟨rfl, HK.out.2.1, HE2.out⟩, ⟨HN2.out.1, HN2.out.2.1, HN2.out.2.2.1⟩, ⟨⟨xs, HX2.out⟩⟩, HF2⟩
          case measure => have := HR.out.2.1; have := HK.out.1; omega
      · have HE2 := Aside0.mk (show roundsW M k ws = none by rw [← HE.out]; exact roundsW_none j _ hbw)
        have HF2 := Aside0.mk (HF.out.script hbut)
        have HS2 := Aside0.mk hsw
        clear hbw hsw hbut HBel HE HF HN HB HX q0 q1 q2 q4
        go_wp2_with fail
        refine (mustIbad 150 _).mono ?_
        rintro e w' ⟨rfl, rfl⟩
        go_wp2_with fail
        exact ⟨rfl, .inr ⟨HE2.out, rfl, HS2.out, _, HF2.out.sub (List.sublist_append_left _ [_])⟩⟩
    · obtain rfl : m = k := by have := HK.out.2.1; omega
      have u1 : decide ((m : Int) < (m : Int)) = false := by simp
      have HE := Aside0.mk (show roundsW M m ws = some (true, ws') by rw [← HK.out.2.2, Nat.sub_self, roundsW])
      have q3 := HF.out.cell 3 rfl 0 rfl
      have f3 := HF.out.frozen 3 rfl 0
      have HF3 := Aside0.mk (HF.out.set_ 3 rfl 0 (.bool true))
      have HS3 := Aside0.mk (HN.out.1.kb (Kb.set_ (HF.out.at 3 rfl) (by decide) 0 (.bool true)))
      go_wp2_with fail
      go_end0
      exact .inl ⟨true, ws', _, _, _, HE.out, rfl, HS3.out, HF3.out.sub (List.sublist_append_left _ [_])⟩
end Go.Proofs.YtjpibgehhgaopaaGreat.Top
