/- short's Raw, of one word: the walk. -/
import Derived.Test.YtjpibgehhgaopaaGreatZ14
import Derived.Test.YtjpibgehhgaopaaGreatZ11
import Derived.Test.YtjpibgehhgaopaaGreatZ12
namespace Go.Proofs.YtjpibgehhgaopaaGreat.Top
open Go.RowKit Go.Shelf Go.Proofs.YtjpibgehhgaopaaGreatW.PrintWords Go.Proofs.YtjpibgehhgaopaaGreatW.PrintLast Go.Proofs.YtjpibgehhgaopaaGreat.PTopGenerated Go.Proofs.YtjpibgehhgaopaaGreat.Rf
attribute [local go_sem] Oper.semAt_some
set_option linter.unusedVariables false
set_option linter.unusedSimpArgs false

/-- One bit further: a square, and a product if the bit is 1. -/
def stepW (M y : Nat) (p : Bool) (x : Nat) : Nat := if p then prodW M (prodW M x x) y else prodW M x x
def sqW (M y x0 E : Nat) : Nat → Nat
  | 0 => x0
  | k + 1 => stepW M y (bitB E (bl E - 1 - k)) (sqW M y x0 E k)
/-- What Raw answers, of one word. -/
def rawW (M a E : Nat) : Nat := prodW M (sqW M (prodW M a (18446744073709551616 ^ 2 % M)) (prodW M 1 (18446744073709551616 ^ 2 % M)) E (bl E)) 1
/-- Raw's blocks. -/
def RawL (bm bx bY be d l : Nat) (mo : Obj) (xv yv ev : Value) (r : Loop) : List (Nat × Obj) :=
  [(bm, mo), (bx, .cells #[xv] 26), (bY, .cells #[yv] 26), (be, .cells #[ev] 26), (d, .deferred (some [])), (l, .loop r)]

theorem Fr.mo {w W : World} {L : List (Nat × Obj)} (h : Fr w W L) (i : Nat) {k : Nat} {a b c : Value} {t : TypeId} (hi : L[i]? = some (k, .cells #[a, b, c] t (0, 0))) : W.cell? ⟨k, 0, none⟩ = some a ∧ W.cell? ⟨k, 1, none⟩ = some b ∧ W.cell? ⟨k, 2, none⟩ = some c :=
  ⟨h.cell i hi 0 rfl, h.cell i hi 1 rfl, h.cell i hi 2 rfl⟩
theorem Fr.kp_set {w W : World} {L : List (Nat × Obj)} (h : Fr w W L) (i : Nat) {k : Nat} {cs : Array Value} {t : TypeId} (hi : L[i]? = some (k, .cells cs t (0, 0))) (ht : t ≠ 23) (j : Nat) (u : Value) : Kp W (W.setCell ⟨k, j, none⟩ u) := Kp.set_ (h.at i hi) ht j u
theorem Res.put {w W : World} {v : Value} {r : List Nat} {L : List (Nat × Obj)} {k : Nat} {o : Obj} {o' : Obj} (h : Res w W v r) (hf : Fr w W L) (i : Nat) (hi : L[i]? = some (k, o)) (ho : o.isCells = false) : Res w (W.putObj k o') v r :=
  ⟨own_move h.own (fun q hq => by
    obtain ⟨cur, hb⟩ := own_typed h.own q hq
    have hne : some q ≠ some k := fun e => by
      injection e with e
      subst e
      rw [hf.at i hi] at hb
      injection hb with hb
      subst hb
      cases ho
    rw [(grownBy_putObj' W k o').block q (blk_lt hb) hne]), h.w64, (hf.put i hi o').bel⟩
set_option maxHeartbeats 4000000 in
set_option maxRecDepth 100000 in
theorem rawN (v : Value) (M a E : Nat) (Aa Ae : Option Addr) (ca ce : Nat) (w : World) (hM : Md w v M) (h0 : 0 < M) (ha : Num w Aa ca [a]) (he : Num w Ae ce [E]) :
    Calls Tryz.prog 53 #[v, .slice Aa 1 ca, .slice Ae 1 ce] w fun e w' => ∃ v', e = .returned v' ∧ Res w w' v' [rawW M a E] := by
  obtain ⟨A1, c1, A2, c2, rfl, hm1, hm2⟩ := hM
  obtain ⟨rr, hrr⟩ : ∃ rr, rr = 18446744073709551616 ^ 2 % M := ⟨_, rfl⟩
  rw [← hrr] at hm2
  have HP := Aside0.mk (fun W Aa ca a Ab cb b (hk : Kp w W) ha hb => product0 (.agg #[.slice A1 1 c1, .int .u64 (KI M), .slice A2 1 c2]) M a b Aa Ab ca cb W ⟨A1, c1, A2, c2, rfl, hm1.kp hk, by rw [← hrr]; exact hm2.kp hk⟩ h0 ha hb)
  have HN := Aside0.mk (And.intro hm2 (And.intro ha he))
  obtain ⟨res, hres⟩ : ∃ res, res = rawW M a E := ⟨_, rfl⟩
  rw [← hres]
  have HRES := Aside0.mk (show res = prodW M (sqW M (prodW M a rr) (prodW M 1 rr) E (bl E)) 1 by rw [hres, hrr]; rfl)
  generalize KI M = kk at *
  clear hrr hm1 hm2 ha he hres
  have HWd := Aside0.mk (fun W => wordN 1 W (by omega))
  have HF0 := Aside0.mk ((Fr.nil w).alloc (.cells #[.slice A1 1 c1, .int .u64 kk, .slice A2 1 c2] 73))
  simp only [List.nil_append] at HF0
  have k0 : (w.alloc (.cells #[.slice A1 1 c1, .int .u64 kk, .slice A2 1 c2] 73)).cell? ⟨w.heap.size, 0, none⟩ = some (.slice A1 1 c1) := HF0.out.cell 0 rfl 0 rfl
  refine (callsIn_wide (n := 3)).1 ?_
  refine callsIn_of_wp_marks Tryz.func53 rfl trivial ?_ rfl
  simp only [Tryz.ntmps53, List.size_toArray, List.length_cons, List.length_nil, Nat.reduceAdd, Nat.reduceSub, Array.replicate_succ, Array.replicate_zero, List.push_toArray, List.append_toArray, List.nil_append, List.cons_append]
  refine wpIn_wide.2 ?_
  go_wp2_with fail
  refine (HWd.out _).mono ?_
  rintro e w1 ⟨v1, rfl, hr1⟩
  obtain ⟨B1, d1, rfl, hn1⟩ := hr1.num
  have HF1 := Aside0.mk ((HF0.out.mv hr1.bel).alloc (.cells #[.slice B1 1 d1] 26))
  simp only [List.nil_append, List.cons_append] at HF1
  have HX1 := Aside0.mk (hn1.below (below_alloc (Below.refl _ w1) (.cells #[.slice B1 1 d1] 26)))
  obtain ⟨m0, m1, m2⟩ := HF1.out.mo 0 rfl
  have x1 := HF1.out.cell 1 rfl 0 rfl
  have f1 := HF1.out.frozen 1 rfl 0
  clear k0 hr1 hn1
  go_wp2_with fail
  refine (HP.out _ _ _ _ _ _ _ (Kp.of_below HF1.out.bel) HX1.out (HN.out.1.fr HF1.out)).mono ?_
  rintro e w2 ⟨v2, rfl, hr2⟩
  obtain ⟨B2, d2, rfl, hn2⟩ := hr2.num
  have HF1' := Aside0.mk (HF1.out.mv hr2.bel)
  have f2 := HF1'.out.frozen 1 rfl 0
  have x1' := HF1'.out.cell 1 rfl 0 rfl
  have HF2 := Aside0.mk (HF1'.out.set_ 1 rfl 0 (.slice B2 1 d2))
  have HX2 := Aside0.mk (hn2.kp (HF1'.out.kp_set 1 rfl (by decide) 0 (.slice B2 1 d2)))
  simp only [List.set, Array.setIfInBounds] at HF2
  clear m0 m1 m2 x1 f1 hr2 hn2 HX1 HF1
  obtain ⟨m0, m1, m2⟩ := HF2.out.mo 0 rfl
  go_wp2_with fail
  refine (HP.out _ _ _ _ _ _ _ (Kp.of_below HF2.out.bel) (HN.out.2.1.fr HF2.out) (HN.out.1.fr HF2.out)).mono ?_
  rintro e w3 ⟨v3, rfl, hr3⟩
  obtain ⟨B3, d3, rfl, hn3⟩ := hr3.num
  have HF3 := Aside0.mk (fun r => (((((HF2.out.mv hr3.bel).alloc (.cells #[.slice B3 1 d3] 26)).alloc (.cells #[.slice Ae 1 ce] 26)).alloc (.deferred (some []))).alloc (.loop r)))
  simp only [List.nil_append, List.cons_append, World.size_alloc] at HF3
  have HX3 := Aside0.mk (And.intro (HX2.out.below hr3.bel) hn3)
  clear m0 m1 m2 f2 x1' hr3 hn3 HX2 HF2 HF1'
  go_wp2_with fail
  refine (downN _ _ _ _).mono ?_
  rintro e w4 ⟨rfl, rfl⟩
  go_wp2_with fail
  obtain ⟨moO, hmo⟩ : ∃ moO, moO = Obj.cells #[.slice A1 1 c1, .int .u64 kk, .slice A2 1 c2] 73 (0, 0) := ⟨_, rfl⟩
  obtain ⟨x0, hx0⟩ : ∃ x0, x0 = prodW M 1 rr := ⟨_, rfl⟩
  obtain ⟨y0, hy0⟩ : ∃ y0, y0 = prodW M a rr := ⟨_, rfl⟩
  rw [← hx0, ← hy0] at HX3 HRES
  obtain ⟨bm, hbm⟩ : ∃ bm, bm = w.heap.size := ⟨_, rfl⟩
  obtain ⟨bx, hbx⟩ : ∃ bx, bx = w1.heap.size := ⟨_, rfl⟩
  obtain ⟨bY, hbY⟩ : ∃ bY, bY = w3.heap.size := ⟨_, rfl⟩
  obtain ⟨wl, hwl⟩ : ∃ wl, wl = (w3.alloc (.cells #[.slice B3 1 d3] 26)).alloc (.cells #[.slice Ae 1 ce] 26) := ⟨_, rfl⟩
  have hsz : wl.heap.size = bY + 1 + 1 := by rw [hwl, hbY]; simp
  have HX4 := Aside0.mk (show ∀ r, Num ((wl.alloc (.deferred (some []))).alloc (.loop r)) B2 d2 [x0] ∧ Num ((wl.alloc (.deferred (some []))).alloc (.loop r)) B3 d3 [y0] from fun r => by
    rw [hwl]
    have hb := ((((Below.refl w3.heap.size w3).alloc (Nat.le_refl _) (.cells #[.slice B3 1 d3] 26)).alloc (by simp) (.cells #[.slice Ae 1 ce] 26)).alloc (by simp; omega) (.deferred (some []))).alloc (by simp; omega) (.loop r)
    exact ⟨HX3.out.1.below hb, HX3.out.2.below hb⟩)
  rw [← hwl, ← hbm, ← hbx, ← hbY, ← hmo] at HF3
  rw [← hbm, ← hbx, ← hbY, ← hwl]
  change Aside0 (∀ r, Fr w ((wl.alloc (.deferred (some []))).alloc (.loop r)) (RawL bm bx bY (bY + 1) (bY + 1 + 1) (bY + 1 + 1 + 1) moO (.slice B2 1 d2) (.slice B3 1 d3) (.slice Ae 1 ce) r)) at HF3
  have HB := Aside0.mk hbm
  clear hwl hbx hbY hbm hx0 hy0 HX3 HF0
  refine (wpIn_wide (n := 3)).1 ?_
  refine wp_rangeFunc (gf := 143) (lb := #[.pointer (some ⟨bY + 1, 0, none⟩)]) rfl (enters_of Tryz.func143 (by kernel_rfl) rfl)
    (fun W => ∃ B d r, Fr w W (RawL bm bx bY (bY + 1) (bY + 1 + 1) (bY + 1 + 1 + 1) moO (.slice B 1 d) (.slice B3 1 d3) (.slice Ae 1 ce) r) ∧ Num W B d [sqW M y0 x0 E (bl E)]) (fun k W => False) ?call ?done ?stop
  case call =>
    intro fn rec hrec
    rw [hsz]
    refine (down_in 2 (bY + 1 + 1 + 1) (bY + 1) Ae ce E
      (fun k W => ∃ B d, Fr w W (RawL bm bx bY (bY + 1) (bY + 1 + 1) (bY + 1 + 1 + 1) moO (.slice B 1 d) (.slice B3 1 d3) (.slice Ae 1 ce) (rec .ready none)) ∧ Num W B d [sqW M y0 x0 E k] ∧ Num W B3 d3 [y0]) ?_ ?_ _ ?_).mono ?_
    · rintro k W ⟨B, d, h1, h2, h3⟩
      exact ⟨h1.cell 3 rfl 0 rfl, HN.out.2.2.fr h1⟩
    · rintro k W m hk ⟨B, d, h1, h2, h3⟩
      have HF0 := Aside0.mk (And.intro h1 (And.intro h2 h3))
      have HSt := Aside0.mk (show sqW M y0 x0 E (k + 1) = stepW M y0 (bitB E (bl E - 1 - k)) (sqW M y0 x0 E k) from rfl)
      generalize bitB E (bl E - 1 - k) = p at *
      generalize sqW M y0 x0 E (k + 1) = xk' at *
      generalize sqW M y0 x0 E k = xk at *
      clear h1 h2 h3
      refine yield_at hrec (HF0.out.1.at 5 rfl) rfl ?_
      gi_wp2_with fail
      refine ⟨HF0.out.1.at 5 rfl, ?_⟩
      have HF := Aside0.mk (HF0.out.1.put 5 rfl (.loop (rec .busy none)))
      have hkp := Kp.put (HF0.out.1.at 5 rfl) rfl (.loop (rec .busy none))
      have HX := Aside0.mk (And.intro (HF0.out.2.1.kp hkp) (HF0.out.2.2.kp hkp))
      obtain ⟨Wb, hWb⟩ : ∃ Wb, Wb = W.putObj (bY + 1 + 1 + 1) (.loop (rec .busy none)) := ⟨_, rfl⟩
      rw [← hWb] at HF HX ⊢
      clear hWb HF0 hkp
      obtain ⟨m0, m1, m2⟩ := HF.out.mo 0 (by rw [hmo]; rfl)
      have x1 := HF.out.cell 1 rfl 0 rfl
      have f1 := HF.out.frozen 1 rfl 0
      gi_wp2_with fail
      refine ⟨trivial, (fun h => by cases h), ?_⟩
      refine ((callsIn_wide.2 (HP.out _ _ _ _ _ _ _ (Kp.of_below HF.out.bel) HX.out.1 HX.out.1)).inRound _).mono ?_
      rintro e w5 ⟨v5, rfl, hr5⟩
      obtain ⟨B5, d5, rfl, hn5⟩ := hr5.num
      have HF5 := Aside0.mk (HF.out.mv hr5.bel)
      have f5 := HF5.out.frozen 1 rfl 0
      have x5 := HF5.out.cell 1 rfl 0 rfl
      have hkp := HF5.out.kp_set 1 rfl (by decide) 0 (.slice B5 1 d5)
      have HF6 := Aside0.mk (HF5.out.set_ 1 rfl 0 (.slice B5 1 d5))
      have HX6 := Aside0.mk (And.intro (hn5.kp hkp) ((HX.out.2.below hr5.bel).kp hkp))
      simp only [List.set, Array.setIfInBounds] at HF6
      clear m0 m1 m2 x1 f1 hr5 hn5 HX HF hkp
      cases p
      · gi_wp2_with fail
        refine ⟨HF6.out.at 5 rfl, rfl, B5, d5, HF6.out.put 5 rfl _, ?_, HX6.out.2.kp (Kp.put (HF6.out.at 5 rfl) rfl _)⟩
        rw [HSt.out]
        exact HX6.out.1.kp (Kp.put (HF6.out.at 5 rfl) rfl _)
      · obtain ⟨m0, m1, m2⟩ := HF6.out.mo 0 (by rw [hmo]; rfl)
        have x6 := HF6.out.cell 1 rfl 0 rfl
        have y6 := HF6.out.cell 2 rfl 0 rfl
        gi_wp2_with fail
        refine ⟨trivial, (fun h => by cases h), ?_⟩
        refine ((callsIn_wide.2 (HP.out _ _ _ _ _ _ _ (Kp.of_below HF6.out.bel) HX6.out.1 HX6.out.2)).inRound _).mono ?_
        rintro e w7 ⟨v7, rfl, hr7⟩
        obtain ⟨B7, d7, rfl, hn7⟩ := hr7.num
        have HF7 := Aside0.mk (HF6.out.mv hr7.bel)
        have f7 := HF7.out.frozen 1 rfl 0
        have x7 := HF7.out.cell 1 rfl 0 rfl
        have hkp := HF7.out.kp_set 1 rfl (by decide) 0 (.slice B7 1 d7)
        have HF8 := Aside0.mk (HF7.out.set_ 1 rfl 0 (.slice B7 1 d7))
        have HX8 := Aside0.mk (And.intro (hn7.kp hkp) ((HX6.out.2.below hr7.bel).kp hkp))
        simp only [List.set, Array.setIfInBounds] at HF8
        clear m0 m1 m2 x6 y6 hr7 hn7 hkp
        gi_wp2_with fail
        refine ⟨HF8.out.at 5 rfl, rfl, B7, d7, HF8.out.put 5 rfl _, ?_, HX8.out.2.kp (Kp.put (HF8.out.at 5 rfl) rfl _)⟩
        rw [HSt.out]
        exact HX8.out.1.kp (Kp.put (HF8.out.at 5 rfl) rfl _)
    · exact ⟨B2, d2, HF3.out _, (HX4.out _).1, (HX4.out _).2⟩
    · rintro e W ⟨he, B, d, h1, h2, h3⟩
      exact ⟨he, .inl ⟨h1.at 5 rfl, B, d, _, h1, h2⟩⟩
  case done =>
    rintro W o ⟨B, d, r, h, hn⟩ hlo o'
    rw [hsz] at hlo ⊢
    have hkp := Kp.put (h.at 5 rfl) rfl (.loop o')
    have HF := Aside0.mk (h.put 5 rfl (.loop o'))
    have HX := Aside0.mk (hn.kp hkp)
    obtain ⟨Wb, hWb⟩ : ∃ Wb, Wb = W.putObj (bY + 1 + 1 + 1) (.loop o') := ⟨_, rfl⟩
    rw [← hWb] at HF HX ⊢
    clear hWb h hlo hkp hn
    obtain ⟨m0, m1, m2⟩ := HF.out.mo 0 (by rw [hmo]; rfl)
    have x1 := HF.out.cell 1 rfl 0 rfl
    go_wp2_with fail
    go_region_held3 (fun W => W.cell? ⟨bm, 0, none⟩ = some (.slice A1 1 c1) ∧ W.cell? ⟨bm, 1, none⟩ = some (.int .u64 kk) ∧ W.cell? ⟨bm, 2, none⟩ = some (.slice A2 1 c2) ∧ W.cell? ⟨bx, 0, none⟩ = some (.slice B 1 d)) (first | go_keep | exact ⟨by assumption, by assumption, by assumption, by assumption⟩) (first | (go_at_call 92; refine (HWd.out _).mono ?_; rintro e w10 ⟨v10, rfl, hr10⟩; obtain ⟨B10, d10, rfl, hn10⟩ := hr10.num; have HF10 := Aside0.mk ((HF.out.drewN _).mv hr10.bel); have HX10 := Aside0.mk (And.intro ((HX.out.below (pw_below_drewN (Below.refl _ _) _)).below hr10.bel) hn10); have n0 := (HF10.out.mo 0 (by rw [hmo]; rfl)).1; have n1 := (HF10.out.mo 0 (by rw [hmo]; rfl)).2.1; have n2 := (HF10.out.mo 0 (by rw [hmo]; rfl)).2.2; have n3 := HF10.out.cell 1 rfl 0 rfl; clear hr10 hn10) | (go_at_call 93; refine (HP.out _ _ _ _ _ _ _ (Kp.of_below HF10.out.bel) HX10.out.1 HX10.out.2).mono ?_; rintro e w11 ⟨v11, rfl, hr11⟩; have HF11 := Aside0.mk (HF10.out.mv hr11.bel); have HX11 := Aside0.mk (hr11.later HF10.out.bel); have l0 := (HF11.out.mo 0 (by rw [hmo]; rfl)).1; have l1 := (HF11.out.mo 0 (by rw [hmo]; rfl)).2.1; have l2 := (HF11.out.mo 0 (by rw [hmo]; rfl)).2.2; have l3 := HF11.out.cell 1 rfl 0 rfl; clear hr11))
    all_goals go_wp2_with fail
    refine ⟨by simp, .inl ⟨_, _, rfl, run_takeDeferred (HF11.out.at 4 rfl), ?_⟩⟩
    refine ⟨v11, ?_, v11, rfl, ?_⟩
    · simp [results, Tryz.f53, go_sem]
    · rw [HRES.out]
      exact HX11.out.put HF11.out 4 rfl rfl
  case stop =>
    rintro k W o h
    exact h.elim
end Go.Proofs.YtjpibgehhgaopaaGreat.Top
/- product's shifted. -/
namespace Go.Proofs.YtjpibgehhgaopaaGreat.Top
open Go.RowKit Go.Proofs.YtjpibgehhgaopaaGreatW.PrintWords Go.Proofs.YtjpibgehhgaopaaGreatW.PrintLast Go.Proofs.YtjpibgehhgaopaaGreat.PTopGenerated
set_option linter.unusedVariables false
set_option linter.unusedSimpArgs false

theorem val_set : ∀ (l : List Nat) (p x : Nat), p < l.length → val (l.set p x) + 18446744073709551616 ^ p * l.getD p 0 = val l + 18446744073709551616 ^ p * x
  | [], p, x, h => by simp at h
  | y :: r, 0, x, _ => by simp [val, List.getD]; omega
  | y :: r, p + 1, x, h => by
    have ih := val_set r p x (by simpa using h)
    rw [List.set_cons_succ, val, val, Nat.pow_succ, show (y :: r).getD (p + 1) 0 = r.getD p 0 by simp [List.getD]]
    generalize 18446744073709551616 ^ p = q at *
    generalize val (r.set p x) = v1 at *
    generalize val r = v2 at *
    generalize r.getD p 0 = g at *
    have e1 : q * 18446744073709551616 * g = 18446744073709551616 * (q * g) := by rw [Nat.mul_comm q, Nat.mul_assoc]
    have e2 : q * 18446744073709551616 * x = 18446744073709551616 * (q * x) := by rw [Nat.mul_comm q, Nat.mul_assoc]
    rw [e1, e2]
    generalize q * g = gg at *
    generalize q * x = xx at *
    omega
theorem or_low (x b s : Nat) (h : b < 2 ^ s) : b ||| (x * 2 ^ s) = b + x * 2 ^ s := by
  have := Nat.shiftLeft_add_eq_or_of_lt h x
  rw [Nat.shiftLeft_eq] at this
  rw [Nat.or_comm, ← this, Nat.add_comm]
/-- w's lower part, some bits up. -/
theorem shl_low (w s : Nat) (hs : s < 64) : w * 2 ^ s % 18446744073709551616 = w % 2 ^ (64 - s) * 2 ^ s ∧ w * 2 ^ s / 18446744073709551616 = w / 2 ^ (64 - s) := by
  have e : (18446744073709551616 : Nat) = 2 ^ (64 - s) * 2 ^ s := by rw [← Nat.pow_add, show 64 - s + s = 64 by omega]
  rw [e]
  exact ⟨Nat.mul_mod_mul_right _ _ _, Nat.mul_div_mul_right _ _ (Nat.pow_pos (by omega))⟩
theorem mul_wrap' (x y : Nat) : IntKind.u64.wrap ((x : Int) * (y : Int)) = ((x * y % 18446744073709551616 : Nat) : Int) := by
  rw [IntKind.wrap_u64, ← Int.natCast_mul]
  generalize x * y = z
  omega
/-- What shifted has made so far. -/
structure ShI (a : List Nat) (s i : Nat) (l : List Nat) : Prop where
  w64 : W64 l
  len : l.length = a.length + 1
  le : i ≤ a.length
  vl : val l = val (a.take i) * 2 ^ s
  low : l.getD i 0 < 2 ^ s
  top : ∀ j, i < j → l.getD j 0 = 0
theorem getD_set_ne {l : List Nat} {i j x : Nat} (h : i ≠ j) : (l.set i x).getD j 0 = l.getD j 0 := by
  simp [List.getD, List.getElem?_set, h]
theorem getD_set_eq {l : List Nat} {i x : Nat} (h : i < l.length) : (l.set i x).getD i 0 = x := by
  simp [List.getD, List.getElem?_set, h]
theorem or_shl {b x s : Nat} (hb : b < 2 ^ s) (hx : x < 18446744073709551616) (hs : s < 64) : Go.bits .or .u64 (b : Int) (IntKind.u64.wrap ((x : Int) * 2 ^ s)) = ((b + x * 2 ^ s % 18446744073709551616 : Nat) : Int) := by
  have e1 : IntKind.u64.wrap ((x : Int) * 2 ^ s) = ((x * 2 ^ s % 18446744073709551616 : Nat) : Int) := by
    have := mul_wrap' x (2 ^ s)
    rw [← this]
    congr 2
  have hbw : b < 18446744073709551616 := Nat.lt_of_lt_of_le hb (by have := Nat.pow_le_pow_right (n := 2) (by omega) (show s ≤ 64 by omega); exact this)
  rw [e1, bits_or_u64_nat b _ hbw (Nat.mod_lt _ (by omega)), (shl_low x s hs).1, or_low _ _ _ hb]
theorem msr1 (i n : Nat) (h : i < n) : n - (intOf (.int .i64 ((i : Int) + 1))).toNat < n - (intOf (.int .i64 (i : Int))).toNat := by
  show n - ((i : Int) + 1).toNat < n - (i : Int).toNat
  omega
theorem ShI.step {a l : List Nat} {s i : Nat} (h : ShI a s i l) (hi : i < a.length) (hs : s < 64) (ha : W64 a) :
    ShI a s (i + 1) ((l.set i (l.getD i 0 + a.getD i 0 * 2 ^ s % 18446744073709551616)).set (i + 1) (a.getD i 0 / 2 ^ (64 - s))) ∧ l.getD i 0 + a.getD i 0 * 2 ^ s % 18446744073709551616 < 18446744073709551616 := by
  obtain ⟨h1, h2⟩ := shl_low (a.getD i 0) s hs
  have hw := getD_w ha i
  have hlow := h.low
  have hlen := h.len
  have hx : l.getD i 0 + a.getD i 0 * 2 ^ s % 18446744073709551616 < 18446744073709551616 := by
    rw [h1]
    have e : (18446744073709551616 : Nat) = 2 ^ (64 - s) * 2 ^ s := by rw [← Nat.pow_add, show 64 - s + s = 64 by omega]
    have h3 : a.getD i 0 % 2 ^ (64 - s) + 1 ≤ 2 ^ (64 - s) := Nat.mod_lt _ (Nat.pow_pos (by omega))
    have h4 := Nat.mul_le_mul_right (2 ^ s) h3
    rw [Nat.add_mul, ← e] at h4
    omega
  have hy : a.getD i 0 / 2 ^ (64 - s) < 2 ^ s := by
    rw [Nat.div_lt_iff_lt_mul (Nat.pow_pos (by omega)), ← Nat.pow_add, show s + (64 - s) = 64 by omega]
    exact hw
  have hyw : a.getD i 0 / 2 ^ (64 - s) < 18446744073709551616 := Nat.lt_of_le_of_lt (Nat.div_le_self _ _) hw
  refine ⟨⟨W64_set (W64_set h.w64 i hx) _ hyw, by simp [hlen], hi, ?_, ?_, fun j hj => ?_⟩, hx⟩
  · have v1 := val_set l i (l.getD i 0 + a.getD i 0 * 2 ^ s % 18446744073709551616) (by omega)
    have v2 := val_set (l.set i (l.getD i 0 + a.getD i 0 * 2 ^ s % 18446744073709551616)) (i + 1) (a.getD i 0 / 2 ^ (64 - s)) (by simp; omega)
    rw [getD_set_ne (by omega), h.top (i + 1) (by omega), Nat.mul_zero, Nat.add_zero] at v2
    rw [v2, val_take_succ a i hi, Nat.add_mul, ← h.vl, Nat.mul_assoc]
    have hd := Nat.div_add_mod (a.getD i 0 * 2 ^ s) 18446744073709551616
    rw [h2] at hd
    rw [Nat.mul_add] at v1
    clear h1 h2 hx v2 hy hyw
    generalize a.getD i 0 * 2 ^ s % 18446744073709551616 = r at *
    generalize a.getD i 0 / 2 ^ (64 - s) = q at *
    rw [← hd, Nat.mul_add, Nat.pow_succ, Nat.mul_assoc]
    generalize val (l.set i (l.getD i 0 + r)) = z at *
    generalize 18446744073709551616 ^ i * l.getD i 0 = z1 at *
    generalize 18446744073709551616 ^ i * r = z2 at *
    generalize 18446744073709551616 ^ i * (18446744073709551616 * q) = z3 at *
    generalize val l = z4 at *
    omega
  · rw [getD_set_eq (by simp; omega)]
    exact hy
  · rw [getD_set_ne (by omega), getD_set_ne (by omega)]
    exact h.top j (by omega)
set_option maxHeartbeats 1000000 in
set_option maxRecDepth 100000 in
theorem shiftedB (A : Option Addr) (c : Nat) (a : List Nat) (s : Nat) (w : World) (h : Num w A c a) (hl : a.length ≤ 300) (hs : s < 64) :
    Calls Tryz.prog 179 #[.slice A a.length c, .int .i64 (s : Int)] w fun e w' => ∃ g, e = .returned (.slice (some ⟨g, 0, none⟩) (a.length + 1) (a.length + 1)) ∧ Fr w w' [(g, rowO (digs (a.length + 1) (val a * 2 ^ s)))] := by
  have H := Aside0.mk h
  have hmk : ∀ W : World, (Instr.makeSlice 26 (.int .i64 ((a.length : Int) + 1)) (.int .i64 ((a.length : Int) + 1))).run Tryz.prog W = .ok (.slice (some ⟨W.heap.size, 0, none⟩) (a.length + 1) (a.length + 1)) (W.alloc (rowO (List.replicate (a.length + 1) 0))) := makeR (a.length + 1) (by omega)
  have w1 : wrap64 ((a.length : Int) + 1) = (a.length : Int) + 1 := wrap64_id (by omega) (by omega)
  have w2 : wrap64 (64 - (s : Int)) = 64 - (s : Int) := wrap64_id (by omega) (by omega)
  have HF := Aside0.mk ((Fr.nil w).alloc (rowO (List.replicate (a.length + 1) 0)))
  simp only [List.nil_append] at HF
  clear h
  go_enter Tryz.func179, Tryz.ntmps179
  go_wp2_with fail
  go_loopw [14] (fun v14 wr => ∃ (i : Nat) (l : List Nat), v14 = .int .i64 (i : Int) ∧ Aside0 (ShI a s i l) ∧ Aside0 (Fr w wr [(w.heap.size, rowO l)])) (fun v14 _ => a.length - (intOf v14).toNat)
  case atStart => exact ⟨0, List.replicate (a.length + 1) 0, rfl, ⟨W64_rep _, by simp, Nat.zero_le _, by rw [val_replicate]; simp [val], by simp [List.getD, List.replicate_succ]; exact Nat.pow_pos (by omega), fun j hj => by simp [List.getD, List.getElem?_replicate]; split <;> rfl⟩, HF⟩
  case round =>
    obtain ⟨i, l, rfl, HI, HW⟩ := hrel
    by_cases hi : i < a.length
    · have t2 : decide ((i : Int) < (a.length : Int)) = true := by rw [decide_eq_true_eq]; omega
      have w3 : wrap64 ((i : Int) + 1) = ((i + 1 : Nat) : Int) := wrap64_id (by omega) (by omega)
      have w3' : wrap64 ((i : Int) + 1) = (i : Int) + 1 := wrap64_id (by omega) (by omega)
      have hb1 : (i : Int) < (a.length : Int) := by omega
      have hb2 : (i : Int) < ((a.length + 1 : Nat) : Int) := by omega
      have hb3 : ((i + 1 : Nat) : Int) < ((a.length + 1 : Nat) : Int) := by omega
      have HLT := Aside0.mk hi
      obtain ⟨ad, rfl, hc⟩ := (H.out.fr HW.out).at_ i hi
      have hg := HW.out.rowcell 0 rfl i (by have := HI.out.len; omega)
      have hf := HW.out.rowfrozen 0 rfl i
      have HST := Aside0.mk (HI.out.step hi hs H.out.w64)
      have hor := or_shl HI.out.low (getD_w H.out.w64 i) hs
      have hli : l.getD i 0 < 18446744073709551616 := getD_w HI.out.w64 i
      have hg2 := HW.out.rowcell 0 rfl (i + 1) (by have := HI.out.len; omega)
      have hf2 := HW.out.rowfrozen 0 rfl (i + 1)
      generalize l.getD i 0 = li at *
      generalize l.getD (i + 1) 0 = li2 at *
      generalize a.getD i 0 = x at *
      go_wp2_with fail
      go_region
      all_goals go_wp2_with fail
      all_goals
        refine ⟨⟨i + 1, _, by first | rfl | exact congrArg (Value.int .i64) w3', ⟨HST.out.1⟩, ⟨?_⟩⟩, by first | exact msr1' i _ HLT.out | exact msr1 i _ HLT.out⟩
        have h := ((HW.out.rowset 0 rfl i (li + x * 2 ^ s % 18446744073709551616)).rowset 0 rfl (i + 1) (x / 2 ^ (64 - s))).drewN 1
        rw [show (((li + x * 2 ^ s % 18446744073709551616 : Nat)) : Int) = (li : Int) + (x : Int) * 2 ^ s % 18446744073709551616 by simp, show ((x / 2 ^ (64 - s) : Nat) : Int) = (x : Int) / 2 ^ (64 - s) by simp] at h
        exact h
    · obtain rfl : i = a.length := by have := HI.out.le; omega
      have t2 : decide ((a.length : Int) < (a.length : Int)) = false := by simp
      have hv := HI.out.vl
      rw [List.take_length] at hv
      have HD := Aside0.mk (show digs (a.length + 1) (val a * 2 ^ s) = l by rw [← hv, ← HI.out.len, digs_val l HI.out.w64])
      clear hv
      go_wp2_with fail
      go_ret
      rw [HD.out]
      exact ⟨_, rfl, HW.out⟩
theorem shiftedN (A : Option Addr) (c : Nat) (a : List Nat) (s : Nat) (w : World) (h : Num w A c a) (hl : a.length ≤ 300) (hs : s < 64) :
    Calls Tryz.prog 179 #[.slice A a.length c, .int .i64 (s : Int)] w fun e w' => ∃ v, e = .returned v ∧ Res w w' v (digs (a.length + 1) (val a * 2 ^ s)) := by
  refine (shiftedB A c a s w h hl hs).mono ?_
  rintro e w' ⟨g, e1, hf⟩
  have hr := hf.res 0 rfl (digs_w _ _) (by simp; omega)
  rw [digs_length] at hr
  exact ⟨_, e1, hr⟩
end Go.Proofs.YtjpibgehhgaopaaGreat.Top
/- product's taken. -/
namespace Go.Proofs.YtjpibgehhgaopaaGreat.Top
open Go.RowKit Go.Proofs.YtjpibgehhgaopaaGreatW.PrintWords Go.Proofs.YtjpibgehhgaopaaGreatW.PrintLast Go.Proofs.YtjpibgehhgaopaaGreat.PTopGenerated
set_option linter.unusedVariables false
set_option linter.unusedSimpArgs false

/-- Part of a row, as a number. -/
theorem num_mid {W : World} {g j n c : Nat} {l : List Nat} (hg : W.heap[g]? = some (rowO l)) (hw : W64 l) (hj : j + n ≤ l.length) (hc : n ≤ c) (hl : n ≤ 1000000) : Num W (some ⟨g, j, none⟩) c ((l.drop j).take n) := by
  have hlen : ((l.drop j).take n).length = n := by simp; omega
  refine ⟨⟨by simp, by rw [hlen]; omega, fun _ => ⟨_, rfl, fun i hi => ?_⟩⟩, by rw [hlen]; exact hc, W64_take (W64_drop hw j) n, fun ad e => ?_⟩
  · rw [hlen] at hi
    have e : ((⟨g, j, none⟩ : Addr).add i) = ⟨g, j + i, none⟩ := by
      unfold Addr.add
      by_cases h0 : i = 0
      · subst h0; rfl
      · rw [if_neg h0]
    rw [e, (blk_cell hg (j + i)).trans (row_get l (j + i) (by omega))]
    simp [nz, List.getD, List.getElem?_take, List.getElem?_drop, hi]
    cases l[j + i]? <;> rfl
  · injection e with e
    subst e
    exact ⟨_, hg⟩
theorem digs_snoc (n N : Nat) (h : N < 18446744073709551616 ^ (n + 1)) : digs n N ++ [N / 18446744073709551616 ^ n] = digs (n + 1) N := by
  have hlt : N / 18446744073709551616 ^ n < 18446744073709551616 := by
    rw [Nat.div_lt_iff_lt_mul (Nat.pow_pos (by omega)), Nat.mul_comm]
    rwa [Nat.pow_succ] at h
  refine val_inj (W64_append (digs_w _ _) (W64_one hlt)) (digs_w _ _) (by simp) ?_
  rw [val_snoc, val_digs, val_digs, digs_length, Nat.mod_eq_of_lt h]
  exact Nat.mod_add_div _ _
set_option maxHeartbeats 1000000 in
set_option maxRecDepth 100000 in
theorem takenN (g j cu : Nat) (ul v : List Nat) (A : Option Addr) (c q : Nat) (w : World) (hg : w.heap[g]? = some (rowO ul)) (hu : W64 ul) (hj : j + 3 ≤ ul.length) (hcu : 3 ≤ cu) (hv : Num w A c v) (hv2 : v.length = 2) (hq : q < 18446744073709551616) :
    Calls Tryz.prog 180 #[.slice (some ⟨g, j, none⟩) 3 cu, .slice A 2 c, .int .u64 (q : Int)] w fun e w' =>
      (val ((ul.drop j).take 3) < val v * q → e = .returned (.bool false) ∧ Below w.heap.size w w') ∧
      (val v * q ≤ val ((ul.drop j).take 3) → e = .returned (.bool true) ∧ But g w w' ∧ w'.heap[g]? = some (rowO (ul.take j ++ digs 3 (val ((ul.drop j).take 3) - val v * q) ++ ul.drop (j + 3)))) := by
  have hvl := val_lt v hv.w64
  rw [hv2] at hvl
  have hvq : val v * q < 18446744073709551616 ^ (2 + 1) := by
    rw [Nat.pow_succ]
    exact Nat.mul_lt_mul'' hvl hq
  have HM := Aside0.mk (mulWordN A c v q w hv (by omega) hq)
  rw [hv2] at HM
  have HG := Aside0.mk (And.intro hg (And.intro hu (And.intro hj (And.intro trivial (And.intro hcu hv)))))
  have HP := Aside0.mk (And.intro hvq (digs_snoc 2 (val v * q) hvq))
  obtain ⟨top, htop⟩ : ∃ top, top = val v * q / 18446744073709551616 ^ 2 := ⟨_, rfl⟩
  rw [← htop] at HM HP
  obtain ⟨p, hp⟩ : ∃ p, p = val v * q := ⟨_, rfl⟩
  rw [← hp] at HM HP ⊢
  obtain ⟨X, hX⟩ : ∃ X, X = val ((ul.drop j).take 3) := ⟨_, rfl⟩
  rw [← hX]
  have HX := Aside0.mk hX
  clear hg hu hj hv hvl hvq htop hp hX
  go_enter Tryz.func180, Tryz.ntmps180
  go_wp2_with fail
  refine HM.out.mono ?_
  rintro e w1 ⟨v1, rfl, h1⟩
  obtain ⟨A1, c1, rfl, hn1⟩ := h1.num
  have hb1 := below_alloc (Below.refl w1.heap.size w1) (.cells #[.int .u64 (top : Int)] 23)
  have HB1 := Aside0.mk (h1.bel.trans (hb1.mono h1.bel.size))
  have HO := Aside0.mk (show (w1.alloc (.cells #[.int .u64 (top : Int)] 23)).ownsRow w.heap.size 23 1 (.slice A1 2 c1) (nz (digs 2 p)).length (nums .u64 (nz (digs 2 p))) by
    have h := own_alloc h1.own (.cells #[.int .u64 (top : Int)] 23)
    rw [nz_length]
    rw [digs_length] at h ⊢
    exact h)
  have HRD := Aside0.mk (show ReadsInt (w1.alloc (.cells #[.int .u64 (top : Int)] 23)) .u64 (some ⟨w1.heap.size, 0, none⟩) 1 (nz [top]) from (num_of_blk (l := [top]) (c := 1) (heap_alloc_new w1 _) (by have := digs_w 3 p; rw [← HP.out.2] at this; exact fun x hx => this x (by simp at hx; simp [hx])) (by simp) (by simp)).rd)
  have HSZ := Aside0.mk (show w.heap.size ≤ (w1.alloc (.cells #[.int .u64 (top : Int)] 23)).heap.size by have := h1.bel.size; simp; omega)
  have HLN := Aside0.mk (show ((nz (digs 2 p)).length + 1) * 8 ≤ 140737488355328 by simp)
  clear h1 hn1 hb1
  go_wp2_with (at_builtin; refine print_append_row (w0 := w) w.heap.size rfl (.tmp 19) (.tmp 21) 26 23 .u64 8 rfl Tryz.underlying26 info23' (by decide) (.slice A1 2 c1) (nz (digs 2 p)) (nz [top]) (some ⟨w1.heap.size, 0, none⟩) 1 1 rfl rfl HO.out HRD.out HB1.out HSZ.out HLN.out ?_; rintro v2 w2 ho hb _ _; have HR2 := Aside0.mk ho; have HB2 := Aside0.mk hb; clear ho hb)
  have h3 : w2.ownsRow w.heap.size 23 1 v2 (digs 3 p).length (nums .u64 (nz (digs 3 p))) := by
    have h := HR2.out
    rw [← nz_append, HP.out.2, nz_length] at h
    exact h
  obtain ⟨A2, c2, rfl⟩ := own_slice h3
  obtain ⟨_, hn3⟩ := own_num h3 (digs_w 3 p)
  have hX3 := num_mid (W := w2) (g := g) (j := j) (n := 3) (c := cu) ((HB2.out.block g (blk_lt HG.out.1)).trans HG.out.1) HG.out.2.1 HG.out.2.2.1 HG.out.2.2.2.2.1 (by omega)
  have hl3 : ((ul.drop j).take 3).length = 3 := by have := HG.out.2.2.1; simp; omega
  have hS := sub0 (some ⟨g, j, none⟩) A2 cu c2 ((ul.drop j).take 3) (digs 3 p) 3 w2 hX3 hn3 (by rw [hl3, digs_length]; rfl) (by omega)
  rw [hl3, ← HX.out, val_digs, Nat.mod_eq_of_lt HP.out.1, digs_length] at hS
  have HS := Aside0.mk hS
  have HX3 := Aside0.mk (And.intro hX3 hl3)
  clear h3 hn3 hX3 hl3 hS
  by_cases hlt : X < p
  · rw [if_pos hlt] at HS
    have HLT := Aside0.mk hlt
    clear hlt
    rw [digs_length]
    refine HS.out.mono ?_
    rintro e w3 ⟨v3, rfl, h3⟩
    have H3 := Aside0.mk (h3.later HB2.out)
    clear h3
    go_wp2_with fail
    go_ret
    exact ⟨fun _ => ⟨rfl, H3.out.bel⟩, fun h => by have := HLT.out; omega⟩
  · rw [if_neg hlt] at HS
    have HLT := Aside0.mk hlt
    clear hlt
    rw [digs_length]
    refine HS.out.mono ?_
    rintro e w3 ⟨v3, rfl, h3⟩
    have H3 := Aside0.mk (h3.later HB2.out)
    obtain ⟨A3, c3, rfl, hn⟩ := h3.num
    have HN3 := Aside0.mk hn
    clear h3 hn
    have hg3 := (H3.out.bel.block g (blk_lt HG.out.1)).trans HG.out.1
    have HG3 := Aside0.mk hg3
    obtain ⟨d3, hd3⟩ : ∃ d3, d3 = digs 3 (X + 18446744073709551616 ^ 3 - p) := ⟨_, rfl⟩
    have hl3 : d3.length = 3 := by rw [hd3, digs_length]
    have hdd : d3 = digs 3 (X - p) := by
      rw [hd3]
      refine val_inj (digs_w _ _) (digs_w _ _) (by simp) ?_
      rw [val_digs, val_digs, show X + 18446744073709551616 ^ 3 - p = X - p + 18446744073709551616 ^ 3 by have := HLT.out; omega, Nat.add_mod_right]
    rw [← hd3] at HN3 H3 ⊢
    have HDD := Aside0.mk hdd
    obtain ⟨a3, rfl, hcells⟩ := HN3.out.rd.2.2 (by omega)
    have hcp := Go.run_copy_row (P := Tryz.prog) w3 26 26 3 23 g j 3 cu a3 3 c3 (nums .u64 (nz ul)).toArray 23 (nums .u64 (nz d3)) Tryz.underlying26 size23' hg3 (by simp [nums, hl3]) (fun i u hu => by
      have hi : i < 3 := by
        have := (List.getElem?_eq_some_iff.1 hu).1
        simpa [nums, hl3] using this
      rw [hcells i (by omega), ← hu]
      simp [nums, nz, List.getD, hl3, hi]) (by simp [nums, hl3]; have := HG.out.2.2.1; omega) (fun u hu => by simp [nums] at hu; obtain ⟨y, _, rfl⟩ := hu; rfl)
    rw [show goInt ((nums .u64 (nz d3)).length) = .int .i64 3 by simp [nums, hl3, goInt]] at hcp
    have harr : ((nums .u64 (nz ul)).toArray.toList.take j ++ nums .u64 (nz d3) ++ (nums .u64 (nz ul)).toArray.toList.drop (j + (nums .u64 (nz d3)).length)).toArray = (nums .u64 (nz (ul.take j ++ d3 ++ ul.drop (j + 3)))).toArray := by
      simp [nums, nz, hl3, List.map_take, List.map_drop]
    rw [harr] at hcp
    have hrow := setRow_heap w3 g _ (nums .u64 (nz (ul.take j ++ d3 ++ ul.drop (j + 3)))).toArray 23 (0, 0) hg3
    have hbut : But g w (w3.setRow g (nums .u64 (nz (ul.take j ++ d3 ++ ul.drop (j + 3)))).toArray) :=
      (But.of_below H3.out.bel).trans ⟨rfl, rfl, rfl, by simp, fun k _ hk => setRow_other _ _ _ _ hk⟩
    have HF := Aside0.mk (And.intro hrow hbut)
    generalize w3.setRow g (nums .u64 (nz (ul.take j ++ d3 ++ ul.drop (j + 3)))).toArray = w4 at *
    rw [hl3]
    clear hdd hcells hg3 harr hrow hbut
    go_wp2_with fail
    go_ret
    refine ⟨fun h => by have := HLT.out; omega, fun _ => ⟨rfl, HF.out.2, ?_⟩⟩
    rw [← HDD.out]
    exact HF.out.1
end Go.Proofs.YtjpibgehhgaopaaGreat.Top
