/- key's undo: the coefficients going down by quotients. -/
import Derived.Test.YtjpibgehhgaopaaGreatZ19
namespace Go.Proofs.YtjpibgehhgaopaaGreat.Top
open Go.RowKit Go.Proofs.YtjpibgehhgaopaaGreatW.PrintWords Go.Proofs.YtjpibgehhgaopaaGreatW.PrintLast Go.Proofs.YtjpibgehhgaopaaGreat.PTopGenerated
set_option linter.unusedVariables false
set_option linter.unusedSimpArgs false

/-- What undo's loop comes to. -/
def undoL (a b x y : Nat) (minus : Bool) : Nat × Bool :=
  if h : b = 0 then (x, minus) else undoL b (a % b) y (x + a / b * y) (!minus)
  termination_by b
  decreasing_by exact Nat.mod_lt _ (Nat.pos_of_ne_zero h)
theorem undoL_zero (a x y : Nat) (minus : Bool) : undoL a 0 x y minus = (x, minus) := by
  rw [undoL, dif_pos rfl]
theorem undoL_step {b : Nat} (h : b ≠ 0) (a x y : Nat) (minus : Bool) : undoL a b x y minus = undoL b (a % b) y (x + a / b * y) (!minus) := by
  rw [undoL, dif_neg h]
/-- What undo answers. -/
def undoF (e M : Nat) : Nat :=
  let r := undoL M (e % M) 0 1 false
  if r.2 then r.1 % M else (M - r.1 % M) % M
/-- The coefficients keep their sum. -/
structure UI (e M a b x y : Nat) (minus : Bool) : Prop where
  pos : 0 < a
  le : a ≤ M
  lt : b < a ∨ b ≤ M
  sum : x * b + y * a = M
  gcd : Nat.gcd a b = 1
  xle : x ≤ M
  res : undoL a b x y minus = undoL M (e % M) 0 1 false
theorem UI.start {e M : Nat} (hM : 1 < M) (hg : Nat.gcd e M = 1) : UI e M M (e % M) 0 1 false := by
  refine ⟨by omega, Nat.le_refl _, .inl (Nat.mod_lt _ (by omega)), by omega, ?_, Nat.zero_le _, rfl⟩
  exact (Nat.gcd_comm _ _).trans ((Nat.gcd_rec M e).symm.trans ((Nat.gcd_comm _ _).trans hg))
theorem UI.bounds {e M a b x y : Nat} {minus : Bool} (h : UI e M a b x y minus) : b ≤ M ∧ y ≤ M := by
  have h1 := h.sum
  have h2 := h.pos
  have h3 := h.le
  refine ⟨by rcases h.lt with h | h <;> omega, ?_⟩
  have : y * 1 ≤ y * a := Nat.mul_le_mul_left _ h2
  omega
theorem UI.step {e M a b x y : Nat} {minus : Bool} (h : UI e M a b x y minus) (hb : b ≠ 0) : UI e M b (a % b) y (x + a / b * y) (!minus) := by
  have hb1 := h.bounds.1
  refine ⟨Nat.pos_of_ne_zero hb, hb1, .inl (Nat.mod_lt _ (Nat.pos_of_ne_zero hb)), ?_, ?_, h.bounds.2, ?_⟩
  · have hs := h.sum
    have hd := Nat.div_add_mod a b
    generalize a % b = r at *
    generalize a / b = q at *
    rw [← hd] at hs
    rw [Nat.mul_add] at hs
    rw [Nat.add_mul, show q * y * b = y * (b * q) by rw [Nat.mul_comm q y, Nat.mul_assoc, Nat.mul_comm q b]]
    omega
  · exact (Nat.gcd_comm _ _).trans ((Nat.gcd_rec b a).symm.trans ((Nat.gcd_comm _ _).trans h.gcd))
  · rw [← h.res, ← undoL_step hb]
theorem UI.last {e M a x y : Nat} {minus : Bool} (h : UI e M a 0 x y minus) : a = 1 ∧ undoL M (e % M) 0 1 false = (x, minus) := by
  have hg := h.gcd
  rw [Nat.gcd_zero_right] at hg
  exact ⟨hg, by rw [← h.res, undoL_zero]⟩
theorem lw_le2 {N n : Nat} (hn : 1 ≤ n) (h : N < 18446744073709551616 ^ n) : (lw N).length ≤ n := by
  rw [lw_len]
  have := wl_le h
  omega
theorem lw_lt (N : Nat) : N < 18446744073709551616 ^ (lw N).length := by
  rw [lw_len]
  exact Nat.lt_of_lt_of_le (lt_wl N) (Nat.pow_le_pow_right (by omega) (by omega))
theorem val_digs_lt {n N : Nat} (h : N < 18446744073709551616 ^ n) : val (digs n N) = N := by rw [val_digs, Nat.mod_eq_of_lt h]
set_option maxRecDepth 100000 in
theorem mustK (w : World) : Calls Tryz.prog 74 #[.bool true] w fun x w' => x = .returned (.tuple #[]) ∧ w' = w := by
  go_enter Tryz.func74, Tryz.ntmps74
  go_wp2_with fail
  go_end0
  exact ⟨rfl, rfl⟩
theorem digs_num {W : World} {A : Option Addr} {c n N : Nat} (h : Num W A c (digs n N)) : Num W A c (digs n N) := h
set_option maxHeartbeats 4000000 in
set_option maxRecDepth 100000 in
theorem undoN (A A2 : Option Addr) (c c2 e M n : Nat) (w : World) (h1 : Num w A c [e]) (h2 : Num w A2 c2 (digs n M)) (hn1 : 1 ≤ n) (hn2 : n ≤ 2) (hM : 1 < M) (hMn : M < 18446744073709551616 ^ n) (hg : Nat.gcd e M = 1) :
    Calls Tryz.prog 80 #[.slice A 1 c, .slice A2 n c2] w fun e' w' => ∃ v, e' = .returned v ∧ Res w w' v (digs n (undoF e M)) := by
  have hW2 : ∀ k, k < 18446744073709551616 ^ n → wl k ≤ 2 := fun k hk => Nat.le_trans (wl_le hk) hn2
  have HQ0 := Aside0.mk (quickN A A2 c c2 [e] (digs n M) w h1 h2 (by simp) (by simp) (by simp; omega) (by rw [val_digs_lt hMn]; omega) (by rw [val_digs_lt hMn]; exact hW2 _ hMn))
  simp only [val_one, List.length_singleton, digs_length, val_digs_lt hMn] at HQ0
  have HN := Aside0.mk (And.intro h2 (And.intro hM (And.intro hMn hW2)))
  have HU := Aside0.mk (UI.start hM hg)
  have hnn : Aside0 (1 ≤ n ∧ n ≤ 2) := ⟨hn1, hn2⟩
  have HF := Aside0.mk (show undoF e M = (if (undoL M (e % M) 0 1 false).2 then (undoL M (e % M) 0 1 false).1 % M else (M - (undoL M (e % M) 0 1 false).1 % M) % M) from rfl)
  generalize undoF e M = res at *
  clear h1 h2 hM hMn hg hW2
  go_enter Tryz.func80, Tryz.ntmps80
  go_wp2_with fail
  refine HQ0.out.mono ?_
  rintro e1 w1 ⟨v1, v2, rfl, hr1, hr2⟩
  obtain ⟨A3, c3, rfl, hn3⟩ := hr2.num
  rw [digs_length]
  have HB1 := Aside0.mk (And.intro hr2.bel hn3)
  clear hr1 hr2 hn3 HQ0
  go_wp2_with fail
  have hb2 := below_alloc (below_alloc (Below.refl _ w1) (.cells #[.int .u64 0] 23)) (.cells #[.int .u64 1] 23)
  have hz : Num ((w1.alloc (.cells #[.int .u64 0] 23)).alloc (.cells #[.int .u64 1] 23)) (some ⟨w1.heap.size, 0, none⟩) 1 (lw 0) := num_of_blk (l := [0]) (heap_alloc2_old _ _ _) (W64_one (by omega)) (by simp) (by simp)
  have ho : Num ((w1.alloc (.cells #[.int .u64 0] 23)).alloc (.cells #[.int .u64 1] 23)) (some ⟨w1.heap.size + 1, 0, none⟩) 1 (lw 1) := by
    rw [lw_one (by omega)]
    exact num_of_blk (l := [1]) (heap_alloc2_new _ _ _) (W64_one (by omega)) (by simp) (by simp)
  have hl1 : 1 = (lw 1).length := by rw [lw_one (by omega)]; rfl
  have HS := Aside0.mk (And.intro ((HN.out.1.below HB1.out.1).below hb2) (And.intro (HB1.out.2.below hb2) (And.intro hz (And.intro ho (And.intro hl1 (HB1.out.1.trans (hb2.mono HB1.out.1.size)))))))
  obtain ⟨bz, hbz⟩ : ∃ bz, bz = w1.heap.size := ⟨_, rfl⟩
  obtain ⟨wl0, hwl⟩ : ∃ wl0, wl0 = (w1.alloc (.cells #[.int .u64 0] 23)).alloc (.cells #[.int .u64 1] 23) := ⟨_, rfl⟩
  rw [← hbz, ← hwl] at HS ⊢
  clear hb2 hz ho hl1 hbz hwl HB1
  go_loopg [8, 9, 10, 11, 12] (e % M) (fun k v8 v9 v10 v11 v12 wr => ∃ Aa ca a Ab cb Ax cx lx x Ay cy ly y minus, v8 = .slice Aa n ca ∧ v9 = .slice Ab n cb ∧ v10 = .slice Ax lx cx ∧ v11 = .slice Ay ly cy ∧ v12 = .bool minus ∧
    Aside0 (Num wr Aa ca (digs n a) ∧ Num wr Ab cb (digs n k) ∧ Num wr Ax cx (lw x) ∧ Num wr Ay cy (lw y)) ∧ Aside0 (lx = (lw x).length ∧ ly = (lw y).length) ∧ Aside0 (UI e M a k x y minus) ∧ Aside0 (Below w.heap.size w wr))
  case atStart => exact ⟨A2, c2, M, A3, c3, _, 1, 1, 0, _, 1, 1, 1, false, rfl, rfl, rfl, rfl, rfl, ⟨HS.out.1, HS.out.2.1, HS.out.2.2.1, HS.out.2.2.2.1⟩, ⟨rfl, HS.out.2.2.2.2.1⟩, HU, ⟨HS.out.2.2.2.2.2⟩⟩
  case round =>
    clear HS HU
    obtain ⟨Aa, ca, a, Ab, cb, Ax, cx, lx, x, Ay, cy, ly, y, minus, rfl, rfl, rfl, rfl, rfl, HNN, HLL, HU, HB⟩ := hrel
    have haM := HU.out.le
    have hkM := HU.out.bounds.1
    have hkn : gk < 18446744073709551616 ^ n := Nat.lt_of_le_of_lt hkM HN.out.2.2.1
    have han : a < 18446744073709551616 ^ n := Nat.lt_of_le_of_lt haM HN.out.2.2.1
    have HBt := Aside0.mk (bitsN Ab cb (digs n gk) wr HNN.out.2.1 (by simp; omega))
    simp only [digs_length, val_digs_lt hkn] at HBt
    by_cases h0 : gk = 0
    · subst h0
      have t1 : decide ((bl 0 : Int) > 0) = false := by decide
      have t1' : decide (0 < bl 0) = false := by decide
      obtain ⟨ha1, hres⟩ := HU.out.last
      subst ha1
      have hF := HF.out
      rw [hres] at hF
      have HF2 := Aside0.mk hF
      have hx : x < 18446744073709551616 ^ n := Nat.lt_of_le_of_lt HU.out.xle HN.out.2.2.1
      have hlx := lw_le2 hnn.out.1 hx
      have hxm : x % M < M := Nat.mod_lt _ (by have := HN.out.2.1; omega)
      have HC := Aside0.mk (fun W A c (h1 : Num W Aa ca (digs n 1)) (h2 : Num W A c [1]) => compareN Aa A ca c (digs n 1) [1] W h1 h2 (by simp; omega) (by simp))
      simp only [digs_length, val_digs_lt han, val_one, List.length_singleton, show cmpI 1 1 = 0 from rfl] at HC
      have HQx := Aside0.mk (fun W (h1 : Num W Ax cx (lw x)) (h2 : Num W A2 c2 (digs n M)) => quickN Ax A2 cx c2 (lw x) (digs n M) W h1 h2 (by rw [lw_len]; omega) (by omega) (by simp; omega) (by rw [val_digs_lt HN.out.2.2.1]; have := HN.out.2.1; omega) (by rw [val_digs_lt HN.out.2.2.1]; exact HN.out.2.2.2 _ HN.out.2.2.1))
      simp only [digs_length, val_digs_lt HN.out.2.2.1, lw_val, ← HLL.out.1] at HQx
      have HXM := Aside0.mk hxm
      clear hF hx hlx hxm hres hkM hkn haM han HU HF
      go_wp2_with fail
      refine HBt.out.mono ?_
      rintro e2 w' ⟨rfl, rfl⟩
      have hb1 := below_alloc (Below.refl _ w') (.cells #[.int .u64 1] 23)
      have H1 := Aside0.mk (And.intro (HNN.out.1.below hb1) (And.intro (show Num (w'.alloc (.cells #[.int .u64 1] 23)) (some ⟨w'.heap.size, 0, none⟩) 1 [1] from num_of_blk (l := [1]) (heap_alloc_new _ _) (W64_one (by omega)) (by simp) (by simp)) (And.intro (HNN.out.2.2.1.below hb1) (And.intro ((HN.out.1.below HB.out).below hb1) (HB.out.trans (hb1.mono HB.out.size))))))
      clear hb1
      go_wp2_with fail
      refine (HC.out _ _ _ H1.out.1 H1.out.2.1).mono ?_
      rintro e2 w3 ⟨rfl, rfl⟩
      go_wp2_with fail
      refine (mustK _).mono ?_
      rintro e2 w3 ⟨rfl, rfl⟩
      go_wp2_with fail
      refine (HQx.out _ H1.out.2.2.1 H1.out.2.2.2.1).mono ?_
      rintro e2 w4 ⟨v3, v4, rfl, hr3, hr4⟩
      obtain ⟨A4, c4, rfl, hn4⟩ := hr4.num
      rw [digs_length]
      have H4 := Aside0.mk (And.intro (H1.out.2.2.2.1.below hr4.bel) (And.intro (H1.out.2.2.2.2.trans (hr4.bel.mono H1.out.2.2.2.2.size)) (And.intro hn4 (hr4.later H1.out.2.2.2.2))))
      rw [digs_length] at H4
      clear hr3 hr4 hn4
      cases minus
      · have hs := sub0 A2 A4 c2 c4 (digs n M) (digs n (x % M)) n w4 H4.out.1 H4.out.2.2.1 (by simp) (by have := hnn.out; omega)
        simp only [digs_length, val_digs_lt HN.out.2.2.1, val_digs_lt (Nat.lt_trans HXM.out HN.out.2.2.1)] at hs
        rw [if_neg (Nat.not_lt.2 (Nat.le_of_lt HXM.out))] at hs
        have hd : digs n (M + 18446744073709551616 ^ n - x % M) = digs n (M - x % M) := by
          refine val_inj (digs_w _ _) (digs_w _ _) (by simp) ?_
          rw [val_digs, val_digs, Nat.sub_add_comm (Nat.le_of_lt HXM.out), Nat.add_mod_right]
        rw [hd] at hs
        have HS := Aside0.mk hs
        have hres2 : res = (M - x % M) % M := HF2.out
        have HE := Aside0.mk (And.intro hres2 (show M - x % M < 18446744073709551616 ^ n from Nat.lt_of_le_of_lt (Nat.sub_le _ _) HN.out.2.2.1))
        clear hs hd hres2
        go_wp2_with fail
        refine HS.out.mono ?_
        rintro e2 w5 ⟨v5, rfl, hr5⟩
        obtain ⟨A5, c5, rfl, hn5⟩ := hr5.num
        rw [digs_length]
        have HQ := Aside0.mk (quickN A5 A2 c5 c2 (digs n (M - x % M)) (digs n M) w5 hn5 (H4.out.1.below hr5.bel) (by have := hnn.out; simp; omega) (by have := hnn.out; simp; omega) (by have := hnn.out; simp; omega) (by rw [val_digs_lt HN.out.2.2.1]; have := HN.out.2.1; omega) (by rw [val_digs_lt HN.out.2.2.1]; exact HN.out.2.2.2 _ HN.out.2.2.1))
        simp only [digs_length, val_digs_lt HN.out.2.2.1, val_digs_lt HE.out.2] at HQ
        have HB5 := Aside0.mk (H4.out.2.1.trans (hr5.bel.mono H4.out.2.1.size))
        rw [← HE.out.1] at HQ
        clear hr5 hn5
        go_wp2_with fail
        refine HQ.out.mono ?_
        rintro e2 w6 ⟨v6, v7, rfl, hr6, hr7⟩
        have HR := Aside0.mk (hr7.later HB5.out)
        clear hr6 hr7
        go_wp2_with fail
        go_ret
        exact ⟨v7, rfl, HR.out⟩
      · have hres2 : res = x % M := HF2.out
        have HR := Aside0.mk H4.out.2.2.2
        rw [← hres2] at HR
        clear hres2
        go_wp2_with fail
        go_ret
        exact ⟨_, rfl, HR.out⟩
    · have t1 : decide ((bl gk : Int) > 0) = true := bl_pos_ h0
      have t1' : decide (0 < bl gk) = true := decide_eq_true (bl_pos.2 h0)
      have HQ := Aside0.mk (quickN Aa Ab ca cb (digs n a) (digs n gk) wr HNN.out.1 HNN.out.2.1 (by simp; omega) (by simp; omega) (by simp; omega) (by rw [val_digs_lt hkn]; exact h0) (by rw [val_digs_lt hkn]; exact HN.out.2.2.2 _ hkn))
      simp only [digs_length, val_digs_lt hkn, val_digs_lt han] at HQ
      have hxM := HU.out.xle
      have hyM := HU.out.bounds.2
      have HU' := Aside0.mk (HU.out.step h0)
      have hnew := HU'.out.bounds.2
      have hq : a / gk < 18446744073709551616 ^ n := Nat.lt_of_le_of_lt (Nat.div_le_self _ _) han
      have HLT := Aside0.mk (And.intro (Nat.mod_lt a (Nat.pos_of_ne_zero h0)) (And.intro hq (And.intro (Nat.lt_of_le_of_lt hxM HN.out.2.2.1) (And.intro (Nat.lt_of_le_of_lt hyM HN.out.2.2.1) hnew))))
      clear h0 haM hkM hkn han hxM hyM hnew hq
      go_wp2_with fail
      refine HBt.out.mono ?_
      rintro e2 w' ⟨rfl, rfl⟩
      go_wp2_with fail
      refine HQ.out.mono ?_
      rintro e2 w2 ⟨v1, v2, rfl, hr1, hr2⟩
      obtain ⟨Aq, cq, rfl, hnq⟩ := hr1.num
      obtain ⟨Ar, cr, rfl, hnr⟩ := hr2.num
      rw [digs_length, digs_length]
      have HB2 := Aside0.mk (And.intro hr2.bel (And.intro hnq (And.intro hnr (And.intro (HNN.out.2.1.below hr2.bel) (And.intro (HNN.out.2.2.1.below hr2.bel) (HNN.out.2.2.2.below hr2.bel))))))
      obtain ⟨q, hq⟩ : ∃ q, q = a / gk := ⟨_, rfl⟩
      rw [← hq] at HB2 HLT HU'
      have HBel := Aside0.mk (HB.out.trans (hr2.bel.mono HB.out.size))
      clear hr1 hr2 hnq hnr hq HQ HBt HNN HB
      have HM := Aside0.mk (mulN Aq Ay cq cy (digs n q) (lw y) w2 HB2.out.2.1 HB2.out.2.2.2.2.2 (by simp; omega) (by rw [← HLL.out.2]; have := lw_le2 hnn.out.1 HLT.out.2.2.2.1; rw [← HLL.out.2] at this; omega))
      simp only [digs_length, val_digs_lt HLT.out.2.1, lw_val, ← HLL.out.2] at HM
      go_wp2_with fail
      have hly := lw_le2 hnn.out.1 HLT.out.2.2.2.1
      have hlx := lw_le2 hnn.out.1 HLT.out.2.2.1
      rw [← HLL.out.2] at hly
      rw [← HLL.out.1] at hlx
      have hqy : q * y < 18446744073709551616 ^ (n + ly) := by
        rw [Nat.pow_add]
        refine Nat.mul_lt_mul'' HLT.out.2.1 ?_
        rw [HLL.out.2]
        exact lw_lt y
      have HQY := Aside0.mk hqy
      have HLE := Aside0.mk (And.intro hlx hly)
      have hnn' := hnn.out
      clear hlx hly hqy
      refine HM.out.mono ?_
      rintro e2 w3 ⟨v3, rfl, hr3⟩
      obtain ⟨A3', c3', rfl, hn3⟩ := hr3.num
      rw [digs_length]
      have HL3 := Aside0.mk (leastL A3' c3' (n + ly) _ w3 hn3 (by simp) (by omega) (by have := HLE.out; omega))
      rw [val_digs_lt HQY.out] at HL3
      have HX3 := Aside0.mk (And.intro (HB2.out.2.2.2.2.1.below hr3.bel) (And.intro (HB2.out.2.2.1.below hr3.bel) (And.intro (HB2.out.2.2.2.1.below hr3.bel) (And.intro (HB2.out.2.2.2.2.2.below hr3.bel) (HBel.out.trans (hr3.bel.mono HBel.out.size))))))
      clear hr3 hn3 HM HB2 HBel hnn'
      go_wp2_with fail
      refine HL3.out.mono ?_
      rintro e2 w4 ⟨v4, rfl, hr4⟩
      obtain ⟨A4, c4, rfl, hn4⟩ := hr4.num
      have HX4 := Aside0.mk (And.intro (HX3.out.1.below hr4.bel) (And.intro (HX3.out.2.1.below hr4.bel) (And.intro (HX3.out.2.2.1.below hr4.bel) (And.intro (HX3.out.2.2.2.1.below hr4.bel) (HX3.out.2.2.2.2.trans (hr4.bel.mono HX3.out.2.2.2.2.size))))))
      obtain ⟨N, hN⟩ : ∃ N, N = max (lw x).length (lw (q * y)).length := ⟨_, rfl⟩
      have hNl : N ≤ 100 := by
        have h1 := HLE.out
        have h2 := hnn.out
        have h3 := lw_le2 (N := q * y) (n := n + ly) (by omega) HQY.out
        have h4 := HLL.out.1
        omega
      have HA := Aside0.mk (add0 Ax A4 cx c4 (lw x) (lw (q * y)) N w4 HX4.out.1 hn4 hN (by omega))
      simp only [lw_val, ← HLL.out.1] at HA
      have hsum : x + q * y < 18446744073709551616 ^ (N + 1) := by
        have h1 := lw_lt x
        have h2 := lw_lt (q * y)
        have h3 : 18446744073709551616 ^ (lw x).length ≤ 18446744073709551616 ^ N := Nat.pow_le_pow_right (by omega) (by omega)
        have h4 : 18446744073709551616 ^ (lw (q * y)).length ≤ 18446744073709551616 ^ N := Nat.pow_le_pow_right (by omega) (by omega)
        rw [Nat.pow_succ]
        generalize 18446744073709551616 ^ N = z at *
        generalize 18446744073709551616 ^ (lw x).length = z1 at *
        generalize 18446744073709551616 ^ (lw (q * y)).length = z2 at *
        generalize q * y = z3 at *
        omega
      have HNN := Aside0.mk (And.intro hNl hsum)
      clear hr4 hn4 HL3 HX3 hN hNl hsum
      obtain ⟨sm, hsm⟩ : ∃ sm, sm = x + q * y := ⟨_, rfl⟩
      rw [← hsm] at HA HNN HU' HLT
      clear hsm
      obtain ⟨cy', hcy'⟩ : ∃ cy', cy' = sm / 18446744073709551616 ^ N := ⟨_, rfl⟩
      rw [← hcy'] at HA
      have HCY := Aside0.mk hcy'
      clear hcy'
      go_wp2_with fail
      refine HA.out.mono ?_
      rintro e2 w5 ⟨v5, rfl, hr5⟩
      obtain ⟨A5, c5, rfl, hn5⟩ := hr5.num
      rw [digs_length]
      have hb1 := below_alloc (Below.refl w5.heap.size w5) (.cells #[.int .u64 (cy' : Int)] 23)
      have hds := digs_snoc N sm HNN.out.2
      rw [← HCY.out] at hds
      have hcw : cy' < 18446744073709551616 := by
        have h := digs_w (N + 1) sm
        rw [← hds] at h
        exact h cy' (by simp)
      have HO := Aside0.mk (show (w5.alloc (.cells #[.int .u64 (cy' : Int)] 23)).ownsRow w4.heap.size 23 1 (.slice A5 N c5) (nz (digs N sm)).length (nums .u64 (nz (digs N sm))) by
        have h := own_alloc hr5.own (.cells #[.int .u64 (cy' : Int)] 23)
        rw [nz_length]
        rw [digs_length] at h ⊢
        exact h)
      have HRD := Aside0.mk (show ReadsInt (w5.alloc (.cells #[.int .u64 (cy' : Int)] 23)) .u64 (some ⟨w5.heap.size, 0, none⟩) 1 (nz [cy']) from (num_of_blk (l := [cy']) (c := 1) (heap_alloc_new w5 _) (W64_one hcw) (by simp) (by simp)).rd)
      have HB6 := Aside0.mk (hr5.bel.trans (hb1.mono hr5.bel.size))
      have HSZ := Aside0.mk HB6.out.size
      have HLN := Aside0.mk (show ((nz (digs N sm)).length + 1) * 8 ≤ 140737488355328 by have := HNN.out.1; simp; omega)
      have HDS := Aside0.mk hds
      clear hr5 hn5 hb1 hds hcw HA
      go_wp2_with (at_builtin; refine print_append_row (w0 := w4) w4.heap.size rfl (.tmp 49) (.tmp 51) 26 23 .u64 8 rfl Tryz.underlying26 info23' (by decide) (.slice A5 N c5) (nz (digs N sm)) (nz [cy']) (some ⟨w5.heap.size, 0, none⟩) 1 1 rfl rfl HO.out HRD.out HB6.out HSZ.out HLN.out ?_; rintro v2 w6 ho hb _ _; have HR2 := Aside0.mk ho; have HB7 := Aside0.mk hb; clear ho hb)
      have h3 : w6.ownsRow w4.heap.size 23 1 v2 (digs (N + 1) sm).length (nums .u64 (nz (digs (N + 1) sm))) := by
        have h := HR2.out
        rw [← nz_append, HDS.out, nz_length] at h
        exact h
      obtain ⟨A6, c6, rfl⟩ := own_slice h3
      obtain ⟨_, hn6⟩ := own_num h3 (digs_w (N + 1) sm)
      have HL6 := Aside0.mk (leastL A6 c6 (N + 1) _ w6 hn6 (by simp) (by omega) (by have := HNN.out.1; omega))
      rw [val_digs_lt HNN.out.2] at HL6
      have HX6 := Aside0.mk (And.intro (HX4.out.2.1.below HB7.out) (And.intro (HX4.out.2.2.1.below HB7.out) (And.intro (HX4.out.2.2.2.1.below HB7.out) (HX4.out.2.2.2.2.trans (HB7.out.mono HX4.out.2.2.2.2.size)))))
      rw [digs_length]
      clear h3 hn6 HX4 HO HRD HB6 HSZ HLN HR2 HB7
      refine HL6.out.mono ?_
      rintro e2 w7 ⟨v7, rfl, hr7⟩
      obtain ⟨A7, c7, rfl, hn7⟩ := hr7.num
      have HX7 := Aside0.mk (And.intro (HX6.out.1.below hr7.bel) (And.intro (HX6.out.2.1.below hr7.bel) (And.intro (HX6.out.2.2.1.below hr7.bel) (And.intro hn7 (HX6.out.2.2.2.trans (hr7.bel.mono HX6.out.2.2.2.size))))))
      clear hr7 hn7 HX6
      go_wp2_with fail
      go_roundg (a % gk)
      case rel => exact ⟨Ab, cb, gk, Ar, cr, Ay, cy, ly, y, A7, c7, _, sm, !minus, rfl, rfl, rfl, rfl, rfl, ⟨HX7.out.2.1, HX7.out.1, HX7.out.2.2.1, HX7.out.2.2.2.1⟩, ⟨HLL.out.2, rfl⟩, HU', ⟨HX7.out.2.2.2.2⟩⟩
      case measure => exact HLT.out.1
end Go.Proofs.YtjpibgehhgaopaaGreat.Top
/- key's modulo, Public, by one word. -/
namespace Go.Proofs.YtjpibgehhgaopaaGreat.Top
open Go.RowKit Go.Proofs.YtjpibgehhgaopaaGreatW.PrintWords Go.Proofs.YtjpibgehhgaopaaGreatW.PrintLast Go.Proofs.YtjpibgehhgaopaaGreat.PTopGenerated
set_option linter.unusedVariables false
set_option linter.unusedSimpArgs false

set_option maxRecDepth 100000 in
theorem modulo1 (A A2 : Option Addr) (c c2 n X p : Nat) (w : World) (h1 : Num w A c (digs n X)) (hn1 : 1 ≤ n) (hn2 : n ≤ 100) (hX : X < 18446744073709551616 ^ n) (h2 : Num w A2 c2 [p]) (hp : 2 ≤ p) :
    Calls Tryz.prog 82 #[.slice A n c, .slice A2 1 c2, .int .i64 1] w fun e w' => ∃ v, e = .returned v ∧ Res w w' v [X % (p - 1)] := by
  have hpw := h2.w64 p (by simp)
  have HB := Aside0.mk (before1 A2 c2 p w h2 (by omega))
  have hr : X % (p - 1) < 18446744073709551616 := Nat.lt_trans (Nat.mod_lt _ (by omega)) (by omega)
  have HQ := Aside0.mk (fun W B d (h1 : Num W A c (digs n X)) (h2 : Num W B d [p - 1]) => quickN A B c d (digs n X) [p - 1] W h1 h2 (by simp; omega) (by simp; omega) (by simp) (by rw [val_one]; omega) (by rw [val_one]; have := wl_one_le (show p - 1 < 18446744073709551616 by omega); omega))
  simp only [digs_length, val_digs_lt hX, val_one, List.length_singleton] at HQ
  rw [digs_one hr] at HQ
  have HR := Aside0.mk (fun W B d (h : Num W B d [X % (p - 1)]) => resizeN B d [X % (p - 1)] 1 W h (by rw [val_one]; exact wl_one_le hr) (by omega))
  simp only [val_one, List.length_singleton] at HR
  rw [digs_one hr] at HR
  generalize X % (p - 1) = r at *
  generalize p - 1 = pp at *
  have HN := Aside0.mk h1
  clear h1 h2 hX hp hpw hr
  go_enter Tryz.func82, Tryz.ntmps82
  go_wp2_with fail
  refine HB.out.mono ?_
  rintro e w1 ⟨v1, rfl, hr1⟩
  obtain ⟨A1, c1, rfl, hn1⟩ := hr1.num
  have H1 := Aside0.mk (And.intro hr1.bel (And.intro hn1 (HN.out.below hr1.bel)))
  clear hr1 hn1
  go_wp2_with fail
  refine (HQ.out _ _ _ H1.out.2.2 H1.out.2.1).mono ?_
  rintro e w2 ⟨v2, v3, rfl, hr2, hr3⟩
  obtain ⟨A3, c3, rfl, hn3⟩ := hr3.num
  have H2 := Aside0.mk (And.intro (H1.out.1.trans (hr3.bel.mono H1.out.1.size)) hn3)
  clear hr2 hr3 hn3
  go_wp2_with fail
  refine (HR.out _ _ _ H2.out.2).mono ?_
  rintro e w3 ⟨v4, rfl, hr4⟩
  have H3 := Aside0.mk (hr4.later H2.out.1)
  clear hr4
  go_wp2_with fail
  go_ret
  exact ⟨v4, rfl, H3.out⟩
theorem shr32 {e : Nat} (he : e < 4294967296) : (e : Int) / 4294967296 = 0 := by omega
set_option maxRecDepth 100000 in
set_option maxHeartbeats 1000000 in
theorem publicN (A : Option Addr) (c : Nat) (a : List Nat) (e : Nat) (w : World) (h : Num w A c a) (h1 : 1 ≤ a.length) (hl : a.length ≤ 100) (htop : a.getD (a.length - 1) 0 ≠ 0) (hodd : a.getD 0 0 % 2 = 1) (hb1 : 32 ≤ bl (val a)) (hb2 : bl (val a) ≤ 8192) (he3 : 3 ≤ e) (heo : e % 2 = 1) (he : e < 4294967296) :
    Calls Tryz.prog 78 #[.slice A a.length c, .int .u64 (e : Int)] w fun x w' => x = .returned (.int .i64 0) ∧ w' = w := by
  have HB := Aside0.mk (bitsN A c a w h (by omega))
  obtain ⟨k, hk⟩ : ∃ k, a.length = k + 1 := ⟨a.length - 1, by omega⟩
  obtain ⟨ad, rfl, hc0⟩ := h.at_ 0 (by omega)
  obtain ⟨ad', e', hck⟩ := h.at_ k (by omega)
  injection e' with e'
  subst e'
  have hk1 : k ≤ 99 := by omega
  rw [hk] at htop
  rw [show k + 1 - 1 = k from rfl] at htop
  have ha0 := and_oneN (a.getD 0 0) (getD_w h.w64 0)
  rw [hodd] at ha0
  have hae := and_oneN e (by omega)
  rw [heo] at hae
  rw [hk] at HB ⊢
  have t1 : decide (((bl (val a) : Nat) : Int) < 32) = false := by rw [decide_eq_false_iff_not]; omega
  have t2 : decide (((bl (val a) : Nat) : Int) > 8192) = false := by rw [decide_eq_false_iff_not]; omega
  have t3 : decide ((e : Int) < 3) = false := by rw [decide_eq_false_iff_not]; omega
  have t4 : (((a.getD k 0 : Nat) : Int) == 0) = false := by simp; exact htop
  have t5 := shr32 he
  have hadd : ad.add 0 = ad := rfl
  rw [hadd] at hc0
  generalize a.getD 0 0 = x0 at *
  generalize a.getD k 0 = xk at *
  generalize bl (val a) = bb at *
  clear hb1 hb2 htop hodd heo h hk hadd he3
  go_enter Tryz.func78, Tryz.ntmps78
  have wk : wrap64 ((k : Int) + 1 - 1) = (k : Int) := (wrap64_id (by omega) (by omega)).trans (by omega)
  have wk' : wrap64 (((k + 1 : Nat) : Int) - 1) = (k : Int) := (wrap64_id (by omega) (by omega)).trans (by omega)
  have wk3 : wrap64 (k : Int) = (k : Int) := wrap64_nat (by omega)
  have bk : (k : Int) < (k : Int) + 1 := by omega
  have b0 : (0 : Int) < (k : Int) + 1 := by omega
  have tz : (((k + 1 : Nat) : Int) == 0) = false := by simp; omega
  have tz' : (((k : Int) + 1) == 0) = false := by simp; omega
  go_wp2_with fail
  refine HB.out.mono ?_
  rintro x w' ⟨rfl, rfl⟩
  go_wp2_with fail
  go_ret
  exact ⟨rfl, rfl⟩
end Go.Proofs.YtjpibgehhgaopaaGreat.Top
