/- product's Quick, by one word or two. -/
import Derived.Test.YtjpibgehhgaopaaGreatThF
import Derived.Deep.LoopGhost
namespace Go.Proofs.YtjpibgehhgaopaaGreat.Top
open Go.RowKit Go.Proofs.YtjpibgehhgaopaaGreatW.PrintWords Go.Proofs.YtjpibgehhgaopaaGreatW.PrintLast Go.Proofs.YtjpibgehhgaopaaGreat.PTopGenerated
set_option linter.unusedVariables false
set_option linter.unusedSimpArgs false

theorem top_two (m : List Nat) (hw : W64 m) (h : wl (val m) = 2) : 2 ≤ m.length ∧ (m.take 2).getD 1 0 ≠ 0 ∧ val (m.take 2) = val m ∧ (m.take 2).length = 2 := by
  obtain ⟨a, b⟩ := top_word m hw (by omega)
  rw [h] at a b
  have c := (val_take_wl m hw).1
  rw [h] at c
  refine ⟨a, ?_, c, by simp; omega⟩
  intro e
  rw [show (m.take 2).getD 1 0 = m.getD 1 0 by simp [List.getD, List.getElem?_take]] at e
  simp only [show 2 - 1 = 1 from rfl] at b
  rw [e, bl_zero] at b
  unfold wl at h
  omega
set_option maxHeartbeats 2000000 in
set_option maxRecDepth 100000 in
theorem quick2_1 (p q : Nat) (A A2 : Option Addr) (c c2 : Nat) (a m : List Nat) (w : World) (ha : Num w A c a) (hm : Num w A2 c2 m) (hla1 : 1 ≤ a.length) (hla : a.length ≤ 300) (hlm : m.length ≤ 300) (h1 : wl (val m) = 2)
    (hp : w.cell? ⟨p, 0, none⟩ = some (.slice A a.length c)) (hq : w.cell? ⟨q, 0, none⟩ = some (.slice A2 m.length c2)) :
    Calls Tryz.prog 132 #[.pointer (some ⟨p, 0, none⟩), .pointer (some ⟨q, 0, none⟩)] w fun e w' => ∃ v1 v2, e = .returned (.tuple #[v1, v2]) ∧ Res w w' v1 (digs a.length (val a / val m)) ∧ Res w w' v2 (digs m.length (val a % val m)) := by
  obtain ⟨t1, t2, t3, t4⟩ := top_two m hm.w64 h1
  have h0 : val m ≠ 0 := by
    intro e
    rw [e] at h1
    revert h1
    decide
  have HA := Aside0.mk (And.intro ha (And.intro hm (And.intro hp hq)))
  have hbl : bl (val m) ≤ 128 ∧ 65 ≤ bl (val m) := by unfold wl at h1; omega
  have hb : wrap64 (((bl (val m) : Nat) : Int) + 63) = ((bl (val m) + 63 : Nat) : Int) := wrap64_id (by omega) (by omega)
  have hw1 : ((bl (val m) + 63 : Nat) : Int) / 64 = 2 := by omega
  have mk1 := makeR a.length (by omega)
  have mk2 := makeR m.length (by omega)
  have ask := askedN A A2 c c2 a m w hla hm hlm h0
  have HB := Aside0.mk (bitsN A2 c2 m)
  obtain ⟨lm, hlm2⟩ : ∃ lm, m.length = lm + 2 := ⟨m.length - 2, by omega⟩
  have HLng := Aside0.mk (fun (gq gr : Nat) (w0 W : World) hF (ha : Num w0 A c a) (hm : Num w0 A2 c2 (m.take 2)) => long2N gq gr A A2 c c2 lm a.length a (m.take 2) w0 W hF ha hm t4 t2 rfl hla1 hla (by omega))
  rw [t3] at HLng
  have HTk := Aside0.mk (fun (W : World) (h : Num W A2 c2 m) => h.take 2 t1)
  have hcap := hm.cap
  obtain ⟨bm, hbm⟩ : ∃ bm, bm = bl (val m) := ⟨_, rfl⟩
  rw [← hbm] at hb hw1 HB
  have HLM := Aside0.mk hlm2
  have b1 : (2 : Int) ≤ (c2 : Int) := by omega
  have ll : (2 : Nat) ≤ c2 := by omega
  clear ha hm h1 hbm hbl t1 t2 t3 t4 h0 hlm2 hcap
  go_enter Tryz.func132, Tryz.ntmps132
  go_wp2_with fail
  refine ask.mono ?_
  rintro e w1 ⟨rfl, hb1⟩
  have HB1 := Aside0.mk hb1
  have hp1 := pw_cell_below hb1 hp
  have hq1 := pw_cell_below hb1 hq
  clear hp hq hb1
  go_wp2_with fail
  refine (HB.out w1 (HA.out.2.1.below HB1.out) (by omega)).mono ?_
  rintro e w' ⟨rfl, rfl⟩
  have n1 := World.new_ne _ _ hp1
  have n2 := World.new_ne _ _ hq1
  go_upto_region 3 with (fail)
  go_cut [5, 6] (fun v5 v6 wc => ∃ gq gr, v5 = .slice (some ⟨gq, 0, none⟩) a.length a.length ∧ v6 = .slice (some ⟨gr, 0, none⟩) m.length m.length ∧ Aside0 (Fr w' wc [(gq, rowO (List.replicate a.length 0)), (gr, rowO (List.replicate m.length 0))] ∧ wc.cell? ⟨p, 0, none⟩ = some (.slice A a.length c) ∧ wc.cell? ⟨q, 0, none⟩ = some (.slice A2 m.length c2)))
  case first =>
    go_region_held3 (fun W => W.cell? ⟨p, 0, none⟩ = some (.slice A a.length c) ∧ W.cell? ⟨q, 0, none⟩ = some (.slice A2 m.length c2)) (go_keep) (fail)
    all_goals go_wp2_with fail
    all_goals go_meet
    all_goals first
      | exact ⟨_, _, rfl, rfl, ⟨Fr.two _ _ _, (by assumption : _ ∧ _)⟩⟩
      | exact ⟨_, _, rfl, rfl, ⟨(Fr.two _ _ _).swap, (by assumption : _ ∧ _)⟩⟩
  case rest =>
    obtain ⟨gq, gr, rfl, rfl, HF⟩ := hcut
    have HFr := Aside0.mk HF.out.1
    have t1 : ((((bm + 63 : Nat) : Int) / 64) == 1) = false := by rw [hw1]; rfl
    have t1' : ((((bm : Int) + 63) / 64) == 1) = false := by have := hw1; simp; omega
    have hw2 : (((bm : Int) + 63) / 64) = 2 := by have := hw1; omega
    have hp2 := HF.out.2.1
    have hq2 := HF.out.2.2
    have HMn := Aside0.mk (And.intro (HA.out.1.below HB1.out) (HTk.out _ (HA.out.2.1.below HB1.out)))
    rw [HLM.out] at HFr
    clear ask mk1 mk2 HF hb
    go_wp2_with fail
    go_region_held3 (fun W => W.cell? ⟨p, 0, none⟩ = some (.slice A a.length c) ∧ W.cell? ⟨q, 0, none⟩ = some (.slice A2 m.length c2)) (first | go_keep | exact (by assumption)) (first | (go_at_call 135; rw [HLM.out]; refine (HLng.out gq gr _ _ (HFr.out.drewN _) HMn.out.1 HMn.out.2).mono ?_; rintro e w5 ⟨rfl, hf5⟩; have HF5 := Aside0.mk hf5; have hp5 : w5.cell? ⟨p, 0, none⟩ = some (.slice A a.length c) := pw_cell_below hf5.bel hp1; have hq5 : w5.cell? ⟨q, 0, none⟩ = some (.slice A2 m.length c2) := pw_cell_below hf5.bel hq1; have hk5 := And.intro hp5 hq5; clear hf5))
    all_goals go_wp2_with fail
    all_goals go_ret2
    all_goals
      have r1 := (HF5.out.res 0 rfl (digs_w _ _) (by simp; omega)).later HB1.out
      have r2 := (HF5.out.res 1 rfl (digs_w _ _) (by simp; have := HLM.out; omega)).later HB1.out
      rw [digs_length] at r1 r2
      rw [HLM.out]
      exact ⟨_, _, rfl, r1, r2⟩
/-- Quick, by a number of one word or two. -/
theorem quickN (A A2 : Option Addr) (c c2 : Nat) (a m : List Nat) (w : World) (ha : Num w A c a) (hm : Num w A2 c2 m) (hla1 : 1 ≤ a.length) (hla : a.length ≤ 300) (hlm : m.length ≤ 300) (h0 : val m ≠ 0) (h2 : wl (val m) ≤ 2) :
    Calls Tryz.prog 81 #[.slice A a.length c, .slice A2 m.length c2] w fun e w' => ∃ v1 v2, e = .returned (.tuple #[v1, v2, .int .i64 0]) ∧ Res w w' v1 (digs a.length (val a / val m)) ∧ Res w w' v2 (digs m.length (val a % val m)) := by
  have h1 : wl (val m) ≠ 0 := by
    intro e
    have := lt_wl (val m)
    rw [e] at this
    simp at this
    exact h0 this
  rcases (show wl (val m) = 1 ∨ wl (val m) = 2 by omega) with h | h
  · exact quick1 A A2 c c2 a m w ha hm hla hlm h0 h
  · exact quick_of A A2 c c2 a m w ha hm _ _ fun p q W h1 h2 h3 h4 => quick2_1 p q A A2 c c2 a m W h1 h2 hla1 hla hlm h h3 h4
end Go.Proofs.YtjpibgehhgaopaaGreat.Top
/- inverse's Divisor, Coprime, by one word; key's least, before. -/
namespace Go.Proofs.YtjpibgehhgaopaaGreat.Top
open Go.RowKit Go.Proofs.YtjpibgehhgaopaaGreatW.PrintWords Go.Proofs.YtjpibgehhgaopaaGreatW.PrintLast Go.Proofs.YtjpibgehhgaopaaGreat.PTopGenerated
set_option linter.unusedVariables false
set_option linter.unusedSimpArgs false

theorem wl_one_le {x : Nat} (h : x < 18446744073709551616) : wl x ≤ 1 := wl_le (by rw [Nat.pow_one]; exact h)
theorem bl_pos_ {x : Nat} (h : x ≠ 0) : decide ((bl x : Int) > 0) = true := by
  rw [decide_eq_true_eq]
  have := bl_pos.2 h
  omega
set_option maxHeartbeats 1000000 in
set_option maxRecDepth 100000 in
theorem divisor1 (A A2 : Option Addr) (c c2 x y : Nat) (w : World) (h1 : Num w A c [x]) (h2 : Num w A2 c2 [y]) :
    Calls Tryz.prog 125 #[.slice A 1 c, .slice A2 1 c2] w fun e w' => ∃ v, e = .returned (.tuple #[v, .int .i64 0]) ∧ Res w w' v [Nat.gcd x y] := by
  have m1 : max (1 : Int) 1 = 1 := by omega
  obtain ⟨g, hg⟩ : ∃ g, g = Nat.gcd x y := ⟨_, rfl⟩
  rw [← hg]
  have HG := Aside0.mk hg
  have H := Aside0.mk (And.intro h1 h2)
  clear h1 h2 hg
  go_enter Tryz.func125, Tryz.ntmps125
  go_wp2_with fail
  go_loopg [0, 1] y (fun k v2 v3 wr => ∃ A c x' A2 c2, v2 = .slice A 1 c ∧ v3 = .slice A2 1 c2 ∧ Aside0 (Num wr A c [x'] ∧ Num wr A2 c2 [k] ∧ g = Nat.gcd x' k) ∧ Aside0 (Below w.heap.size w wr))
  case atStart => exact ⟨A, c, x, A2, c2, rfl, rfl, ⟨H.out.1, H.out.2, HG.out⟩, ⟨Below.refl _ _⟩⟩
  case round =>
    obtain ⟨A, c, x', A2, c2, rfl, rfl, HN, HB⟩ := hrel
    have hx := HN.out.1.w64 x' (by simp)
    have hk := HN.out.2.1.w64 gk (by simp)
    have HBt := Aside0.mk (bitsN A2 c2 [gk] wr HN.out.2.1 (by simp))
    rw [val_one] at HBt
    go_wp2_with fail
    refine HBt.out.mono ?_
    rintro e w' ⟨rfl, rfl⟩
    by_cases h0 : gk = 0
    · have t1 : decide ((bl gk : Int) > 0) = false := by rw [h0]; decide
      have t1' : decide (0 < bl gk) = false := by rw [h0]; decide
      have HR := Aside0.mk (resizeN A c [x'] 1 _ HN.out.1 (by rw [val_one]; exact wl_one_le hx) (by omega))
      rw [val_one, digs_one hx] at HR
      have HE := Aside0.mk (show x' = g by rw [HN.out.2.2, h0, Nat.gcd_zero_right])
      clear h0
      go_wp2_with fail
      refine HR.out.mono ?_
      rintro e w2 ⟨v, rfl, hr⟩
      have HRes := Aside0.mk (hr.later HB.out)
      clear hr
      go_wp2_with fail
      go_ret2
      rw [← HE.out]
      exact ⟨v, rfl, HRes.out⟩
    · have t1 : decide ((bl gk : Int) > 0) = true := bl_pos_ h0
      have t1' : decide (0 < bl gk) = true := decide_eq_true (bl_pos.2 h0)
      have HQ := Aside0.mk (quickN A A2 c c2 [x'] [gk] _ HN.out.1 HN.out.2.1 (by simp) (by simp) (by simp) (by rw [val_one]; exact h0) (by rw [val_one]; have := wl_one_le hk; omega))
      have hm : x' % gk < gk := Nat.mod_lt _ (Nat.pos_of_ne_zero h0)
      simp only [val_one, List.length_singleton] at HQ
      rw [digs_one (Nat.lt_trans hm hk)] at HQ
      have HE := Aside0.mk (And.intro (show g = Nat.gcd gk (x' % gk) by rw [HN.out.2.2, Nat.gcd_comm x', Nat.gcd_rec gk, Nat.gcd_comm]) hm)
      clear h0 hm
      go_wp2_with fail
      refine HQ.out.mono ?_
      rintro e w2 ⟨v1, v2, rfl, hr1, hr2⟩
      obtain ⟨A3, c3, rfl, hn3⟩ := hr2.num
      have HRes := Aside0.mk (And.intro (HN.out.2.1.below hr2.bel) (And.intro hn3 (HB.out.trans (hr2.bel.mono HB.out.size))))
      clear hr1 hr2 hn3
      go_wp2_with fail
      go_roundg (x' % gk)
      case rel => exact ⟨A2, c2, gk, A3, c3, rfl, rfl, ⟨HRes.out.1, HRes.out.2.1, HE.out.1⟩, ⟨HRes.out.2.2⟩⟩
      case measure => exact HE.out.2
theorem bl_one (x : Nat) : (((bl x : Nat) : Int) == 1) = decide (x = 1) := by
  rw [Bool.eq_iff_iff, beq_iff_eq, decide_eq_true_eq]
  constructor
  · intro h
    have hx : x ≠ 0 := by
      intro e
      rw [e, bl_zero] at h
      omega
    obtain ⟨a, b, c⟩ := bl_spec hx
    have e : bl x = 1 := by omega
    rw [e] at b
    omega
  · rintro rfl
    decide
set_option maxRecDepth 100000 in
theorem coprime1 (A A2 : Option Addr) (c c2 x y : Nat) (w : World) (h1 : Num w A c [x]) (h2 : Num w A2 c2 [y]) :
    Calls Tryz.prog 76 #[.slice A 1 c, .slice A2 1 c2] w fun e w' => e = .returned (.bool (decide (Nat.gcd x y = 1))) ∧ Below w.heap.size w w' := by
  have HD := Aside0.mk (divisor1 A A2 c c2 x y w h1 h2)
  obtain ⟨g, hg⟩ : ∃ g, g = Nat.gcd x y := ⟨_, rfl⟩
  simp only [← hg] at HD ⊢
  have tb := bl_one g
  generalize decide (g = 1) = p at *
  clear h1 h2 hg
  go_enter Tryz.func76, Tryz.ntmps76
  go_wp2_with fail
  refine HD.out.mono ?_
  rintro e w2 ⟨v, rfl, hr⟩
  obtain ⟨A3, c3, rfl, hn3⟩ := hr.num
  have HRes := Aside0.mk hr.bel
  have HBt := Aside0.mk (bitsN A3 c3 [g] w2 hn3 (by simp))
  rw [val_one] at HBt
  clear hr hn3
  go_wp2_with fail
  refine HBt.out.mono ?_
  rintro e w' ⟨rfl, rfl⟩
  go_wp2_with fail
  go_ret
  exact ⟨rfl, HRes.out⟩
/-! ### key's least, before -/
theorem max_le_len {a : List Nat} (ha : W64 a) (h1 : 1 ≤ a.length) : max 1 (wl (val a)) ≤ a.length := by
  have := (val_take_wl a ha).2
  omega
theorem least_stop {a : List Nat} {n : Nat} (ha : W64 a) (h1 : 1 ≤ n) (hn : n ≤ a.length) (hz : ∀ i, n ≤ i → a.getD i 0 = 0) (hs : n = 1 ∨ a.getD (n - 1) 0 ≠ 0) : n = max 1 (wl (val a)) ∧ a.take n = digs (max 1 (wl (val a))) (val a) := by
  have hv := val_upto a n hn hz
  have e : n = max 1 (wl (val a)) := by
    rcases hs with h | h
    · have : wl (val a) ≤ n := wl_le (by
        have hl := val_lt (a.take n) (W64_take ha n)
        rw [List.length_take, Nat.min_eq_left hn] at hl
        rw [hv]; exact hl)
      omega
    · have := (pow_top a (n - 1) ha (by omega) (fun i hi => hz i (by omega)) h).1
      omega
  refine ⟨e, ?_⟩
  rw [← e]
  have hd := digs_val (a.take n) (W64_take ha n)
  rw [List.length_take, Nat.min_eq_left hn, ← hv] at hd
  exact hd.symm
set_option maxHeartbeats 1000000 in
set_option maxRecDepth 100000 in
theorem leastK (A : Option Addr) (c : Nat) (a : List Nat) (w : World) (h : Num w A c a) (h1 : 1 ≤ a.length) (hl : a.length ≤ 1000) :
    Calls Tryz.prog 75 #[.slice A a.length c] w fun e w' => ∃ v, e = .returned v ∧ Res w w' v (digs (max 1 (wl (val a))) (val a)) := by
  have H := Aside0.mk (And.intro h h1)
  have hcap := h.cap
  obtain ⟨la, hla⟩ : ∃ la, la = a.length := ⟨_, rfl⟩
  rw [← hla] at hl hcap ⊢
  have HL := Aside0.mk hla
  clear h h1 hla
  go_enter Tryz.func75, Tryz.ntmps75
  go_wp2_with fail
  go_loopw [3] (fun v3 wr => ∃ n : Nat, v3 = .int .i64 (n : Int) ∧ Aside0 (1 ≤ n ∧ n ≤ a.length ∧ ∀ i, n ≤ i → a.getD i 0 = 0) ∧ Aside0 (wr = w)) (fun v3 _ => (intOf v3).toNat)
  case atStart => exact ⟨la, rfl, ⟨by rw [HL.out]; exact H.out.2, by rw [HL.out]; exact Nat.le_refl _, fun i hi => by rw [HL.out] at hi; simp [List.getD, hi]⟩, ⟨rfl⟩⟩
  case round =>
    obtain ⟨n, rfl, HN, HW⟩ := hrel
    obtain rfl := HW.out
    have hn1 := HN.out.1
    have hn2 : n ≤ la := by rw [HL.out]; exact HN.out.2.1
    by_cases h1 : n = 1
    · subst h1
      have HS := Aside0.mk (least_stop H.out.1.w64 HN.out.1 HN.out.2.1 HN.out.2.2 (.inl rfl))
      have HC := Aside0.mk (cloneN A c (a.take 1) _ (H.out.1.take 1 HN.out.2.1) (by simp; omega))
      rw [HS.out.2, digs_length, ← HS.out.1] at HC
      have b1 : (1 : Int) ≤ (c : Int) := by omega
      go_wp2_with fail
      refine HC.out.mono ?_
      rintro e w2 ⟨v, rfl, hr⟩
      have HRes := Aside0.mk hr
      clear hr
      go_wp2_with fail
      go_ret
      rw [← HS.out.1]
      exact ⟨v, rfl, HRes.out⟩
    · obtain ⟨k, rfl⟩ : ∃ k, n = k + 1 := ⟨n - 1, by omega⟩
      obtain ⟨ad, rfl, hc⟩ := H.out.1.at_ k (by have := HN.out.2.1; omega)
      have t1 : decide (((k + 1 : Nat) : Int) > 1) = true := by rw [decide_eq_true_eq]; omega
      have t1' : decide ((k : Int) + 1 > 1) = true := by rw [decide_eq_true_eq]; omega
      have hb : (k : Int) < (la : Int) := by omega
      have hb0 : (0 : Int) ≤ (k : Int) := by omega
      have hb1 : (k : Int) + 1 ≤ (c : Int) := by omega
      obtain ⟨x, hx⟩ : ∃ x, x = a.getD k 0 := ⟨_, rfl⟩
      rw [← hx] at hc
      have HX := Aside0.mk hx
      by_cases h0 : x = 0
      · have t2 : ((x : Int) == 0) = true := by simp [h0]
        have HZ := Aside0.mk (show ∀ i, k ≤ i → a.getD i 0 = 0 from fun i hi => by
          rcases Nat.lt_or_eq_of_le hi with hi | hi
          · exact HN.out.2.2 i (by omega)
          · rw [← hi, ← hx]; exact h0)
        have HK := Aside0.mk (show 1 ≤ k ∧ k ≤ a.length from ⟨by omega, by have := HN.out.2.1; omega⟩)
        have w2 : wrap64 ((k : Int) + 1 - 1) = (k : Int) := (wrap64_id (by omega) (by omega)).trans (by omega)
        have w2' : wrap64 (((k + 1 : Nat) : Int) - 1) = (k : Int) := (wrap64_id (by omega) (by omega)).trans (by omega)
        clear hx h0 h1
        go_wp2_with fail
        go_roundw
        case rel => exact ⟨k, by first | rfl | exact congrArg (Value.int .i64) w2, ⟨HK.out.1, HK.out.2, HZ.out⟩, ⟨by first | rfl | trivial⟩⟩
        case measure => simp [intOf]
      · have t2 : ((x : Int) == 0) = false := by simp [h0]
        have HS := Aside0.mk (least_stop H.out.1.w64 HN.out.1 HN.out.2.1 HN.out.2.2 (.inr (by rw [show k + 1 - 1 = k from rfl, ← hx]; exact h0)))
        have HC := Aside0.mk (cloneN (some ad) c (a.take (k + 1)) _ (H.out.1.take (k + 1) HN.out.2.1) (by simp; omega))
        rw [HS.out.2, digs_length, ← HS.out.1] at HC
        have w2 : wrap64 ((k : Int) + 1 - 1) = (k : Int) := (wrap64_id (by omega) (by omega)).trans (by omega)
        have w2' : wrap64 (((k + 1 : Nat) : Int) - 1) = (k : Int) := (wrap64_id (by omega) (by omega)).trans (by omega)
        clear hx h0 h1
        go_wp2_with fail
        refine HC.out.mono ?_
        rintro e w2 ⟨v, rfl, hr⟩
        have HRes := Aside0.mk hr
        clear hr
        go_wp2_with fail
        go_ret
        rw [← HS.out.1]
        exact ⟨v, rfl, HRes.out⟩
end Go.Proofs.YtjpibgehhgaopaaGreat.Top
/- key's before, Common, by one word. -/
namespace Go.Proofs.YtjpibgehhgaopaaGreat.Top
open Go.RowKit Go.Proofs.YtjpibgehhgaopaaGreatW.PrintWords Go.Proofs.YtjpibgehhgaopaaGreatW.PrintLast Go.Proofs.YtjpibgehhgaopaaGreat.PTopGenerated
set_option linter.unusedVariables false
set_option linter.unusedSimpArgs false

/-- A number in as few words as it needs, one at least. -/
def lw (N : Nat) : List Nat := digs (max 1 (wl N)) N
theorem digs1 (N : Nat) : digs 1 N = [N % 18446744073709551616] := rfl
theorem lw_w (N : Nat) : W64 (lw N) := digs_w _ _
theorem lw_val (N : Nat) : val (lw N) = N := by
  unfold lw
  rw [val_digs, Nat.mod_eq_of_lt]
  exact Nat.lt_of_lt_of_le (lt_wl N) (Nat.pow_le_pow_right (by omega) (by omega))
theorem lw_len (N : Nat) : (lw N).length = max 1 (wl N) := digs_length _ _
theorem lw_one {x : Nat} (h : x < 18446744073709551616) : lw x = [x] := by
  unfold lw
  rw [show max 1 (wl x) = 1 by have := wl_one_le h; omega, digs_one h]
theorem leastL (A : Option Addr) (c n : Nat) (a : List Nat) (w : World) (h : Num w A c a) (hn : a.length = n) (h1 : 1 ≤ n) (hl : n ≤ 1000) :
    Calls Tryz.prog 75 #[.slice A n c] w fun e w' => ∃ v, e = .returned v ∧ Res w w' v (lw (val a)) := by
  subst hn
  exact leastK A c a w h h1 hl
set_option maxRecDepth 100000 in
theorem before1 (A : Option Addr) (c p : Nat) (w : World) (h : Num w A c [p]) (hp : 1 ≤ p) :
    Calls Tryz.prog 128 #[.slice A 1 c] w fun e w' => ∃ v, e = .returned v ∧ Res w w' v [p - 1] := by
  have hpw := h.w64 p (by simp)
  have HN := Aside0.mk h
  have hb0 := below_alloc (Below.refl _ w) (.cells #[.int .u64 1] 23)
  have HB0 := Aside0.mk hb0
  have hone : Num (w.alloc (.cells #[.int .u64 1] 23)) (some ⟨w.heap.size, 0, none⟩) 1 [1] := num_of_blk (l := [1]) (heap_alloc_new w _) (W64_one (by omega)) (by simp) (by simp)
  have hs := sub0 A (some ⟨w.heap.size, 0, none⟩) c 1 [p] [1] 1 _ (h.below hb0) hone rfl (by omega)
  simp only [val_one, List.length_singleton, Nat.pow_one] at hs
  rw [if_neg (show ¬ p < 1 by omega)] at hs
  have e0 : (p + 18446744073709551616 - 1) % 18446744073709551616 = p - 1 := by omega
  have e1 : digs 1 (p + 18446744073709551616 - 1) = [p - 1] := by rw [digs1, e0]
  rw [e1] at hs
  have HS := Aside0.mk hs
  have HE := Aside0.mk (lw_one (show p - 1 < 18446744073709551616 by omega))
  generalize p - 1 = r at *
  clear h hb0 hone hs hp hpw e1 e0
  go_enter Tryz.func128, Tryz.ntmps128
  go_wp2_with fail
  refine HS.out.mono ?_
  rintro e w1 ⟨v1, rfl, hr1⟩
  obtain ⟨A1, c1, rfl, hn1⟩ := hr1.num
  have HL := Aside0.mk (leastL A1 c1 1 [r] w1 hn1 rfl (by omega) (by omega))
  have HB1 := Aside0.mk (HB0.out.trans (hr1.bel.mono HB0.out.size))
  rw [val_one, HE.out] at HL
  clear hr1 hn1
  go_wp2_with fail
  refine HL.out.mono ?_
  rintro e w2 ⟨v2, rfl, hr2⟩
  have HR := Aside0.mk (hr2.later HB1.out)
  clear hr2
  go_wp2_with fail
  go_ret
  exact ⟨v2, rfl, HR.out⟩
/-- What Common answers. -/
def comF (p q : Nat) : Nat := (p - 1) / Nat.gcd (p - 1) (q - 1) * (q - 1)
theorem bits_two {p : Nat} (h : 2 ≤ p) : decide ((bl p : Int) < 2) = false := by
  rw [decide_eq_false_iff_not]
  have := lt_bl (N := p) (k := 1) h
  omega
set_option maxHeartbeats 1000000 in
set_option maxRecDepth 100000 in
theorem common1 (A A2 : Option Addr) (c c2 p q : Nat) (w : World) (h1 : Num w A c [p]) (h2 : Num w A2 c2 [q]) (hp : 2 ≤ p) (hq : 2 ≤ q) :
    Calls Tryz.prog 79 #[.slice A 1 c, .slice A2 1 c2] w fun e w' => ∃ v, e = .returned (.tuple #[v, .int .i64 0]) ∧ Res w w' v (lw (comF p q)) := by
  have hpw := h1.w64 p (by simp)
  have hqw := h2.w64 q (by simp)
  have tp := bits_two hp
  have tq := bits_two hq
  have HBp := Aside0.mk (bitsN A c [p] w h1 (by simp))
  have HBq := Aside0.mk (bitsN A2 c2 [q] w h2 (by simp))
  rw [val_one] at HBp HBq
  have HPb := Aside0.mk (before1 A c p w h1 (by omega))
  have HQb := Aside0.mk (fun W h => before1 A2 c2 q W h (by omega))
  have H := Aside0.mk (And.intro h1 h2)
  have HG := Aside0.mk (And.intro (show comF p q = (p - 1) / Nat.gcd (p - 1) (q - 1) * (q - 1) from rfl) (show 1 ≤ p - 1 ∧ 1 ≤ q - 1 ∧ p - 1 < 18446744073709551616 ∧ q - 1 < 18446744073709551616 by omega))
  generalize comF p q = L at *
  generalize p - 1 = a at *
  generalize q - 1 = b at *
  generalize bl p = bp at *
  generalize bl q = bq at *
  clear h1 h2 hp hq hpw hqw
  go_enter Tryz.func79, Tryz.ntmps79
  go_wp2_with fail
  refine HBp.out.mono ?_
  rintro e w' ⟨rfl, rfl⟩
  go_wp2_with fail
  refine HBq.out.mono ?_
  rintro e w' ⟨rfl, rfl⟩
  clear HBp HBq
  go_wp2_with fail
  refine HPb.out.mono ?_
  rintro e w1 ⟨v1, rfl, hr1⟩
  obtain ⟨A1, c1, rfl, hn1⟩ := hr1.num
  have HN1 := Aside0.mk (And.intro hr1.bel (And.intro hn1 (H.out.2.below hr1.bel)))
  clear hr1 hn1
  go_wp2_with fail
  refine (HQb.out _ HN1.out.2.2).mono ?_
  rintro e w2 ⟨v2, rfl, hr2⟩
  obtain ⟨A2', c2', rfl, hn2⟩ := hr2.num
  have HN2 := Aside0.mk (And.intro (HN1.out.1.trans (hr2.bel.mono HN1.out.1.size)) (And.intro (HN1.out.2.1.below hr2.bel) hn2))
  clear hr2 hn2 HN1 HPb HQb H
  go_wp2_with fail
  refine (divisor1 A1 A2' c1 c2' a b _ HN2.out.2.1 HN2.out.2.2).mono ?_
  rintro e w3 ⟨v3, rfl, hr3⟩
  obtain ⟨A3, c3, rfl, hn3⟩ := hr3.num
  have HN3 := Aside0.mk (And.intro (HN2.out.1.trans (hr3.bel.mono HN2.out.1.size)) (And.intro (HN2.out.2.1.below hr3.bel) (And.intro (HN2.out.2.2.below hr3.bel) hn3)))
  clear hr3 hn3 HN2
  have HG1 := Aside0.mk (show Nat.gcd a b ≠ 0 from fun e => by have := HG.out.2.1; have := Nat.gcd_eq_zero_iff.1 e; omega)
  obtain ⟨g, hg⟩ : ∃ g, g = Nat.gcd a b := ⟨_, rfl⟩
  rw [← hg] at HG1 HN3 HG
  clear hg
  have HQ := Aside0.mk (quickN A1 A3 c1 c3 [a] [g] _ HN3.out.2.1 HN3.out.2.2.2 (by simp) (by simp) (by simp) (by rw [val_one]; exact HG1.out) (by rw [val_one]; have := wl_one_le (HN3.out.2.2.2.w64 g (by simp)); omega))
  simp only [val_one, List.length_singleton] at HQ
  rw [digs_one (Nat.lt_of_le_of_lt (Nat.div_le_self a g) HG.out.2.2.2.1)] at HQ
  go_wp2_with fail
  refine HQ.out.mono ?_
  rintro e w4 ⟨v4, v5, rfl, hr4, hr5⟩
  obtain ⟨A4, c4, rfl, hn4⟩ := hr4.num
  have HN4 := Aside0.mk (And.intro (HN3.out.1.trans (hr4.bel.mono HN3.out.1.size)) (And.intro (HN3.out.2.2.1.below hr4.bel) hn4))
  clear hr4 hr5 hn4 HQ
  have HM := Aside0.mk (mulN A4 A2' c4 c2' [a / g] [b] w4 HN4.out.2.2 HN4.out.2.1 (by simp) (by simp))
  simp only [val_one, List.length_singleton] at HM
  rw [← HG.out.1] at HM
  have HLw := Aside0.mk (show val (digs (1 + 1) L) = L by
    rw [val_digs, Nat.mod_eq_of_lt]
    rw [HG.out.1, Nat.pow_succ, Nat.pow_one]
    exact Nat.mul_lt_mul'' (Nat.lt_of_le_of_lt (Nat.div_le_self a g) HG.out.2.2.2.1) HG.out.2.2.2.2)
  generalize a / g = ag at *
  go_wp2_with fail
  refine HM.out.mono ?_
  rintro e w5 ⟨v6, rfl, hr6⟩
  obtain ⟨A6, c6, rfl, hn6⟩ := hr6.num
  have HN6 := Aside0.mk (And.intro (HN4.out.1.trans (hr6.bel.mono HN4.out.1.size)) hn6)
  have HL := Aside0.mk (leastL A6 c6 (digs (1 + 1) L).length _ w5 hn6 rfl (by simp) (by simp))
  rw [HLw.out] at HL
  clear hr6 hn6 HM
  go_wp2_with fail
  refine HL.out.mono ?_
  rintro e w7 ⟨v7, rfl, hr7⟩
  have HR := Aside0.mk (hr7.later HN6.out.1)
  clear hr7
  go_wp2_with fail
  go_ret2
  exact ⟨v7, rfl, HR.out⟩
end Go.Proofs.YtjpibgehhgaopaaGreat.Top
