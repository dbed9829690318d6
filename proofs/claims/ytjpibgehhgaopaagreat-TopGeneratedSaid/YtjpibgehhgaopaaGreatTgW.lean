/- mont's Product, of one word. -/
import Derived.Test.YtjpibgehhgaopaaGreatZ12
namespace Go.Proofs.YtjpibgehhgaopaaGreat.Top
open Go.RowKit Go.Proofs.YtjpibgehhgaopaaGreatW.PrintWords Go.Proofs.YtjpibgehhgaopaaGreatW.PrintLast Go.Proofs.YtjpibgehhgaopaaGreat.PTopGenerated
set_option linter.unusedVariables false
set_option linter.unusedSimpArgs false

/-- Product's state: its box, its row, what lay stays. -/
structure Pr (w : World) (B : Nat) (t : Option Nat) (n s g : Nat) (mo : Obj) (l : List Nat) (W : World) : Prop where
  box : W.heap[s]? = some mo
  row : W.heap[g]? = some (rowO l)
  st : St B none w W
  tr : T W B t n
  hs : w.heap.size ≤ s
  hg : w.heap.size ≤ g
  hB : B ≤ w.heap.size
  ne : s ≠ g
  w64 : W64 l
section
variable {w W W' : World} {B n s g : Nat} {t : Option Nat} {mo : Obj} {l : List Nat}
theorem Pr.set_ (h : Pr w B t n s g mo l W) (j : Nat) {x : Nat} (hx : x < 18446744073709551616) : Pr w B t n s g mo (l.set j x) (W.setCell ⟨g, j, none⟩ (.int .u64 (x : Int))) := by
  have hrow : W.heap[g]? = some (.cells (nums .u64 (nz l)).toArray 23 (0, 0)) := h.row
  refine ⟨?_, ?_, ⟨?_, fun k o hk h1 h2 h3 => ?_⟩, h.tr.set_ hrow _, h.hs, h.hg, h.hB, h.ne, W64_set h.w64 j hx⟩
  · rw [Below.heap_setCell _ _ _ _ h.ne]; exact h.box
  · have := heap_setCell_same W g j _ _ (.int .u64 (x : Int)) hrow
    rw [row_set] at this
    exact this
  · exact h.st.bel.setCell (Nat.le_trans h.hB h.hg) _
  · rw [Below.heap_setCell _ _ _ _ (by have := blk_lt hk; have := h.hg; show k ≠ g; omega)]
    exact h.st.stay k o hk h1 h2 h3
theorem Pr.drewN (h : Pr w B t n s g mo l W) (k : Nat) : Pr w B t n s g mo l (W.drewN k) :=
  ⟨h.box, h.row, ⟨pw_below_drewN h.st.bel k, h.st.stay⟩, h.tr.below (pw_below_drewN (Below.refl _ _) k), h.hs, h.hg, h.hB, h.ne, h.w64⟩
/-- A traced call that keeps all of one's own. -/
theorem Pr.call (h : Pr w B t n s g mo l W) (hmo : (∀ cur, mo ≠ .cells cur 90 (0, 0)) ∧ (∀ cur, mo ≠ .cells cur 193 (0, 0))) (hs : St B none W W') {m : Nat} (ht : T W' B t m) : Pr w B t m s g mo l W' :=
  ⟨hs.stay s _ h.box (by simp) hmo.1 hmo.2, hs.stay g _ h.row (by simp) (by intro c e; injection e with _ e; simp at e) (by intro c e; injection e with _ e; simp at e), h.st.trans hs, ht, h.hs, h.hg, h.hB, h.ne, h.w64⟩
theorem Pr.cell (h : Pr w B t n s g mo l W) (j : Nat) (hj : j < l.length) : W.cell? ⟨g, j, none⟩ = some (.int .u64 ((l.getD j 0 : Nat) : Int)) := (blk_cell h.row j).trans (row_get l j hj)
theorem Pr.frozen (h : Pr w B t n s g mo l W) (j : Nat) : W.frozen? ⟨g, j, none⟩ = false := frozen_of_row W g j _ _ h.row
theorem Pr.num (h : Pr w B t n s g mo l W) {A : Option Addr} {c : Nat} {a : List Nat} (ha : Num w A c a) : Num W A c a := ha.st h.st
end
def KN (M : Nat) : Nat := (KI M).toNat
theorem KN_lt (M : Nat) : KN M < 18446744073709551616 := by
  have := u64_wrap_U (-(invI (M : Int)))
  unfold KN KI
  unfold U64 at this
  omega
theorem KI_KN (M : Nat) : KI M = (KN M : Int) := by
  have := u64_wrap_U (-(invI (M : Int)))
  unfold KN KI
  unfold U64 at this
  omega
/-- Montgomery's product of one word. -/
def prodW (M a b : Nat) : Nat :=
  let c := (a * b % 18446744073709551616 * KN M % 18446744073709551616 * M + a * b % 18446744073709551616) / 18446744073709551616
  let t := a * b / 18446744073709551616 + c
  if 18446744073709551616 ≤ t ∨ M ≤ t % 18446744073709551616 then (t % 18446744073709551616 + 18446744073709551616 - M) % 18446744073709551616 else t % 18446744073709551616
theorem Num.oneK {w : World} {A : Option Addr} {c x : Nat} (h : Num w A c [x]) : ∃ ad, A = some ad ∧ ∀ W', Kp w W' → W'.cell? ad = some (.int .u64 (x : Int)) := by
  obtain ⟨ad, rfl, _⟩ := h.at_ 0 (by simp)
  refine ⟨ad, rfl, fun W' hb => ?_⟩
  obtain ⟨ad', e, h'⟩ := (h.kp hb).at_ 0 (by simp)
  injection e with e
  subst e
  simpa [Addr.add] using h'
theorem mul_wrap (x y : Nat) : IntKind.u64.wrap ((x : Int) * (y : Int)) = ((x * y % 18446744073709551616 : Nat) : Int) := by
  rw [IntKind.wrap_u64, ← Int.natCast_mul]
  generalize x * y = z
  omega
theorem i64_le_cap {c : Nat} (h : 1 ≤ c) : (1 : Int) ≤ (c : Int) := by omega
theorem bit_low (s1 bw : Nat) (h1 : s1 ≤ 1) (h2 : bw ≤ 1) : Go.bits .or .u64 (s1 : Int) (Go.bits .xor .u64 1 (bw : Int)) = b2i (decide (s1 = 1 ∨ bw = 0)) := by
  rcases (show s1 = 0 ∨ s1 = 1 by omega) with rfl | rfl <;> rcases (show bw = 0 ∨ bw = 1 by omega) with rfl | rfl <;> decide +kernel
theorem prodW_sel {M a b kk lo hi u cy s0 s1 bw : Nat} (hk : kk = KN M) (hlo : lo = a * b % 18446744073709551616) (hhi : hi = a * b / 18446744073709551616) (hu : u = lo * kk % 18446744073709551616)
    (hcy : cy = (u * M + lo) / 18446744073709551616) (hs0 : s0 = (hi + cy) % 18446744073709551616) (hs1 : s1 = (hi + cy) / 18446744073709551616) (hs1' : s1 ≤ 1) (hbw : bw = if s0 < M then 1 else 0) (hM : M < 18446744073709551616) :
    digs 1 (if decide (s1 = 1 ∨ bw = 0) then val (digs 1 (s0 + 18446744073709551616 - M)) else val [s0]) = [prodW M a b] := by
  have hs0w : s0 < 18446744073709551616 := hs0 ▸ Nat.mod_lt _ (by omega)
  have e : prodW M a b = if 18446744073709551616 ≤ hi + cy ∨ M ≤ s0 then (s0 + 18446744073709551616 - M) % 18446744073709551616 else s0 := by
    unfold prodW
    simp only [← hk, ← hlo, ← hu, ← hcy, ← hhi, ← hs0]
  rw [e]
  have ec : (18446744073709551616 ≤ hi + cy ∨ M ≤ s0) ↔ (s1 = 1 ∨ bw = 0) := by
    rw [hbw]
    split <;> omega
  by_cases hc : s1 = 1 ∨ bw = 0
  · rw [if_pos (ec.2 hc), if_pos (decide_eq_true hc), val_digs, Nat.pow_one, digs_one (Nat.mod_lt _ (by omega))]
  · rw [if_neg (fun h => hc (ec.1 h)), if_neg (by rw [decide_eq_false hc]; decide), val_one, digs_one hs0w]
set_option maxHeartbeats 40000000 in
set_option maxRecDepth 100000 in
theorem productT (B : Nat) (t : Option Nat) (n : Nat) (M a b : Nat) (v : Value) (Aa Ab : Option Addr) (ca cb : Nat) (w : World) (hT : T w B t n) (hn : n ≤ 900000000) (hM : Md w v M) (h0 : 0 < M) (ha : Num w Aa ca [a]) (hb : Num w Ab cb [b]) (hBw : B ≤ w.heap.size) :
    Calls Tryz.prog 93 #[ptrV t, v, .slice Aa 1 ca, .slice Ab 1 cb] w fun e w' => ∃ v', e = .returned v' ∧ w'.ownsRow w.heap.size 23 1 v' 1 (nums .u64 (nz [prodW M a b])) ∧ St B none w w' ∧ T w' B t (n + 3) := by
  obtain ⟨A1, c1, A2, c2, rfl, hm1, hm2⟩ := hM
  have hMw : M < 18446744073709551616 := hm1.w64 M (by simp)
  have haw : a < 18446744073709551616 := ha.w64 a (by simp)
  have hbw : b < 18446744073709551616 := hb.w64 b (by simp)
  have hmk : ∀ W : World, (Instr.makeSlice 26 (.int .i64 3) (.int .i64 3)).run Tryz.prog W = .ok (.slice (some ⟨W.heap.size, 0, none⟩) 3 3) (W.alloc (rowO [0, 0, 0])) := makeR 3 (by omega)
  have HN := Aside0.mk (And.intro hm1 (And.intro ha hb))
  obtain ⟨mo, hmo⟩ : ∃ mo, mo = Obj.cells #[.slice A1 1 c1, .int .u64 (KI M), .slice A2 1 c2] 73 (0, 0) := ⟨_, rfl⟩
  have hmo' : (∀ cur, mo ≠ .cells cur 90 (0, 0)) ∧ (∀ cur, mo ≠ .cells cur 193 (0, 0)) := by
    subst hmo
    constructor <;> (intro cur e; injection e with _ e; simp at e)
  have hP0 : Pr w B t n w.heap.size (w.heap.size + 1) mo [0, 0, 0] ((w.alloc mo).alloc (rowO [0, 0, 0])) := by
    have hbel := below_alloc (below_alloc (Below.refl w.heap.size w) mo) (rowO [0, 0, 0])
    exact ⟨blk_alloc (heap_alloc_new _ _) _, by have := heap_alloc_new (w.alloc mo) (rowO [0, 0, 0]); rwa [World.size_alloc] at this, St.of_below hBw hbel, hT.below hbel, Nat.le_refl _, by omega, hBw, by omega, W64_rep 3⟩
  have HP0 := Aside0.mk hP0
  have HW := Aside0.mk (And.intro hMw (And.intro haw hbw))
  have HB0 := Aside0.mk hBw
  obtain ⟨kk, hkk⟩ : ∃ kk, kk = KN M := ⟨_, rfl⟩
  rw [KI_KN, ← hkk] at hmo
  have HKW := Aside0.mk (show kk < 18446744073709551616 from hkk ▸ KN_lt M)
  have HMO := Aside0.mk hmo
  obtain ⟨pr, hpr⟩ : ∃ pr, pr = prodW M a b := ⟨_, rfl⟩
  rw [← hpr]
  have HPR := Aside0.mk (And.intro hpr hkk)
  rw [KI_KN, ← hkk]
  clear hT hm1 hm2 ha hb hP0 hMw haw hbw hBw hkk hpr hmo
  obtain ⟨am, rfl, hcm⟩ := HN.out.1.oneK
  obtain ⟨aa, rfl, hca⟩ := HN.out.2.1.oneK
  obtain ⟨ab, rfl, hcb⟩ := HN.out.2.2.oneK
  have HNE := Aside0.mk (show w.heap.size + 1 ≠ am.block ∧ w.heap.size + 1 ≠ aa.block ∧ w.heap.size + 1 ≠ ab.block from by
    obtain ⟨x1, h1⟩ := HN.out.1.ty am rfl
    obtain ⟨x2, h2⟩ := HN.out.2.1.ty aa rfl
    obtain ⟨x3, h3⟩ := HN.out.2.2.ty ab rfl
    have := blk_lt h1
    have := blk_lt h2
    have := blk_lt h3
    omega)
  have HC := Aside0.mk (And.intro hcm (And.intro hca hcb))
  clear hcm hca hcb
  obtain ⟨lo, hlo⟩ : ∃ lo, lo = a * b % 18446744073709551616 := ⟨_, rfl⟩
  obtain ⟨hi, hhi⟩ : ∃ hi, hi = a * b / 18446744073709551616 := ⟨_, rfl⟩
  obtain ⟨u, hu⟩ : ∃ u, u = lo * kk % 18446744073709551616 := ⟨_, rfl⟩
  obtain ⟨cy, hcy⟩ : ∃ cy, cy = (u * M + lo) / 18446744073709551616 := ⟨_, rfl⟩
  have hMul1 := mulWN a b 0 0 HW.out.2.1 HW.out.2.2 (by omega) (by omega)
  simp only [Nat.add_zero] at hMul1
  rw [← hlo, ← hhi] at hMul1
  have HM1 := Aside0.mk hMul1
  have hlow : lo < 18446744073709551616 := hlo ▸ Nat.mod_lt _ (by omega)
  have huw : u < 18446744073709551616 := hu ▸ Nat.mod_lt _ (by omega)
  have hMul2 := mulWN u M lo 0 huw HW.out.1 hlow (by omega)
  simp only [Nat.add_zero] at hMul2
  rw [← hcy] at hMul2
  have HM2 := Aside0.mk hMul2
  have hhiw : hi < 18446744073709551616 := by
    have := mw_lt (a := [a]) (W64_one HW.out.2.1) HW.out.2.2 0 (k := 0) (by omega)
    rw [hhi]; simpa [List.getD] using this
  have hcyw : cy < 18446744073709551616 := by
    have := mw_lt (a := [u]) (W64_one huw) HW.out.1 0 (k := lo) hlow
    rw [hcy]; simpa [List.getD] using this
  have hA1 := addWN 0 hi 0 (by omega) hhiw (by omega)
  simp only [Nat.zero_add, Nat.add_zero, Nat.mod_eq_of_lt hhiw, Nat.div_eq_of_lt hhiw] at hA1
  have HA1 := Aside0.mk hA1
  obtain ⟨s0, hs0⟩ : ∃ s0, s0 = (hi + cy) % 18446744073709551616 := ⟨_, rfl⟩
  obtain ⟨s1, hs1⟩ : ∃ s1, s1 = (hi + cy) / 18446744073709551616 := ⟨_, rfl⟩
  have hA2 := addWN hi cy 0 hhiw hcyw (by omega)
  simp only [Nat.add_zero] at hA2
  rw [← hs0, ← hs1] at hA2
  have HA2 := Aside0.mk hA2
  have hs0w : s0 < 18446744073709551616 := hs0 ▸ Nat.mod_lt _ (by omega)
  have hs1w : s1 ≤ 1 := by rw [hs1]; omega
  have HS := Aside0.mk (And.intro hs0w (And.intro hs1w (And.intro hs0 hs1)))
  have HV := Aside0.mk (And.intro hlow (And.intro hhiw (And.intro hlo (And.intro hhi (And.intro hu hcy)))))
  have wu : IntKind.u64.wrap ((lo : Int) * (kk : Int)) = (u : Int) := by rw [hu]; exact mul_wrap lo kk
  have ws1 : IntKind.u64.wrap (0 + (s1 : Int)) = (s1 : Int) := by rw [IntKind.wrap_u64]; omega
  have ws1' : IntKind.u64.wrap ((s1 : Int)) = (s1 : Int) := by rw [IntKind.wrap_u64]; omega
  clear hlo hhi hu hcy hMul1 hMul2 hA1 hA2 hlow huw hhiw hcyw hs0 hs1 hs0w hs1w
  go_enter Tryz.func93, Tryz.ntmps93
  go_wp2_with fail
  go_loopw [25] (fun v25 wr => (v25 = .int .i64 0 ∧ Aside0 (Pr w B t n w.heap.size (w.heap.size + 1) mo [0, 0, 0] wr)) ∨ (v25 = .int .i64 1 ∧ Aside0 (Pr w B t (n + 1) w.heap.size (w.heap.size + 1) mo [s0, s1, 0] wr))) (fun v25 _ => 1 - (intOf v25).toNat)
  case atStart => exact .inl ⟨rfl, by rw [HMO.out] at HP0 ⊢; exact HP0⟩
  case round =>
    rcases hrel with ⟨rfl, HP⟩ | ⟨rfl, HP⟩
    · go_wp2_with fail
      refine (spanT B t n 1 _ HP.out.tr (by omega)).mono ?_
      rintro e w1 ⟨rfl, hT1, hS1⟩
      have HP1 := Aside0.mk (HP.out.call hmo' hS1 hT1)
      clear HP hT1 hS1
      go_wp2_with fail
      go_loopw [12, 32] (fun v12 v32 wr => (v32 = .int .i64 0 ∧ v12 = .int .u64 0 ∧ Aside0 (Pr w B t (n + 1) w.heap.size (w.heap.size + 1) mo [0, 0, 0] wr)) ∨ (v32 = .int .i64 1 ∧ v12 = .int .u64 (hi : Int) ∧ Aside0 (Pr w B t (n + 1) w.heap.size (w.heap.size + 1) mo [lo, 0, 0] wr))) (fun _ v32 _ => 1 - (intOf v32).toNat)
      case atStart => exact .inl ⟨rfl, rfl, HP1⟩
      case round =>
        rcases hrel with ⟨rfl, rfl, HP2⟩ | ⟨rfl, rfl, HP2⟩
        · have ca' := HC.out.2.1 _ HP2.out.st.kp
          have cb' := HC.out.2.2 _ HP2.out.st.kp
          have cs0 : wr.cell? ⟨w.heap.size + 1, 0, none⟩ = some (.int .u64 0) := HP2.out.cell 0 (by simp)
          have fs0 := HP2.out.frozen 0
          have na : w.heap.size + 1 ≠ aa.block := HNE.out.2.1
          have nb : w.heap.size + 1 ≠ ab.block := HNE.out.2.2
          go_wp2_with fail
          go_upto_region 11 with (fail)
          go_region_with (first | (go_at_call 127; refine (HM1.out _).mono ?_; rintro e w3 ⟨rfl, rfl⟩))
          all_goals go_wp2_with fail
          all_goals exact ⟨.inr ⟨rfl, rfl, ⟨(HP2.out.set_ 0 HV.out.1).drewN 1⟩⟩, by decide⟩
        · have cs1 : wr.cell? ⟨w.heap.size + 1, 1, none⟩ = some (.int .u64 0) := HP2.out.cell 1 (by simp)
          have fs1 := HP2.out.frozen 1
          go_wp2_with fail
          refine (HA1.out _).mono ?_
          rintro e w3 ⟨rfl, rfl⟩
          have cs2 : w3.cell? ⟨w.heap.size + 1, 2, none⟩ = some (.int .u64 0) := HP2.out.cell 2 (by simp)
          have fs2 := HP2.out.frozen 2
          go_upto_region 15 with (fail)
          have HP4 := Aside0.mk ((HP2.out.set_ 1 HV.out.2.1).set_ 2 (x := 0) (by omega))
          obtain ⟨w4, hw4⟩ : ∃ w4, w4 = (w3.setCell ⟨w.heap.size + 1, 1, none⟩ (.int .u64 (hi : Int))).setCell ⟨w.heap.size + 1, 2, none⟩ (.int .u64 0) := ⟨_, rfl⟩
          change Aside0 (Pr w B t (n + 1) w.heap.size (w.heap.size + 1) mo [lo, hi, 0] ((w3.setCell ⟨w.heap.size + 1, 1, none⟩ (.int .u64 (hi : Int))).setCell ⟨w.heap.size + 1, 2, none⟩ (.int .u64 0))) at HP4
          rw [← hw4] at HP4 ⊢
          clear hw4 cs1 fs1 cs2 fs2 HP2
          have hbx := HP4.out.box
          rw [HMO.out] at hbx
          have m0 : w4.cell? ⟨w.heap.size, 0, none⟩ = some (.slice (some am) 1 c1) := blk_cell hbx 0
          have m1 : w4.cell? ⟨w.heap.size, 1, none⟩ = some (.int .u64 (kk : Int)) := blk_cell hbx 1
          have cm' := HC.out.1 _ HP4.out.st.kp
          have d0 : w4.cell? ⟨w.heap.size + 1, 0, none⟩ = some (.int .u64 (lo : Int)) := HP4.out.cell 0 (by simp)
          have d1 : w4.cell? ⟨w.heap.size + 1, 1, none⟩ = some (.int .u64 (hi : Int)) := HP4.out.cell 1 (by simp)
          have d2 : w4.cell? ⟨w.heap.size + 1, 2, none⟩ = some (.int .u64 0) := HP4.out.cell 2 (by simp)
          have f0 := HP4.out.frozen 0
          have f1 := HP4.out.frozen 1
          have f2 := HP4.out.frozen 2
          clear hbx
          go_quiet (fail)
          go_upto_region 16 with (fail)
          go_region_held3 (fun W => W.cell? ⟨w.heap.size, 0, none⟩ = some (.slice (some am) 1 c1) ∧ W.cell? am = some (.int .u64 (M : Int)) ∧ W.cell? ⟨w.heap.size + 1, 0, none⟩ = some (.int .u64 (lo : Int))) (go_keep) (first | (go_at_call 127; refine (HM2.out _).mono ?_; rintro e w5 ⟨rfl, rfl⟩))
          go_wp2_with fail
          go_loopw [12, 15] (fun v12 v15 wr => v15 = .int .i64 1 ∧ v12 = .int .u64 (cy : Int) ∧ Aside0 (Pr w B t (n + 1) w.heap.size (w.heap.size + 1) mo [lo, hi, 0] wr)) (fun _ v15 _ => (intOf v15).toNat)
          case atStart => exact ⟨rfl, rfl, ⟨HP4.out.drewN _⟩⟩
          case round =>
            obtain ⟨rfl, rfl, HP6⟩ := hrel
            clear m0 m1 cm' d0 d1 d2 f0 f1 f2
            have e0 : wr.cell? ⟨w.heap.size + 1, 0, none⟩ = some (.int .u64 (lo : Int)) := HP6.out.cell 0 (by simp)
            have e1 : wr.cell? ⟨w.heap.size + 1, 1, none⟩ = some (.int .u64 (hi : Int)) := HP6.out.cell 1 (by simp)
            have e2 : wr.cell? ⟨w.heap.size + 1, 2, none⟩ = some (.int .u64 0) := HP6.out.cell 2 (by simp)
            have f0 := HP6.out.frozen 0
            have f1 := HP6.out.frozen 1
            go_wp2_with fail
            refine (HA2.out _).mono ?_
            rintro e w7 ⟨rfl, rfl⟩
            go_wp2_with fail
            go_roundw
            case rel =>
              refine .inr ⟨rfl, ⟨?_⟩⟩
              have h := (HP6.out.set_ 0 HS.out.1).set_ 1 (x := s1) (by have := HS.out.2.1; omega)
              exact h
            case measure => decide
    · have cs1 : wr.cell? ⟨w.heap.size + 1, 1, none⟩ = some (.int .u64 (s1 : Int)) := HP.out.cell 1 (by simp)
      have cs0 : wr.cell? ⟨w.heap.size + 1, 0, none⟩ = some (.int .u64 (s0 : Int)) := HP.out.cell 0 (by simp)
      have hbx := HP.out.box
      rw [HMO.out] at hbx
      have m0 : wr.cell? ⟨w.heap.size, 0, none⟩ = some (.slice (some am) 1 c1) := blk_cell hbx 0
      clear hbx
      go_wp2_with fail
      have hNs := (num_of_blk (c := 3) HP.out.row HP.out.w64 (by simp) (by simp)).take 1 (by simp)
      have HSB := Aside0.mk (fun W (hb : Below wr.heap.size wr W) (hT : T W B t (n + 1)) => subT B t (n + 1) (some ⟨w.heap.size + 1, 0, none⟩) (some am) 3 c1 [s0] [M] 1 W hT (by omega) (by simpa using hNs.below hb) ((HN.out.1.st HP.out.st).below hb) rfl (by omega))
      simp only [val_one, Nat.pow_one] at HSB
      have HSZ := Aside0.mk (show ([s0] : List Nat).length = 1 from rfl)
      simp only [List.length_singleton] at HSB
      obtain ⟨bw, hbw⟩ : ∃ bw, bw = (if s0 < M then 1 else 0 : Nat) := ⟨_, rfl⟩
      rw [← hbw] at HSB
      have hbw1 : bw ≤ 1 := by rw [hbw]; split <;> omega
      have hbit := bit_low s1 bw HS.out.2.1 hbw1
      have hPS := prodW_sel HPR.out.2 HV.out.2.2.1 HV.out.2.2.2.1 HV.out.2.2.2.2.1 HV.out.2.2.2.2.2 HS.out.2.2.1 HS.out.2.2.2 HS.out.2.1 hbw HW.out.1
      obtain ⟨pp, hpp⟩ : ∃ pp, pp = decide (s1 = 1 ∨ bw = 0) := ⟨_, rfl⟩
      rw [← hpp] at hbit hPS
      rw [← HPR.out.1] at hPS
      have HPS := Aside0.mk hPS
      clear hbw hpp hPS hbw1
      have HDD := Aside0.mk (show W64 (digs 1 (s0 + 18446744073709551616 - M)) ∧ (digs 1 (s0 + 18446744073709551616 - M)).length = 1 from ⟨digs_w _ _, by simp⟩)
      generalize digs 1 (s0 + 18446744073709551616 - M) = dd at *
      go_region_held3 (fun W => W.cell? ⟨w.heap.size, 0, none⟩ = some (.slice (some am) 1 c1)) (first | go_keep | exact (by assumption)) (first | (go_at_call 130; refine (HSB.out _ (pw_below_drewN (Below.refl _ _) 1) (HP.out.tr.below (pw_below_drewN (Below.refl _ _) 1))).mono ?_; rintro e w8 ⟨v8, rfl, o8, s8, t8⟩; have HP8 := Aside0.mk ((HP.out.drewN 1).call hmo' s8 t8); have HO8 := Aside0.mk o8; obtain ⟨A8, c8, rfl⟩ := own_slice o8; have m8 : w8.cell? ⟨w.heap.size, 0, none⟩ = some (.slice (some am) 1 c1) := by have hb8 := HP8.out.box; rw [HMO.out] at hb8; exact blk_cell hb8 0))
      obtain ⟨hl8, hn8⟩ := own_num (by rw [HDD.out.2]; exact HO8.out) HDD.out.1
      have hNs8 := (num_of_blk (c := 3) HP8.out.row HP8.out.w64 (by simp) (by simp)).take 1 (by simp)
      have HSEL := Aside0.mk (fun W (hb : Below w8.heap.size w8 W) (hT : T W B t (n + 2)) => selT B t (n + 2) pp A8 (some ⟨w.heap.size + 1, 0, none⟩) c8 3 dd [s0] 1 W hT (by omega) (hn8.below hb) (by simpa using hNs8.below hb) (by rw [HDD.out.2]; rfl) (by omega))
      rw [HPS.out, HDD.out.2, HSZ.out] at HSEL
      clear hl8 hn8 hNs8
      have d1 : w8.cell? ⟨w.heap.size + 1, 1, none⟩ = some (.int .u64 (s1 : Int)) := HP8.out.cell 1 (by simp)
      clear cs0 cs1 m0 m8
      go_wp2_with fail
      go_region_held3 (fun W => W.cell? ⟨w.heap.size + 1, 1, none⟩ = some (.int .u64 (s1 : Int))) (first | go_keep | exact (by assumption)) (first | (go_at_call 142; refine (HSEL.out _ (pw_below_drewN (Below.refl _ _) _) (HP8.out.tr.below (pw_below_drewN (Below.refl _ _) _))).mono ?_; rintro e w9 ⟨v9, rfl, o9, s9, t9⟩; have HP9 := Aside0.mk ((HP8.out.drewN _).call hmo' s9 t9); have d9 : w9.cell? ⟨w.heap.size + 1, 1, none⟩ = some (.int .u64 (s1 : Int)) := HP9.out.cell 1 (by simp); have HO9 := Aside0.mk (And.intro o9 (And.intro s9 t9)); clear o9 s9 t9))
      all_goals go_wp2_with fail
      all_goals go_ret
      all_goals exact ⟨v9, rfl, own_weaken HO9.out.1 (Nat.le_trans HP8.out.st.bel.size (by simp)), (HP8.out.st.trans (St.of_below (Nat.le_trans HB0.out HP8.out.st.bel.size) (pw_below_drewN (Below.refl _ _) _))).trans HO9.out.2.1, HO9.out.2.2⟩
end Go.Proofs.YtjpibgehhgaopaaGreat.Top
