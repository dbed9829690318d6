/- Lengths in bits; the division of two words by one: the walk. -/
import Derived.Test.YtjpibgehhgaopaaGreatZ01
import Derived.Test.YtjpibgehhgaopaaGreatTgD0
namespace Go.Proofs.YtjpibgehhgaopaaGreat.Top
open Go.RowKit Go.Proofs.YtjpibgehhgaopaaGreatW.PrintWords Go.Proofs.YtjpibgehhgaopaaGreatW.PrintLast
set_option linter.unusedVariables false
set_option linter.unusedSimpArgs false

theorem len64N (x : Nat) (w : World) (h1 : x < 18446744073709551616) : Calls Tryz.prog 50 #[.int .u64 (x : Int)] w fun e w' => e = .returned (.int .i64 (Lib.bitLen x : Int)) ∧ w' = w := by
  have h := len64 (x : Int) w (by omega) (by omega)
  rwa [Int.toNat_natCast] at h
theorem lead64N (x : Nat) (w : World) (h1 : x < 18446744073709551616) : Calls Tryz.prog 178 #[.int .u64 (x : Int)] w fun e w' => e = .returned (.int .i64 ((64 - Lib.bitLen x : Nat) : Int)) ∧ w' = w := by
  have hl : Lib.bitLen x ≤ 64 := Lib.bitLen_le x 64 (by omega) (by omega)
  have e8 : wrap64 (64 - (Lib.bitLen x : Int)) = ((64 - Lib.bitLen x : Nat) : Int) := by unfold wrap64; omega
  have hh := len64N x
  generalize Lib.bitLen x = l at hl e8 hh ⊢
  go_enter Tryz.func178, Tryz.ntmps178
  go_wp2_with fail
  refine (hh _ h1).mono ?_
  rintro e w' ⟨rfl, rfl⟩
  go_wp2_with fail
  go_ret
  exact ⟨congrArg (fun z => Ending.returned (Value.int IntKind.i64 z)) (by omega), rfl⟩
theorem bitLen_top (y : Nat) (h0 : 0 < y) : ∀ f, y < 2 ^ f → 2 ^ f ≤ 2 * (y * 2 ^ (f - Lib.bitLenAux f y)) ∧ y * 2 ^ (f - Lib.bitLenAux f y) < 2 ^ f ∧ Lib.bitLenAux f y ≤ f ∧ 1 ≤ Lib.bitLenAux f y := by
  intro f
  induction f generalizing y with
  | zero => intro h; simp at h; omega
  | succ f ih =>
    intro h
    rw [Nat.pow_succ] at h
    simp only [Lib.bitLenAux]
    rw [if_neg (by omega)]
    by_cases h1 : y = 1
    · subst h1
      have : Lib.bitLenAux f (1 / 2) = 0 := by cases f <;> simp [Lib.bitLenAux]
      rw [this]
      simp [Nat.pow_succ]
      omega
    · obtain ⟨a, b, c, d⟩ := ih (y / 2) (by omega) (by omega)
      have e : f + 1 - (1 + Lib.bitLenAux f (y / 2)) = f - Lib.bitLenAux f (y / 2) := by omega
      rw [e, Nat.pow_succ]
      generalize Lib.bitLenAux f (y / 2) = l at *
      have h2 : 0 < 2 ^ (f - l) := Nat.pow_pos (by omega)
      have h3 : y / 2 * 2 ^ (f - l) * 2 ≤ y * 2 ^ (f - l) := by
        rw [Nat.mul_right_comm]
        exact Nat.mul_le_mul_right _ (by omega)
      have h4 : y * 2 ^ (f - l) < 2 ^ f * 2 := by
        have h5 : (y / 2 + 1) * 2 ^ (f - l) ≤ 2 ^ f := by
          have hf : 2 ^ f = 2 ^ l * 2 ^ (f - l) := by rw [← Nat.pow_add]; congr 1; omega
          rw [hf] at b ⊢
          have := Nat.lt_of_mul_lt_mul_right b
          exact Nat.mul_le_mul_right _ this
        have h6 : y * 2 ^ (f - l) < (y / 2 + 1) * 2 * 2 ^ (f - l) := Nat.mul_lt_mul_of_pos_right (by omega) h2
        rw [Nat.mul_right_comm] at h6
        omega
      refine ⟨by omega, h4, by omega, by omega⟩
theorem lead_top (y : Nat) (h0 : 0 < y) (h1 : y < 18446744073709551616) : 9223372036854775808 ≤ y * 2 ^ (64 - Lib.bitLen y) ∧ y * 2 ^ (64 - Lib.bitLen y) < 18446744073709551616 ∧ Lib.bitLen y ≤ 64 ∧ 1 ≤ Lib.bitLen y := by
  obtain ⟨a, b, c, d⟩ := bitLen_top y h0 64 (by omega)
  change 18446744073709551616 ≤ 2 * (y * 2 ^ (64 - Lib.bitLen y)) at a
  exact ⟨by omega, b, c, d⟩
end Go.Proofs.YtjpibgehhgaopaaGreat.Top
/- The division of two words by one: the walk of math/bits' Div64. -/
namespace Go.Proofs.YtjpibgehhgaopaaGreat.Top
open Go.RowKit Go.Proofs.YtjpibgehhgaopaaGreatW.PrintWords Go.Proofs.YtjpibgehhgaopaaGreatW.PrintLast
set_option linter.unusedVariables false
set_option linter.unusedSimpArgs false

set_option maxHeartbeats 1000000 in
set_option maxRecDepth 100000 in
theorem div64_0 (lo y : Nat) (hl : lo < 18446744073709551616) (h0 : 0 < y) (hy : y < 18446744073709551616) (w : World) :
    Calls Tryz.prog 134 #[.int .u64 0, .int .u64 (lo : Int), .int .u64 (y : Int)] w fun e w' => e = .returned (.tuple #[.int .u64 ((lo / y : Nat) : Int), .int .u64 ((lo % y : Nat) : Int)]) ∧ ∃ k, w' = w.drewN k := by
  have t0 : ((y : Int) == 0) = false := by simp; omega
  have t1 : decide ((y : Int) ≤ 0) = false := by simp; omega
  have t2 : ¬ (y : Int) = 0 := by omega
  have h1 : lo / y ≤ lo := Nat.div_le_self _ _
  have h2 : lo % y ≤ lo := Nat.mod_le _ _
  have q1 : Int.tdiv (lo : Int) (y : Int) = ((lo / y : Nat) : Int) := by rw [Int.ofNat_tdiv]
  have q2 : Int.tmod (lo : Int) (y : Int) = ((lo % y : Nat) : Int) := by rw [Int.ofNat_tmod]
  generalize lo / y = q at *
  generalize lo % y = r at *
  have w1 : IntKind.u64.wrap (q : Int) = (q : Int) := by rw [IntKind.wrap_u64]; omega
  have w2 : IntKind.u64.wrap (r : Int) = (r : Int) := by rw [IntKind.wrap_u64]; omega
  go_enter Tryz.func134, Tryz.ntmps134
  go_wp2_with fail
  -- BEGIN R6
  refine start_ (n := 8) (S := fun w' => True) (ds := []) #[false, false, false, false, false, false, false, false] (by kernel_rfl) rfl rfl trivial (fun hHeld => ?_)
  refine pure_ (i := 0) (N := some 28) (v := ?_) (a' := ?_) #[true, false, false, false, false, false, false, false] rfl rfl (by kernel_rfl) (fun _ _ _ h => h) (Or.inl ⟨by rfl, ?_⟩) ?_ ?_
  rotate_left
  · intro w'
    go_simp
    with_reducible rfl
  rotate_left
  · simp only [Act.put, List.setIfInBounds_toArray, List.set_cons_zero, List.set_cons_succ, i64_w, i32_w]
    rfl
  refine pure_ (i := 1) (N := some 29) (v := ?_) (a' := ?_) #[true, true, false, false, false, false, false, false] rfl rfl (by kernel_rfl) (fun _ _ _ h => h) (Or.inl ⟨by rfl, ?_⟩) ?_ ?_
  rotate_left
  · intro w'
    go_simp
    with_reducible rfl
  rotate_left
  · simp only [Act.put, List.setIfInBounds_toArray, List.set_cons_zero, List.set_cons_succ, i64_w, i32_w]
    rfl
  refine pure_ (i := 2) (N := some 30) (v := ?_) (a' := ?_) #[true, true, true, false, false, false, false, false] rfl rfl (by kernel_rfl) (fun _ _ _ h => h) (Or.inl ⟨by rfl, ?_⟩) ?_ ?_
  rotate_left
  · intro w'
    go_simp
    with_reducible rfl
  rotate_left
  · simp only [Act.put, List.setIfInBounds_toArray, List.set_cons_zero, List.set_cons_succ, i64_w, i32_w]
    rfl
  refine pure_ (i := 3) (N := some 31) (v := ?_) (a' := ?_) #[true, true, true, true, false, false, false, false] rfl rfl (by kernel_rfl) (fun _ _ _ h => h) (Or.inl ⟨by rfl, ?_⟩) ?_ ?_
  rotate_left
  · intro w'
    go_simp
    with_reducible rfl
  rotate_left
  · simp only [Act.put, List.setIfInBounds_toArray, List.set_cons_zero, List.set_cons_succ, i64_w, i32_w]
    rfl
  refine pure_ (i := 4) (N := some 32) (v := ?_) (a' := ?_) #[true, true, true, true, true, false, false, false] rfl rfl (by kernel_rfl) (fun _ _ _ h => h) (Or.inl ⟨by rfl, ?_⟩) ?_ ?_
  rotate_left
  · intro w'
    go_simp
    with_reducible rfl
  rotate_left
  · simp only [Act.put, List.setIfInBounds_toArray, List.set_cons_zero, List.set_cons_succ, i64_w, i32_w]
    rfl
  refine pure_ (i := 5) (N := some 33) (v := ?_) (a' := ?_) #[true, true, true, true, true, true, false, false] rfl rfl (by kernel_rfl) (fun _ _ _ h => h) (Or.inl ⟨by rfl, ?_⟩) ?_ ?_
  rotate_left
  · intro w'
    go_simp
    with_reducible rfl
  rotate_left
  · simp only [Act.put, List.setIfInBounds_toArray, List.set_cons_zero, List.set_cons_succ, i64_w, i32_w]
    rfl
  refine pure_ (i := 6) (N := some 6) (v := ?_) (a' := ?_) #[true, true, true, true, true, true, true, false] rfl rfl (by kernel_rfl) (fun _ _ _ h => h) (Or.inl ⟨by rfl, ?_⟩) ?_ ?_
  rotate_left
  · intro w'
    go_simp
    with_reducible rfl
  rotate_left
  · simp only [Act.put, List.setIfInBounds_toArray, List.set_cons_zero, List.set_cons_succ, i64_w, i32_w]
    rfl
  refine pure_ (i := 7) (N := some 7) (v := ?_) (a' := ?_) #[true, true, true, true, true, true, true, true] rfl rfl (by kernel_rfl) (fun _ _ _ h => h) (Or.inl ⟨by rfl, ?_⟩) ?_ ?_
  rotate_left
  · intro w'
    go_simp
    with_reducible rfl
  rotate_left
  · simp only [Act.put, List.setIfInBounds_toArray, List.set_cons_zero, List.set_cons_succ, i64_w, i32_w]
    rfl
  refine done_ (by kernel_rfl) ?_
  -- END R6
  go_wp2_with fail
  refine bodyPost_ret (results_tmp2 rfl _ _ _) rfl ?_
  exact ⟨rfl, 1, rfl⟩
theorem msr_nat2 {p q : Nat} (h : p + 1 = q) : (intOf (.int .u64 (p : Int))).toNat < (intOf (.int .u64 (q : Int))).toNat := by
  show (p : Int).toNat < (q : Int).toNat
  omega
theorem words_two_ {b c u x1 x0 L V : Nat} (hc : c = b * b) (h1 : u * c + L = V) (h2 : L = x1 * b + x0) : (u * b + x1) * b + x0 = V := by
  rw [← h1, h2, hc, Nat.add_mul, Nat.mul_assoc, Nat.add_assoc]
theorem words_two {u x1 x0 L V : Nat} (h1 : u * 18446744073709551616 + L = V) (h2 : L = x1 * 4294967296 + x0) : (u * 4294967296 + x1) * 4294967296 + x0 = V :=
  words_two_ (by decide) h1 h2
theorem two_wrap (a b : Nat) (ha : a < 4294967296) (hb : b < 4294967296) : IntKind.u64.wrap (IntKind.u64.wrap ((a : Int) * 4294967296) + (b : Int)) = ((a * 4294967296 + b : Nat) : Int) := by
  rw [IntKind.wrap_u64, IntKind.wrap_u64]
  omega
theorem digit_wrap {y q u x : Nat} (hq : q * y ≤ u * 4294967296 + x) (hd : u * 4294967296 + x - q * y < 18446744073709551616) :
    IntKind.u64.wrap (IntKind.u64.wrap (IntKind.u64.wrap ((u : Int) * 4294967296) + (x : Int)) - IntKind.u64.wrap ((q : Int) * (y : Int))) = ((u * 4294967296 + x - q * y : Nat) : Int) := by
  rw [← Int.natCast_mul]
  simp only [IntKind.wrap_u64]
  generalize q * y = p at *
  omega
set_option maxHeartbeats 1000000 in
set_option maxRecDepth 100000 in
theorem div64U (hi lo y U : Nat) (hUU : U = hi * 18446744073709551616 + lo) (hh : hi < y) (hp : 0 < hi) (hl : lo < 18446744073709551616) (hy : y < 18446744073709551616) (w : World) :
    Calls Tryz.prog 134 #[.int .u64 (hi : Int), .int .u64 (lo : Int), .int .u64 (y : Int)] w fun e w' => e = .returned (.tuple #[.int .u64 ((U / y : Nat) : Int), .int .u64 ((U % y : Nat) : Int)]) ∧ ∃ k, w' = w.drewN k := by
  obtain ⟨QQ, hQQ⟩ : ∃ QQ, QQ = U / y := ⟨_, rfl⟩
  obtain ⟨RR, hRR⟩ : ∃ RR, RR = U % y := ⟨_, rfl⟩
  rw [← hQQ, ← hRR]
  have HQR := Aside0.mk (And.intro hQQ hRR)
  clear hQQ hRR
  have t0 : ((y : Int) == 0) = false := by simp; omega
  have t1 : decide ((y : Int) ≤ (hi : Int)) = false := by simp; omega
  have t2 : ((hi : Int) == 0) = false := by simp; omega
  obtain ⟨l1, l2, l3, l4⟩ := lead_top y (by omega) hy
  have hlead := lead64N y
  obtain ⟨s, hs⟩ : ∃ s, s = 64 - Lib.bitLen y := ⟨_, rfl⟩
  rw [← hs] at l1 l2 hlead
  have hs64 : s ≤ 63 := by omega
  clear hs l3 l4
  obtain ⟨a1, a2, a3⟩ := shift_words hi lo y s (by omega) l2 hh hl
  rw [← hUU] at a1
  have p0 : 0 < 2 ^ s := Nat.pow_pos (by omega)
  obtain ⟨Y, hY⟩ : ∃ Y, Y = y * 2 ^ s := ⟨_, rfl⟩
  obtain ⟨u, hu⟩ : ∃ u, u = hi * 2 ^ s + lo / 2 ^ (64 - s) := ⟨_, rfl⟩
  obtain ⟨L, hL⟩ : ∃ L, L = lo * 2 ^ s % 18446744073709551616 := ⟨_, rfl⟩
  have hLlt : L < 18446744073709551616 := by rw [hL]; exact Nat.mod_lt _ (by omega)
  obtain ⟨H, hH⟩ : ∃ H, H = hi * 2 ^ s := ⟨_, rfl⟩
  obtain ⟨M, hM⟩ : ∃ M, M = lo / 2 ^ (64 - s) := ⟨_, rfl⟩
  rw [← hY] at l1 l2 a2
  rw [← hu] at a1 a2
  rw [← hL] at a1
  rw [← hM] at a3
  rw [← hH, ← hM] at hu
  have hcast : ∀ a : Nat, ((a : Int) * 2 ^ s) = ((a * 2 ^ s : Nat) : Int) := fun a => by simp
  have f1 : IntKind.u64.wrap ((y : Int) * 2 ^ s) = (Y : Int) := by rw [hcast, ← hY, IntKind.wrap_u64]; omega
  have f4a : IntKind.u64.wrap ((hi : Int) * 2 ^ s) = (H : Int) := by rw [hcast, ← hH, IntKind.wrap_u64]; omega
  have f4b : (lo : Int) / 2 ^ (64 - s) = (M : Int) := by rw [hM]; simp
  have f5 : IntKind.u64.wrap ((lo : Int) * 2 ^ s) = (L : Int) := by rw [hcast, IntKind.wrap_u64, hL]; omega
  obtain ⟨y1, hy1⟩ : ∃ y1, y1 = Y / 4294967296 := ⟨_, rfl⟩
  obtain ⟨y0, hy0⟩ : ∃ y0, y0 = Y % 4294967296 := ⟨_, rfl⟩
  obtain ⟨x1, hx1⟩ : ∃ x1, x1 = L / 4294967296 := ⟨_, rfl⟩
  obtain ⟨x0, hx0⟩ : ∃ x0, x0 = L % 4294967296 := ⟨_, rfl⟩
  have f2 : (Y : Int) / 4294967296 = (y1 : Int) := by omega
  have f3 : Go.bits .and .u64 (Y : Int) 4294967295 = (y0 : Int) := by rw [Mul64.maskN Y l2, hy0]
  have f6 : (L : Int) / 4294967296 = (x1 : Int) := by omega
  have f7 : Go.bits .and .u64 (L : Int) 4294967295 = (x0 : Int) := by rw [Mul64.maskN L hLlt, hx0]
  have f4 : Go.bits .or .u64 (H : Int) (M : Int) = (u : Int) := by
    rw [bits_or_u64_nat H M (by omega) (by omega), hu, hH, Nat.mul_comm, ← Nat.two_pow_add_eq_or_of_lt a3]
  have HV := Aside0.mk (show Halves y1 y0 u x1 from ⟨by omega, by omega, by omega, by omega, by omega⟩)
  have hYe : Y = y1 * 4294967296 + y0 := by omega
  have hLe : L = x1 * 4294967296 + x0 := by omega
  have hy1p : 0 < y1 := by omega
  have hu64 : u < 18446744073709551616 := by omega
  have HA := Aside0.mk a1
  have HE := Aside0.mk (show Y = y * 2 ^ s ∧ Y = y1 * 4294967296 + y0 ∧ L = x1 * 4294967296 + x0 ∧ 2147483648 ≤ y1 ∧ y1 < 4294967296 ∧ y0 < 4294967296 ∧ x1 < 4294967296 ∧ x0 < 4294967296 ∧ u < Y ∧ Y < 18446744073709551616 from ⟨hY, hYe, hLe, by omega, by omega, by omega, by omega, by omega, a2, l2⟩)
  have tq : (u : Int).tdiv (y1 : Int) = ((u / y1 : Nat) : Int) := by rw [Int.ofNat_tdiv]
  have hql : u / y1 ≤ u := Nat.div_le_self _ _
  have hqm := Nat.div_add_mod u y1
  have t5 : ¬ (y1 : Int) = 0 := by omega
  have t6 : ((y1 : Int) == 0) = false := by simp; omega
  obtain ⟨q, hq⟩ : ∃ q, q = u / y1 := ⟨_, rfl⟩
  obtain ⟨r, hr⟩ : ∃ r, r = u % y1 := ⟨_, rfl⟩
  have HG := Aside0.mk (guess_first HV.out)
  rw [← hq, ← hr] at HG hqm
  rw [← hq] at tq hql
  have f8 : IntKind.u64.wrap (q : Int) = (q : Int) := by rw [IntKind.wrap_u64]; omega
  have f9 : IntKind.u64.wrap ((u : Int) - IntKind.u64.wrap ((q : Int) * (y1 : Int))) = (r : Int) := by
    rw [← Int.natCast_mul]
    rw [Nat.mul_comm] at hqm
    simp only [IntKind.wrap_u64]
    generalize q * y1 = z at *
    omega
  have HD := Aside0.mk (guess_lt HV.out)
  obtain ⟨d1, hd1⟩ : ∃ d1, d1 = (u * 4294967296 + x1) / (y1 * 4294967296 + y0) := ⟨_, rfl⟩
  rw [← hd1] at HD
  have HD1 := Aside0.mk hd1
  clear hUU a1 a2 a3 hY hu hL hH hM hy1 hy0 hx1 hx0 hYe hLe hql hqm hq hr hd1 l1 l2 hLlt hcast
  go_enter Tryz.func134, Tryz.ntmps134
  go_upto_block 0 with (fail)
  refine (hlead _ hy).mono ?_
  rintro e w' ⟨rfl, rfl⟩
  go_upto_block 0 with (fail)
  go_cut [15] (fun v15 wc => v15 = .int .u64 (d1 : Int) ∧ wc = w')
  case first =>
    go_wp2_with fail
    go_loopw [15, 16] (fun v15 v16 wr => ∃ q r : Nat, v15 = .int .u64 (q : Int) ∧ v16 = .int .u64 (r : Int) ∧ Aside0 (Guess y1 y0 u x1 q r) ∧ Aside0 (wr = w')) (fun v15 _ _ => (intOf v15).toNat)
    case atStart => exact ⟨_, _, rfl, rfl, HG, ⟨rfl⟩⟩
    case round =>
      obtain ⟨q, r, rfl, rfl, HGq, HWr⟩ := hrel
      obtain rfl := HWr.out
      have hrl := HGq.out.rl
      have hql := HGq.out.le
      by_cases hc : 4294967296 ≤ q
      · have c1 : decide ((q : Int) ≥ 4294967296) = true := by simp; omega
        have c1' : decide (4294967296 ≤ q) = true := by simp; omega
        obtain ⟨qd, hqd⟩ : ∃ qd, qd = q - 1 := ⟨_, rfl⟩
        have s1 : IntKind.u64.wrap ((q : Int) - 1) = (qd : Int) := by rw [IntKind.wrap_u64]; omega
        obtain ⟨rd_, hrd⟩ : ∃ rd_, rd_ = r + y1 := ⟨_, rfl⟩
        have s2 : IntKind.u64.wrap ((r : Int) + (y1 : Int)) = (rd_ : Int) := by have := HE.out; rw [IntKind.wrap_u64]; omega
        by_cases ho : 4294967296 ≤ rd_
        · have c2 : decide ((rd_ : Int) ≥ 4294967296) = true := by simp; omega
          have c2' : decide (4294967296 ≤ rd_) = true := by simp; omega
          have HO := Aside0.mk (hqd.trans (guess_out HV.out HGq.out (.inl hc) (hrd ▸ ho)))
          clear hc ho hqd hrd
          go_wp2_with fail
          go_meet
          case rel => exact ⟨congrArg (fun z : Nat => Value.int .u64 (z : Int)) (HO.out.trans HD1.out.symm), rfl⟩
        · have c2 : decide ((rd_ : Int) ≥ 4294967296) = false := by simp; omega
          have c2' : decide (4294967296 ≤ rd_) = false := by simp; omega
          have HO := Aside0.mk (show Guess y1 y0 u x1 qd rd_ from by rw [hqd, hrd]; exact guess_next HV.out HGq.out (.inl hc) (by omega))
          have HQ := Aside0.mk (show qd + 1 = q by omega)
          clear hc ho hqd hrd
          go_wp2_with fail
          go_roundw
          case rel => exact ⟨_, _, rfl, rfl, HO, ⟨by trivial⟩⟩
          case measure => exact msr_nat2 HQ.out
      · have c1 : decide ((q : Int) ≥ 4294967296) = false := by simp; omega
        have c1' : decide (4294967296 ≤ q) = false := by simp; omega
        have hm : q * y0 ≤ 4294967295 * 4294967295 := Nat.mul_le_mul (by omega) (by have := HE.out; omega)
        have s3 : IntKind.u64.wrap ((q : Int) * (y0 : Int)) = ((q * y0 : Nat) : Int) := by rw [← Int.natCast_mul, IntKind.wrap_u64]; omega
        obtain ⟨z, hz⟩ : ∃ z, z = q * y0 := ⟨_, rfl⟩
        rw [← hz] at s3 hm
        have s4 : IntKind.u64.wrap (4294967296 * (r : Int)) = ((4294967296 * r : Nat) : Int) := by rw [IntKind.wrap_u64]; omega
        obtain ⟨t, ht⟩ : ∃ t, t = 4294967296 * r := ⟨_, rfl⟩
        rw [← ht] at s4
        have s5 : IntKind.u64.wrap ((t : Int) + (x1 : Int)) = ((t + x1 : Nat) : Int) := by have := HE.out; rw [IntKind.wrap_u64]; omega
        obtain ⟨t2, ht2⟩ : ∃ t2, t2 = t + x1 := ⟨_, rfl⟩
        rw [← ht2] at s5
        by_cases hb : t2 < z
        · have c3 : decide ((z : Int) > (t2 : Int)) = true := by simp; omega
          have c3' : decide (t2 < z) = true := by simp; omega
          have hq1 : 1 ≤ q := by
            rcases Nat.eq_zero_or_pos q with h | h
            · rw [h, Nat.zero_mul] at hz; omega
            · exact h
          obtain ⟨qd, hqd⟩ : ∃ qd, qd = q - 1 := ⟨_, rfl⟩
          have s1 : IntKind.u64.wrap ((q : Int) - 1) = (qd : Int) := by rw [IntKind.wrap_u64]; omega
          obtain ⟨rd_, hrd⟩ : ∃ rd_, rd_ = r + y1 := ⟨_, rfl⟩
          have s2 : IntKind.u64.wrap ((r : Int) + (y1 : Int)) = (rd_ : Int) := by have := HE.out; rw [IntKind.wrap_u64]; omega
          have hbb : 4294967296 ≤ q ∨ 4294967296 * r + x1 < q * y0 := .inr (by omega)
          by_cases ho : 4294967296 ≤ rd_
          · have c2 : decide ((rd_ : Int) ≥ 4294967296) = true := by simp; omega
            have c2' : decide (4294967296 ≤ rd_) = true := by simp; omega
            have HO := Aside0.mk (hqd.trans (guess_out HV.out HGq.out hbb (hrd ▸ ho)))
            clear hc ho hb hbb hz ht ht2 hqd hrd
            go_wp2_with fail
            go_meet
            case rel => exact ⟨congrArg (fun z : Nat => Value.int .u64 (z : Int)) (HO.out.trans HD1.out.symm), rfl⟩
          · have c2 : decide ((rd_ : Int) ≥ 4294967296) = false := by simp; omega
            have c2' : decide (4294967296 ≤ rd_) = false := by simp; omega
            have HO := Aside0.mk (show Guess y1 y0 u x1 qd rd_ from by rw [hqd, hrd]; exact guess_next HV.out HGq.out hbb (by omega))
            have HQ := Aside0.mk (show qd + 1 = q by omega)
            clear hc ho hb hbb hz ht ht2 hq1 hqd hrd
            go_wp2_with fail
            go_roundw
            case rel => exact ⟨_, _, rfl, rfl, HO, ⟨by trivial⟩⟩
            case measure => exact msr_nat2 HQ.out
        · have c3 : decide ((z : Int) > (t2 : Int)) = false := by simp; omega
          have c3' : decide (t2 < z) = false := by simp; omega
          have HO := Aside0.mk (guess_done (by have := HE.out; omega) HGq.out.eq HGq.out.ge (show q * y0 ≤ 4294967296 * r + x1 by omega))
          clear hc hb hz ht ht2
          go_wp2_with fail
          go_meet
          case rel => exact ⟨congrArg (fun z : Nat => Value.int .u64 (z : Int)) (HO.out.trans HD1.out.symm), rfl⟩
  case rest =>
    obtain ⟨rfl, rfl⟩ := hcut
    have hE := HE.out
    obtain ⟨k1, k2⟩ := guess_left (y := Y) (u := u) (x := x1) (q := d1) (by omega) (by rw [HD1.out, hE.2.1])
    obtain ⟨u2, hu2⟩ : ∃ u2, u2 = (u * 4294967296 + x1) % Y := ⟨_, rfl⟩
    rw [← hu2] at k2
    have hu2lt : u2 < Y := by rw [hu2]; exact Nat.mod_lt _ (by omega)
    have f10 := digit_wrap k1 (by omega)
    rw [k2] at f10
    have HV2 := Aside0.mk (show Halves y1 y0 u2 x0 from ⟨by omega, by omega, by omega, by omega, by omega⟩)
    have tq2 : (u2 : Int).tdiv (y1 : Int) = ((u2 / y1 : Nat) : Int) := by rw [Int.ofNat_tdiv]
    have hql2 : u2 / y1 ≤ u2 := Nat.div_le_self _ _
    have hqm2 := Nat.div_add_mod u2 y1
    obtain ⟨q2, hq2⟩ : ∃ q, q = u2 / y1 := ⟨_, rfl⟩
    obtain ⟨r2, hr2⟩ : ∃ r, r = u2 % y1 := ⟨_, rfl⟩
    have HG2 := Aside0.mk (guess_first HV2.out)
    rw [← hq2, ← hr2] at HG2 hqm2
    rw [← hq2] at tq2 hql2
    have f11 : IntKind.u64.wrap (q2 : Int) = (q2 : Int) := by rw [IntKind.wrap_u64]; omega
    have f12 : IntKind.u64.wrap ((u2 : Int) - IntKind.u64.wrap ((q2 : Int) * (y1 : Int))) = (r2 : Int) := by
      rw [← Int.natCast_mul]
      rw [Nat.mul_comm] at hqm2
      simp only [IntKind.wrap_u64]
      generalize q2 * y1 = z at *
      omega
    obtain ⟨d0, hd0⟩ : ∃ d0, d0 = (u2 * 4294967296 + x0) / (y1 * 4294967296 + y0) := ⟨_, rfl⟩
    have HD2 := Aside0.mk (guess_lt HV2.out)
    rw [← hd0] at HD2
    have HD0 := Aside0.mk hd0
    have HU2 := Aside0.mk (And.intro hu2 hu2lt)
    clear k1 k2 hu2 hu2lt hql2 hqm2 hq2 hr2 hd0 hE
    go_upto_block 2 with (fail)
    go_cut [18] (fun v18 wd => v18 = .int .u64 (d0 : Int) ∧ wd = wc)
    case first =>
      go_wp2_with fail
      go_loopw [18, 16] (fun v18 v16 wr => ∃ q r : Nat, v18 = .int .u64 (q : Int) ∧ v16 = .int .u64 (r : Int) ∧ Aside0 (Guess y1 y0 u2 x0 q r) ∧ Aside0 (wr = wc)) (fun v18 _ _ => (intOf v18).toNat)
      case atStart => exact ⟨_, _, rfl, rfl, HG2, ⟨rfl⟩⟩
      case round =>
        obtain ⟨q, r, rfl, rfl, HGq, HWr⟩ := hrel
        obtain rfl := HWr.out
        have hrl := HGq.out.rl
        have hql := HGq.out.le
        by_cases hc : 4294967296 ≤ q
        · have c1 : decide ((q : Int) ≥ 4294967296) = true := by simp; omega
          have c1' : decide (4294967296 ≤ q) = true := by simp; omega
          obtain ⟨qd, hqd⟩ : ∃ qd, qd = q - 1 := ⟨_, rfl⟩
          have s1 : IntKind.u64.wrap ((q : Int) - 1) = (qd : Int) := by rw [IntKind.wrap_u64]; omega
          obtain ⟨rd_, hrd⟩ : ∃ rd_, rd_ = r + y1 := ⟨_, rfl⟩
          have s2 : IntKind.u64.wrap ((r : Int) + (y1 : Int)) = (rd_ : Int) := by have := HE.out; rw [IntKind.wrap_u64]; omega
          by_cases ho : 4294967296 ≤ rd_
          · have c2 : decide ((rd_ : Int) ≥ 4294967296) = true := by simp; omega
            have c2' : decide (4294967296 ≤ rd_) = true := by simp; omega
            have HO := Aside0.mk (hqd.trans (guess_out HV2.out HGq.out (.inl hc) (hrd ▸ ho)))
            clear hc ho hqd hrd
            go_wp2_with fail
            go_meet
            case rel => exact ⟨congrArg (fun z : Nat => Value.int .u64 (z : Int)) (HO.out.trans HD0.out.symm), rfl⟩
          · have c2 : decide ((rd_ : Int) ≥ 4294967296) = false := by simp; omega
            have c2' : decide (4294967296 ≤ rd_) = false := by simp; omega
            have HO := Aside0.mk (show Guess y1 y0 u2 x0 qd rd_ from by rw [hqd, hrd]; exact guess_next HV2.out HGq.out (.inl hc) (by omega))
            have HQ := Aside0.mk (show qd + 1 = q by omega)
            clear hc ho hqd hrd
            go_wp2_with fail
            go_roundw
            case rel => exact ⟨_, _, rfl, rfl, HO, ⟨by trivial⟩⟩
            case measure => exact msr_nat2 HQ.out
        · have c1 : decide ((q : Int) ≥ 4294967296) = false := by simp; omega
          have c1' : decide (4294967296 ≤ q) = false := by simp; omega
          have hm : q * y0 ≤ 4294967295 * 4294967295 := Nat.mul_le_mul (by omega) (by have := HE.out; omega)
          have s3 : IntKind.u64.wrap ((q : Int) * (y0 : Int)) = ((q * y0 : Nat) : Int) := by rw [← Int.natCast_mul, IntKind.wrap_u64]; omega
          obtain ⟨z, hz⟩ : ∃ z, z = q * y0 := ⟨_, rfl⟩
          rw [← hz] at s3 hm
          have s4 : IntKind.u64.wrap (4294967296 * (r : Int)) = ((4294967296 * r : Nat) : Int) := by rw [IntKind.wrap_u64]; omega
          obtain ⟨t, ht⟩ : ∃ t, t = 4294967296 * r := ⟨_, rfl⟩
          rw [← ht] at s4
          have s5 : IntKind.u64.wrap ((t : Int) + (x0 : Int)) = ((t + x0 : Nat) : Int) := by have := HE.out; rw [IntKind.wrap_u64]; omega
          obtain ⟨t2, ht2⟩ : ∃ t2, t2 = t + x0 := ⟨_, rfl⟩
          rw [← ht2] at s5
          by_cases hb : t2 < z
          · have c3 : decide ((z : Int) > (t2 : Int)) = true := by simp; omega
            have c3' : decide (t2 < z) = true := by simp; omega
            have hq1 : 1 ≤ q := by
              rcases Nat.eq_zero_or_pos q with h | h
              · rw [h, Nat.zero_mul] at hz; omega
              · exact h
            obtain ⟨qd, hqd⟩ : ∃ qd, qd = q - 1 := ⟨_, rfl⟩
            have s1 : IntKind.u64.wrap ((q : Int) - 1) = (qd : Int) := by rw [IntKind.wrap_u64]; omega
            obtain ⟨rd_, hrd⟩ : ∃ rd_, rd_ = r + y1 := ⟨_, rfl⟩
            have s2 : IntKind.u64.wrap ((r : Int) + (y1 : Int)) = (rd_ : Int) := by have := HE.out; rw [IntKind.wrap_u64]; omega
            have hbb : 4294967296 ≤ q ∨ 4294967296 * r + x0 < q * y0 := .inr (by omega)
            by_cases ho : 4294967296 ≤ rd_
            · have c2 : decide ((rd_ : Int) ≥ 4294967296) = true := by simp; omega
              have c2' : decide (4294967296 ≤ rd_) = true := by simp; omega
              have HO := Aside0.mk (hqd.trans (guess_out HV2.out HGq.out hbb (hrd ▸ ho)))
              clear hc ho hb hbb hz ht ht2 hqd hrd
              go_wp2_with fail
              go_meet
              case rel => exact ⟨congrArg (fun z : Nat => Value.int .u64 (z : Int)) (HO.out.trans HD0.out.symm), rfl⟩
            · have c2 : decide ((rd_ : Int) ≥ 4294967296) = false := by simp; omega
              have c2' : decide (4294967296 ≤ rd_) = false := by simp; omega
              have HO := Aside0.mk (show Guess y1 y0 u2 x0 qd rd_ from by rw [hqd, hrd]; exact guess_next HV2.out HGq.out hbb (by omega))
              have HQ := Aside0.mk (show qd + 1 = q by omega)
              clear hc ho hb hbb hz ht ht2 hq1 hqd hrd
              go_wp2_with fail
              go_roundw
              case rel => exact ⟨_, _, rfl, rfl, HO, ⟨by trivial⟩⟩
              case measure => exact msr_nat2 HQ.out
          · have c3 : decide ((z : Int) > (t2 : Int)) = false := by simp; omega
            have c3' : decide (t2 < z) = false := by simp; omega
            have HO := Aside0.mk (guess_done (by have := HE.out; omega) HGq.out.eq HGq.out.ge (show q * y0 ≤ 4294967296 * r + x0 by omega))
            clear hc hb hz ht ht2
            go_wp2_with fail
            go_meet
            case rel => exact ⟨congrArg (fun z : Nat => Value.int .u64 (z : Int)) (HO.out.trans HD0.out.symm), rfl⟩
    case rest =>
      obtain ⟨rfl, rfl⟩ := hcut
      have hE := HE.out
      have hU := HU2.out
      obtain ⟨k1, k2⟩ := guess_left (y := Y) (u := u2) (x := x0) (q := d0) (by omega) (by rw [HD0.out, hE.2.1])
      obtain ⟨u3, hu3⟩ : ∃ u3, u3 = (u2 * 4294967296 + x0) % Y := ⟨_, rfl⟩
      rw [← hu3] at k2
      have hu3lt : u3 < Y := by rw [hu3]; exact Nat.mod_lt _ (by omega)
      have f13 := digit_wrap k1 (by omega)
      rw [k2] at f13
      have f14 : (u3 : Int) / 2 ^ s = ((u3 / 2 ^ s : Nat) : Int) := by simp
      have f15 : IntKind.u64.wrap (IntKind.u64.wrap ((d1 : Int) * 4294967296) + (d0 : Int)) = ((d1 * 4294967296 + d0 : Nat) : Int) := by
        have h1 := HD.out
        have h2 := HD2.out
        exact two_wrap d1 d0 h1 h2
      obtain ⟨td1, td2⟩ := two_digits (y := Y) (u := u) (x1 := x1) (x0 := x0) (by omega)
      rw [← hU.1] at td1 td2
      have ea := words_two HA.out hE.2.2.1
      rw [ea] at td1 td2
      have e1 := HD1.out
      have e0 := HD0.out
      rw [← hE.2.1] at e1 e0
      rw [← e1, ← e0] at td1
      obtain ⟨sd1, sd2⟩ := shift_div U y s
      rw [← hE.1] at sd1 sd2
      rw [sd1] at td1
      rw [← hu3] at td2
      rw [← td2] at sd2
      rw [td1] at f15
      rw [sd2] at f14
      rw [← HQR.out.1] at f15
      rw [← HQR.out.2] at f14
      clear k1 k2 hu3 hu3lt ea e1 e0 sd1 sd2 td1 td2 hE hU
      go_wp2_with fail
      refine bodyPost_ret (results_tmp2 rfl _ _ _) rfl ?_
      exact ⟨rfl, 0, rfl⟩
/-- Div64: the quotient of two words by one above the upper one, and what is left. -/
theorem div64N (hi lo y : Nat) (hh : hi < y) (hl : lo < 18446744073709551616) (hy : y < 18446744073709551616) (w : World) :
    Calls Tryz.prog 134 #[.int .u64 (hi : Int), .int .u64 (lo : Int), .int .u64 (y : Int)] w fun e w' => e = .returned (.tuple #[.int .u64 (((hi * 18446744073709551616 + lo) / y : Nat) : Int), .int .u64 (((hi * 18446744073709551616 + lo) % y : Nat) : Int)]) ∧ ∃ k, w' = w.drewN k := by
  rcases Nat.eq_zero_or_pos hi with h | h
  · subst h
    rw [show 0 * 18446744073709551616 + lo = lo by omega]
    exact div64_0 lo y hl hh hy w
  · exact div64U hi lo y _ rfl hh h hl hy w
end Go.Proofs.YtjpibgehhgaopaaGreat.Top
