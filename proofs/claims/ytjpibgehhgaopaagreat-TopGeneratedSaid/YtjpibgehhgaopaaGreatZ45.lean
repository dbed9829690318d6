/- The references: small, Small, Factor. -/
import Derived.Laws.Bits64b
import Derived.Test.YtjpibgehhgaopaaGreatZ44
namespace Go.Proofs.YtjpibgehhgaopaaGreat.Top
open Go.RowKit Go.Proofs.YtjpibgehhgaopaaGreatW.PrintWords Go.Proofs.YtjpibgehhgaopaaGreatW.PrintLast Go.Proofs.YtjpibgehhgaopaaGreat.PTopGenerated
set_option linter.unusedVariables false
set_option linter.unusedSimpArgs false

set_option maxHeartbeats 1000000 in
set_option maxRecDepth 100000 in
/-- The reference's small: something or other. -/
theorem smallB (n : Nat) (w : World) (h2 : 2 ≤ n) (hn : n ≤ 10000) : Calls Tryz.prog 54 #[.int .i64 (n : Int)] w fun x w' => (x = .returned (.bool true) ∨ x = .returned (.bool false)) ∧ w' = w := by
  go_enter Tryz.func54, Tryz.ntmps54
  go_wp2_with fail
  go_loopw [3] (fun v3 wr => ∃ d : Nat, v3 = .int .i64 (d : Int) ∧ Aside0 (2 ≤ d ∧ d ≤ n + 2 ∧ wr = w)) (fun v3 _ => n + 3 - (intOf v3).toNat)
  case atStart => exact ⟨2, rfl, ⟨by omega, by omega, rfl⟩⟩
  case round =>
    obtain ⟨d, rfl, HD⟩ := hrel
    obtain ⟨hd2, hdn, hwr⟩ := HD.out
    have hwr' := hwr.symm
    clear hwr
    subst hwr'
    have HB := Aside0.mk (And.intro hd2 hdn)
    have hd0 : ((d : Int) == 0) = false := by
      rw [beq_eq_false_iff_ne]
      omega
    have hd1 : d ≠ 0 := by omega
    have hdd : wrap64 ((d : Int) * (d : Int)) = (d : Int) * (d : Int) := by
      have h1 : (d : Int) ≤ 10002 := by omega
      have h2 : (0 : Int) ≤ (d : Int) := by omega
      have h3 : (d : Int) * (d : Int) ≤ 10002 * 10002 := Int.mul_le_mul h1 h1 h2 (by omega)
      have h4 : (0 : Int) ≤ (d : Int) * (d : Int) := Int.mul_nonneg h2 h2
      exact wrap64_id (by omega) (by omega)
    have w3 : wrap64 ((d : Int) + 1) = ((d + 1 : Nat) : Int) := wrap64_id (by omega) (by omega)
    by_cases hle : (d : Int) * (d : Int) ≤ (n : Int)
    · have t1 : decide (wrap64 ((d : Int) * (d : Int)) ≤ (n : Int)) = true := by rw [hdd]; exact decide_eq_true hle
      have hdn' : d ≤ n := by
        have h1 : (d : Int) * 1 ≤ (d : Int) * (d : Int) := Int.mul_le_mul_of_nonneg_left (by omega) (by omega)
        omega
      have HDN := Aside0.mk hdn'
      clear hle hdd hdn hd2 hdn' HD
      rcases hb : (((n : Int) % (d : Int)) == 0) with _ | _
      · go_wp2_with fail
        go_roundw
        case rel => exact ⟨d + 1, by first | rfl | exact congrArg (Value.int .i64) w3, ⟨by have := HB.out.1; omega, by have := HDN.out; omega, by first | rfl | trivial⟩⟩
        case measure => first | (rw [w3]; show n + 3 - ((d + 1 : Nat) : Int).toNat < n + 3 - (d : Int).toNat; have := HDN.out; omega) | (show n + 3 - ((d : Int) + 1).toNat < n + 3 - (d : Int).toNat; have := HDN.out; omega)
      · go_wp2_with fail
        go_ret
        exact ⟨.inr rfl, rfl⟩
    · have t1 : decide (wrap64 ((d : Int) * (d : Int)) ≤ (n : Int)) = false := by rw [hdd]; exact decide_eq_false hle
      clear hle hdd hdn hd2 HD
      have t2 : decide ((1 : Int) < (n : Int)) = true := by rw [decide_eq_true_eq]; omega
      go_wp2_with fail
      go_ret
      exact ⟨.inl rfl, rfl⟩
theorem rem_step {x j d : Nat} (h2 : 2 ≤ d) : x / 2 ^ j % d = if d ≤ 2 * (x / 2 ^ (j + 1) % d) + x / 2 ^ j % 2 then 2 * (x / 2 ^ (j + 1) % d) + x / 2 ^ j % 2 - d else 2 * (x / 2 ^ (j + 1) % d) + x / 2 ^ j % 2 := by
  have e1 : x / 2 ^ (j + 1) = x / 2 ^ j / 2 := by rw [Nat.pow_succ, Nat.div_div_eq_div_mul]
  rw [e1]
  generalize x / 2 ^ j = q
  have hr : q / 2 % d < d := Nat.mod_lt _ (by omega)
  have e2 : q % d = (2 * (q / 2 % d) + q % 2) % d := by
    conv => lhs; rw [show q = 2 * (q / 2) + q % 2 by omega]
    rw [Nat.add_mod (2 * (q / 2)), Nat.mul_mod 2 (q / 2), Nat.add_mod (2 * (q / 2 % d)), Nat.mul_mod 2 (q / 2 % d), Nat.mod_mod]
  rw [e2]
  generalize q / 2 % d = r at *
  have hb : q % 2 < 2 := Nat.mod_lt _ (by omega)
  generalize q % 2 = b at *
  split
  · rw [Nat.mod_eq_sub_mod (by omega), Nat.mod_eq_of_lt (by omega)]
  · exact Nat.mod_eq_of_lt (by omega)
theorem or_step {r b : Nat} (hr : r < 10000) (hb : b < 2) : Go.bits .or .u64 ((2 * r : Nat) : Int) (b : Int) = ((2 * r + b : Nat) : Int) := by
  rw [bits_or_u64_nat _ _ (by omega) (by omega)]
  have := Nat.two_pow_add_eq_or_of_lt (i := 1) (b := b) (by simpa using hb) r
  rw [Nat.pow_one] at this
  rw [this]
set_option maxHeartbeats 1000000 in
set_option maxRecDepth 100000 in
/-- The reference's Small: the rest. -/
theorem smallR (A : Option Addr) (c x d : Nat) (w : World) (h : Num w A c [x]) (h2 : 2 ≤ d) (hd : d ≤ 10000) : Calls Tryz.prog 55 #[.slice A 1 c, .int .u64 (d : Int)] w fun e w' => e = .returned (.tuple #[.int .u64 ((x % d : Nat) : Int), .int .i64 0]) ∧ w' = w := by
  have hxw := h.w64 x (by simp)
  obtain ⟨ad, rfl, hc⟩ := h.oneK
  have hc0 := hc _ (Kp.refl _)
  have hd0 : ((d : Int) == 0) = false := by
    rw [beq_eq_false_iff_ne]
    omega
  have HX := Aside0.mk hxw
  clear h hc
  go_enter Tryz.func55, Tryz.ntmps55
  go_wp2_with fail
  go_loopw [6, 7] (fun v6 v7 wr => ∃ j : Nat, v7 = .int .i64 ((j : Int) - 1) ∧ v6 = .int .u64 ((x / 2 ^ j % d : Nat) : Int) ∧ Aside0 (j ≤ 64 ∧ wr = w)) (fun _ v7 _ => (intOf v7 + 1).toNat)
  case atStart => exact ⟨64, rfl, by rw [Nat.div_eq_of_lt (by simpa using hxw)]; simp, ⟨by omega, rfl⟩⟩
  case round =>
    obtain ⟨j, rfl, rfl, HJ⟩ := hrel
    obtain ⟨hj, hwr⟩ := HJ.out
    have hwr' := hwr.symm
    clear hwr
    subst hwr'
    rcases j with _ | j
    · have t1 : decide (((0 : Nat) : Int) - 1 ≥ 0) = false := by decide
      simp only [Nat.pow_zero, Nat.div_one]
      go_wp2_with fail
      go_ret2
      exact ⟨rfl, rfl⟩
    · have ej : ((j + 1 : Nat) : Int) - 1 = (j : Int) := by omega
      rw [ej]
      have t1 : decide ((j : Int) ≥ 0) = true := by rw [decide_eq_true_eq]; omega
      have w9 : wrap64 ((j : Int) - 1) = (j : Int) - 1 := wrap64_id (by omega) (by omega)
      obtain ⟨r, hr⟩ : ∃ r, r = x / 2 ^ (j + 1) % d := ⟨_, rfl⟩
      rw [← hr]
      have hrd : r < d := by rw [hr]; exact Nat.mod_lt _ (by omega)
      have hst := rem_step (x := x) (j := j) h2
      rw [← hr] at hst
      obtain ⟨b, hb⟩ : ∃ b, b = x / 2 ^ j % 2 := ⟨_, rfl⟩
      rw [← hb] at hst
      have hb2 : b < 2 := by rw [hb]; exact Nat.mod_lt _ (by omega)
      have hand : Go.bits .and .u64 ((x : Int) / 2 ^ (j % 64)) 1 = (b : Int) := by
        rw [show j % 64 = j by omega]
        have e := bits_and_u64_nat (x / 2 ^ j) 1 (Nat.lt_of_le_of_lt (Nat.div_le_self _ _) hxw) (by omega)
        rw [Nat.and_one_is_mod, ← hb] at e
        have e2 : ((x / 2 ^ j : Nat) : Int) = (x : Int) / 2 ^ j := by simp
        rw [e2] at e
        exact e
      have hshl : IntKind.u64.wrap ((r : Int) * 2) = ((2 * r : Nat) : Int) := by rw [IntKind.wrap_u64]; omega
      have hor := or_step (r := r) (b := b) (by omega) hb2
      have htop : (r : Int) / 9223372036854775808 = 0 := by omega
      have hcj : w.cell? (ad.add (j / 64)) = some (.int .u64 (x : Int)) := by
        rw [show j / 64 = 0 by omega]
        simpa [Addr.add] using hc0
      obtain ⟨z, hz⟩ : ∃ z, z = 2 * r + b := ⟨_, rfl⟩
      rw [← hz] at hor hst
      have HS := Aside0.mk (And.intro hst (And.intro hz (And.intro hrd hb2)))
      have hsub : IntKind.u64.wrap ((z : Int) - (d : Int)) = (z : Int) - (d : Int) ∨ z < d := by
        by_cases hzd : z < d
        · exact .inr hzd
        · exact .inl (by rw [IntKind.wrap_u64]; omega)
      obtain ⟨t, ht⟩ : ∃ t : Nat, t = 2 * r := ⟨_, rfl⟩
      rw [← ht] at hor hshl
      clear hr hst hb hz hb2 hrd ht
      by_cases hzd : d ≤ z
      · have t2 : decide ((z : Int) ≥ (d : Int)) = true := by rw [decide_eq_true_eq]; omega
        have hsb : IntKind.u64.wrap ((z : Int) - (d : Int)) = (z : Int) - (d : Int) := hsub.resolve_right (by omega)
        have HZ := Aside0.mk hzd
        clear hsub
        go_wp2_with fail
        exact ⟨⟨j, rfl, congrArg (Value.int .u64) (by rw [HS.out.1, if_pos HZ.out]; have := HZ.out; omega), ⟨by omega, by first | rfl | trivial⟩⟩, by show ((j : Int) - 1 + 1).toNat < ((j : Int) + 1).toNat; omega⟩
      · have t2 : decide ((z : Int) ≥ (d : Int)) = false := by rw [decide_eq_false_iff_not]; omega
        have HZ := Aside0.mk hzd
        clear hsub
        go_wp2_with fail
        exact ⟨⟨j, rfl, congrArg (Value.int .u64) (by rw [HS.out.1, if_neg HZ.out]), ⟨by omega, by first | rfl | trivial⟩⟩, by show ((j : Int) - 1 + 1).toNat < ((j : Int) + 1).toNat; omega⟩
end Go.Proofs.YtjpibgehhgaopaaGreat.Top
/- The references: Factor, trim, Of, Small, Cmp, Passes, Bit, BitLen, Same. -/
namespace Go.Proofs.YtjpibgehhgaopaaGreat.Top
open Go.RowKit Go.Proofs.YtjpibgehhgaopaaGreatW.PrintWords Go.Proofs.YtjpibgehhgaopaaGreatW.PrintLast Go.Proofs.YtjpibgehhgaopaaGreat.PTopGenerated
set_option linter.unusedVariables false
set_option linter.unusedSimpArgs false

set_option maxHeartbeats 1000000 in
set_option maxRecDepth 100000 in
/-- The reference's Factor, where nothing up to 1000 divides. -/
theorem factorR (A : Option Addr) (c x : Nat) (w : World) (h : Num w A c [x]) (hp : ∀ k, 2 ≤ k → k ≤ 1000 → x % k ≠ 0) : Calls Tryz.prog 34 #[.slice A 1 c, .int .i64 1000] w fun e w' => e = .returned (.int .i64 0) ∧ w' = w := by
  have H := Aside0.mk (And.intro h hp)
  clear h hp
  go_enter Tryz.func34, Tryz.ntmps34
  go_wp2_with fail
  go_loopw [5] (fun v5 wr => ∃ p : Nat, v5 = .int .i64 (p : Int) ∧ Aside0 (2 ≤ p ∧ p ≤ 1001 ∧ wr = w)) (fun v5 _ => 1001 - (intOf v5).toNat)
  case atStart => exact ⟨2, rfl, ⟨by omega, by omega, rfl⟩⟩
  case round =>
    obtain ⟨p, rfl, HP⟩ := hrel
    obtain ⟨hp2, hp1, hwr⟩ := HP.out
    have hwr' := hwr.symm
    clear hwr
    subst hwr'
    by_cases hle : p ≤ 1000
    · have t1 : decide ((p : Int) ≤ 1000) = true := by rw [decide_eq_true_eq]; omega
      have t1' : decide (p ≤ 1000) = true := by rw [decide_eq_true_eq]; omega
      have t2 : decide ((p : Int) ≤ 10000) = true := by rw [decide_eq_true_eq]; omega
      have t2' : decide (p ≤ 10000) = true := by rw [decide_eq_true_eq]; omega
      have w3 : wrap64 ((p : Int) + 1) = ((p + 1 : Nat) : Int) := wrap64_id (by omega) (by omega)
      have w4 : IntKind.u64.wrap (p : Int) = (p : Int) := by rw [IntKind.wrap_u64]; omega
      have HS := Aside0.mk (smallB p w hp2 (by omega))
      have hne := H.out.2 p hp2 hle
      have HR := Aside0.mk (smallR A c x p w H.out.1 hp2 (by omega))
      obtain ⟨q, hq⟩ : ∃ q, q = x % p := ⟨_, rfl⟩
      rw [← hq] at HR hne
      have hq0 : (((q : Nat) : Int) == 0) = false := by rw [beq_eq_false_iff_ne]; omega
      have HB := Aside0.mk (And.intro hp2 hle)
      clear hq hle hp1 hp2 HP
      go_wp2_with fail
      refine HS.out.mono ?_
      rintro e w' ⟨hb, hw'⟩
      have hw2 := hw'.symm
      clear hw'
      subst hw2
      rcases hb with rfl | rfl
      · go_wp2_with fail
        refine HR.out.mono ?_
        rintro e w' ⟨rfl, hw'⟩
        have hw2 := hw'.symm
        clear hw'
        subst hw2
        go_wp2_with fail
        refine ⟨⟨p + 1, by first | rfl | exact congrArg (Value.int .i64) w3, ⟨by have := HB.out; omega, by have := HB.out; omega, by first | rfl | trivial⟩⟩, ?_⟩
        first
          | (rw [w3]; show 1001 - ((p + 1 : Nat) : Int).toNat < 1001 - (p : Int).toNat; have := HB.out; omega)
          | (show 1001 - ((p : Int) + 1).toNat < 1001 - (p : Int).toNat; have := HB.out; omega)
      · go_wp2_with fail
        refine ⟨⟨p + 1, by first | rfl | exact congrArg (Value.int .i64) w3, ⟨by have := HB.out; omega, by have := HB.out; omega, by first | rfl | trivial⟩⟩, ?_⟩
        first
          | (rw [w3]; show 1001 - ((p + 1 : Nat) : Int).toNat < 1001 - (p : Int).toNat; have := HB.out; omega)
          | (show 1001 - ((p : Int) + 1).toNat < 1001 - (p : Int).toNat; have := HB.out; omega)
    · obtain rfl : p = 1001 := by omega
      have t1 : decide (((1001 : Nat) : Int) ≤ 1000) = false := by decide
      go_wp2_with fail
      go_ret
      exact ⟨rfl, rfl⟩
end Go.Proofs.YtjpibgehhgaopaaGreat.Top
/- The references: trim, Of, Small, Cmp, Passes. -/
namespace Go.Proofs.YtjpibgehhgaopaaGreat.Top
open Go.RowKit Go.Proofs.YtjpibgehhgaopaaGreatW.PrintWords Go.Proofs.YtjpibgehhgaopaaGreatW.PrintLast Go.Proofs.YtjpibgehhgaopaaGreat.PTopGenerated
set_option linter.unusedVariables false
set_option linter.unusedSimpArgs false

set_option maxRecDepth 100000 in
/-- trim of what has no nought at its top. -/
theorem trimR (A : Option Addr) (n c : Nat) (t : Int) (ad : Addr) (w : World) (hA : A = some ad) (hn : 1 ≤ n) (hn2 : n ≤ 1000) (hc : w.cell? (ad.add (n - 1)) = some (.int .u32 t)) (ht : t ≠ 0) :
    Calls Tryz.prog 20 #[.slice A n c] w fun e w' => e = .returned (.slice A n c) ∧ w' = w := by
  subst hA
  have t1 : decide ((n : Int) > 0) = true := by rw [decide_eq_true_eq]; omega
  have t1' : decide (0 < n) = true := by rw [decide_eq_true_eq]; omega
  have w1 : wrap64 ((n : Int) - 1) = ((n - 1 : Nat) : Int) := by rw [wrap64_id (by omega) (by omega)]; omega
  have b1 : (0 : Int) ≤ ((n - 1 : Nat) : Int) := by omega
  have b2 : ((n - 1 : Nat) : Int) < (n : Int) := by omega
  have ht2 : (t == 0) = false := by rw [beq_eq_false_iff_ne]; exact ht
  generalize n - 1 = m at *
  have HW := Aside0.mk (And.intro hn hn2)
  clear hn hn2
  go_enter Tryz.func20, Tryz.ntmps20
  go_wp2_with fail
  go_loopw [0] (fun v0 wr => v0 = .slice (some ad) n c ∧ Aside0 (wr = w)) (fun v0 _ => 0)
  case atStart => exact ⟨rfl, ⟨rfl⟩⟩
  case round =>
    obtain ⟨rfl, hwr⟩ := hrel
    have hwr' := hwr.out.symm
    clear hwr
    subst hwr'
    go_wp2_with fail
    go_ret
    exact ⟨rfl, rfl⟩
set_option maxRecDepth 100000 in
/-- trim of 2. -/
theorem trim2 (g : Nat) (w : World) (h : w.heap[g]? = some (.cells #[.int .u32 2, .int .u32 0] 65 (0, 0))) :
    Calls Tryz.prog 20 #[.slice (some ⟨g, 0, none⟩) 2 2] w fun e w' => e = .returned (.slice (some ⟨g, 0, none⟩) 1 2) ∧ w' = w := by
  have c0 : w.cell? ⟨g, 0, none⟩ = some (.int .u32 2) := blk_cell h 0
  have c1 : w.cell? ⟨g, 1, none⟩ = some (.int .u32 0) := blk_cell h 1
  clear h
  go_enter Tryz.func20, Tryz.ntmps20
  go_wp2_with fail
  go_loopw [0] (fun v0 wr => (v0 = .slice (some ⟨g, 0, none⟩) 2 2 ∨ v0 = .slice (some ⟨g, 0, none⟩) 1 2) ∧ Aside0 (wr = w)) (fun v0 _ => match v0 with | .slice _ n _ => n | _ => 0)
  case atStart => exact ⟨.inl rfl, ⟨rfl⟩⟩
  case round =>
    obtain ⟨hv, hwr⟩ := hrel
    have hwr' := hwr.out.symm
    clear hwr
    subst hwr'
    rcases hv with rfl | rfl
    · go_wp2_with fail
      exact ⟨⟨.inr rfl, ⟨by first | rfl | trivial⟩⟩, by show 1 < 2; omega⟩
    · go_wp2_with fail
      go_ret
      exact ⟨rfl, rfl⟩
set_option maxRecDepth 100000 in
theorem small2 (w : World) : Calls Tryz.prog 33 #[.int .u64 2] w fun e w' => ∃ A c, e = .returned (.slice A 1 c) ∧ Below w.heap.size w w' := by
  have HT := Aside0.mk (trim2 w.heap.size (w.alloc (.cells #[.int .u32 2, .int .u32 0] 65)) (heap_alloc_new _ _))
  have HB := Aside0.mk (below_alloc (Below.refl w.heap.size w) (.cells #[.int .u32 2, .int .u32 0] 65))
  go_enter Tryz.func33, Tryz.ntmps33
  go_wp2_with fail
  refine HT.out.mono ?_
  rintro e w' ⟨rfl, hw'⟩
  subst hw'
  go_wp2_with fail
  go_ret
  exact ⟨_, _, rfl, HB.out⟩
set_option maxRecDepth 100000 in
theorem cmpR (A B : Option Addr) (n c d : Nat) (w : World) (hn : 2 ≤ n) (hn2 : n ≤ 1000) : Calls Tryz.prog 32 #[.slice A n c, .slice B 1 d] w fun e w' => e = .returned (.int .i64 1) ∧ w' = w := by
  have t1 : ((n : Int) != 1) = true := by
    rw [bne_iff_ne]
    omega
  have t1' : ¬ n = 1 := by omega
  have t2 : decide ((n : Int) < 1) = false := by rw [decide_eq_false_iff_not]; omega
  have t2' : ¬ n = 0 := by omega
  go_enter Tryz.func32, Tryz.ntmps32
  go_wp2_with fail
  go_ret
  exact ⟨rfl, rfl⟩
/-- The half words of words, the lowest ahead. -/
def spl : List Nat → List Int
  | [] => []
  | w :: r => ((w % 4294967296 : Nat) : Int) :: ((w / 4294967296 : Nat) : Int) :: spl r
theorem spl_len : ∀ x, (spl x).length = 2 * x.length
  | [] => rfl
  | w :: r => by simp [spl, spl_len r]; omega
theorem spl_snoc : ∀ (x : List Nat) (w : Nat), spl (x ++ [w]) = spl x ++ [((w % 4294967296 : Nat) : Int), ((w / 4294967296 : Nat) : Int)]
  | [], _ => rfl
  | v :: r, w => by simp [spl, spl_snoc r w]
theorem take_snoc (x : List Nat) (i : Nat) (h : i < x.length) : x.take (i + 1) = x.take i ++ [x.getD i 0] := by
  rw [List.take_add_one]
  simp [List.getElem?_eq_getElem h, List.getD_eq_getElem?_getD]
theorem u32_reads (w : World) (a b : Int) : ReadsInt (w.alloc (.cells #[.int .u32 a, .int .u32 b] 65)) .u32 (some ⟨w.heap.size, 0, none⟩) 2 [a, b] :=
  ⟨rfl, by decide, fun _ => ⟨_, rfl, fun i hi => by
    rcases (show i = 0 ∨ i = 1 by omega) with rfl | rfl
    · exact blk_cell (heap_alloc_new _ _) 0
    · exact blk_cell (heap_alloc_new _ _) 1⟩⟩
theorem of_bytes {i m : Nat} (h : i < m) (hm : m ≤ 100) : ((spl ([] : List Nat)).length + 2 * i + 2) * 4 ≤ 140737488355328 := by simp [spl]; omega
set_option maxHeartbeats 2000000 in
set_option maxRecDepth 100000 in
/-- Of, of a number whose top word has a bit in its upper half. -/
theorem ofR (A : Option Addr) (c : Nat) (x : List Nat) (top : Nat) (w : World) (h : Num w A c x) (hl : 1 ≤ x.length) (hl2 : x.length ≤ 100) (htop : x.getD (x.length - 1) 0 = top) (ht : 4294967296 ≤ top) :
    Calls Tryz.prog 8 #[.slice A x.length c] w fun e w' => ∃ g c', e = .returned (.slice (some ⟨g, 0, none⟩) (2 * x.length) c') ∧ ReadsInt w' .u32 (some ⟨g, 0, none⟩) (2 * x.length) (spl x) ∧ Below w.heap.size w w' := by
  have H := Aside0.mk (And.intro h (And.intro htop ht))
  obtain ⟨m, hm⟩ : ∃ m, m = x.length := ⟨_, rfl⟩
  rw [← hm] at hl hl2 ⊢
  have HL := Aside0.mk (And.intro hm (And.intro hl hl2))
  clear h htop ht hm hl hl2
  have hu42 := Tryz.underlying42
  go_enter Tryz.func8, Tryz.ntmps8
  go_wp2_with fail
  go_loopw [3, 8] (fun v3 v8 wr => ∃ i : Nat, v8 = .int .i64 (i : Int) ∧ Aside0 (i ≤ m ∧ wr.ownsRow w.heap.size 65 1 v3 (2 * i) (nums .u32 (spl (x.take i))) ∧ Below w.heap.size w wr)) (fun _ v8 _ => m - (intOf v8).toNat)
  case atStart => exact ⟨0, rfl, ⟨by omega, own_nil _ _ _ _, Below.refl _ _⟩⟩
  case round =>
    rename_i v3
    obtain ⟨i, rfl, HI⟩ := hrel
    by_cases hlt : i < m
    · have HLT := Aside0.mk hlt
      have t1 : decide ((i : Int) < (m : Int)) = true := by rw [decide_eq_true_eq]; omega
      have t1' : decide (i < m) = true := by rw [decide_eq_true_eq]; omega
      have w3 : wrap64 ((i : Int) + 1) = ((i + 1 : Nat) : Int) := wrap64_id (by have := HL.out.2.2; omega) (by have := HL.out.2.2; omega)
      have b1 : (0 : Int) ≤ (i : Int) := by omega
      have b2 : (i : Int) < (m : Int) := by omega
      obtain ⟨ad, hA, hc⟩ := (H.out.1.below HI.out.2.2).at_ i (by have := HL.out.1; omega)
      have hxw := getD_w H.out.1.w64 i
      have HT := Aside0.mk (take_snoc x i (by have := HL.out.1; omega))
      generalize x.getD i 0 = u at *
      obtain ⟨lo, hlo⟩ : ∃ lo, lo = u % 4294967296 := ⟨_, rfl⟩
      obtain ⟨hi, hhi⟩ : ∃ hi, hi = u / 4294967296 := ⟨_, rfl⟩
      have e1 : (u : Int) % 4294967296 = (lo : Int) := by omega
      have e2 : (u : Int) / 4294967296 = (hi : Int) := by omega
      have e3 : (hi : Int) % 4294967296 = (hi : Int) := by omega
      have HLH := Aside0.mk (And.intro hlo hhi)
      clear hlo hhi hxw
      obtain ⟨A3, c3, hv3⟩ := own_slice HI.out.2.1
      subst hA
      subst hv3
      have hlen : (spl (x.take i)).length = 2 * i := by rw [spl_len, List.length_take]; have := HL.out.1; omega
      have HO := Aside0.mk (show (wr.alloc (.cells #[.int .u32 (lo : Int), .int .u32 (hi : Int)] 65)).ownsRow w.heap.size 65 1 (.slice A3 (2 * i) c3) (spl (x.take i)).length (nums .u32 (spl (x.take i))) by rw [hlen]; exact HI.out.2.1.alloc _)
      have HR := Aside0.mk (u32_reads wr (lo : Int) (hi : Int))
      have HB := Aside0.mk (HI.out.2.2.alloc HI.out.2.2.size (.cells #[.int .u32 (lo : Int), .int .u32 (hi : Int)] 65))
      have HZ := Aside0.mk (show w.heap.size ≤ (wr.alloc (.cells #[.int .u32 (lo : Int), .int .u32 (hi : Int)] 65)).heap.size from HB.out.size)
      have HLN := Aside0.mk (show ((spl (x.take i)).length + 2) * 4 ≤ 140737488355328 by rw [hlen]; have := HL.out.2.2; have := HLT.out; omega)
      have HLen := Aside0.mk hlen
      clear hlt hlen
      go_wp2_with (at_builtin; refine print_append_row (w0 := w) w.heap.size rfl (.tmp 12) (.tmp 18) 42 65 .u32 4 rfl hu42 info65 (by decide) (.slice A3 (2 * i) c3) (spl (x.take i)) [(lo : Int), (hi : Int)] (some ⟨wr.heap.size, 0, none⟩) 2 2 rfl rfl HO.out HR.out HB.out HZ.out HLN.out ?_; intro v1 w1 hR1 hB1 hg1 hat1; have HR1 := Aside0.mk (And.intro hR1 hB1); clear hR1 hB1 hg1 hat1)
      refine ⟨⟨i + 1, by first | rfl | exact congrArg (Value.int .i64) w3, ⟨HLT.out, ?_, HR1.out.2⟩⟩, ?_⟩
      · have h1 := HR1.out.1
        rw [HT.out, spl_snoc, ← HLH.out.1, ← HLH.out.2]
        rw [List.length_append, HLen.out] at h1
        exact h1
      · first | exact msr1' i m HLT.out | (rw [w3]; exact msr1' i m HLT.out)
    · obtain rfl : i = m := by have := HI.out.1; omega
      have t1 : decide ((i : Int) < (i : Int)) = false := by simp
      have hfin := HI.out.2.1
      rw [List.take_of_length_le (by have := HL.out.1; omega)] at hfin
      obtain ⟨g, c3, rfl, _, _⟩ := hfin.form (by have := HL.out.2.1; omega)
      obtain ⟨A4, c4, hv4, hr3⟩ := own_reads hfin
      have hv5 := (Value.slice.inj hv4).1
      clear hv4
      subst hv5
      obtain ⟨ad, hA, hcell⟩ := hr3.2.2 (by have := HL.out.2.1; omega)
      have hl1 : x = x.take (i - 1) ++ [x.getD (i - 1) 0] := by
        have := take_snoc x (i - 1) (by have := HL.out; omega)
        rw [show i - 1 + 1 = i by have := HL.out.2.1; omega, List.take_of_length_le (by have := HL.out.1; omega)] at this
        exact this
      have htop : (spl x).getD (2 * i - 1) 0 = ((top / 4294967296 : Nat) : Int) := by
        have h1 := H.out.2.1
        rw [← HL.out.1] at h1
        rw [hl1, h1, spl_snoc]
        have h2 : (spl (x.take (i - 1))).length = 2 * (i - 1) := by rw [spl_len, List.length_take]; have := HL.out.1; omega
        rw [List.getD_eq_getElem?_getD, List.getElem?_append_right (by omega), h2, show 2 * i - 1 - 2 * (i - 1) = 1 by have := HL.out.2.1; omega]
        rfl
      have hc := hcell (2 * i - 1) (by have := HL.out.2.1; omega)
      rw [htop] at hc
      have HTr := Aside0.mk (trimR (some ⟨g, 0, none⟩) (2 * i) c3 _ ad wr hA (by have := HL.out.2.1; omega) (by have := HL.out.2.2; omega) hc (by have := H.out.2.2; omega))
      have HF := Aside0.mk (And.intro hr3 HI.out.2.2)
      clear hfin hcell hc htop hl1 hr3 hlt hA
      go_wp2_with fail
      refine HTr.out.mono ?_
      rintro e w' ⟨rfl, hw'⟩
      have hw2 := hw'.symm
      clear hw'
      subst hw2
      go_wp2_with fail
      go_ret
      exact ⟨_, _, rfl, HF.out.1, HF.out.2⟩
end Go.Proofs.YtjpibgehhgaopaaGreat.Top
