/- pad's Equal without a trace; Clone of bytes. -/
import Derived.Test.YtcjphioimmgbfaaPdB
namespace Go.Proofs.Ytcjphioimmgbfaa.Tra
open Go.RowKit Go.Proofs.YtcjphioimmgbfaaW.PrintWords Go.Proofs.YtcjphioimmgbfaaW.PrintLast Go.Proofs.YtcjphioimmgbfaaW.PrintMore Go.Proofs.Ytcjphioimmgbfaa.PTraceActs
set_option linter.unusedVariables false
set_option linter.unusedSimpArgs false

/-- The bits that part two texts' first n bytes, onto what was there. -/
def part_ (a b : List Int) (x : Int) : Nat → Int
  | 0 => x
  | i + 1 => Go.bits .or .u64 (part_ a b x i) (IntKind.u64.wrap (Go.bits .xor .u8 (rd a (i : Int)) (rd b (i : Int))))
theorem part_u (a b : List Int) (x : Int) (hx : U64 x) : ∀ i, U64 (part_ a b x i)
  | 0 => hx
  | i + 1 => bits64_u _ _ _
set_option maxHeartbeats 1000000 in
set_option maxRecDepth 100000 in
theorem equalNil (A A' : Option Addr) (ca cb : Nat) (a b : List Int) (n : Nat) (z : Int) (w : World) (ha : ReadsInt w .u8 A a.length a) (hb : ReadsInt w .u8 A' b.length b) (hn : n = min a.length b.length)
    (hz : IntKind.u64.wrap (Go.bits .xor .i64 (a.length : Int) (b.length : Int)) = z) (hzu : U64 z) (hl : a.length ≤ 1200) :
    Calls Try.prog 29 #[.pointer none, .slice A a.length ca, .slice A' b.length cb] w fun e w' => e = .returned (.int .u64 (b2i (decide (part_ a b z n = 0)))) ∧ Below w.heap.size w w' := by
  have HA := Aside0.mk ha
  have HB := Aside0.mk hb
  have HL := Aside0.mk hl
  have HN := Aside0.mk (show n ≤ a.length ∧ n ≤ b.length from by omega)
  have n1 : (if (b.length : Int) < (a.length : Int) then (b.length : Int) else (a.length : Int)) = (n : Int) := by split <;> omega
  have n2 : (if b.length < a.length then (b.length : Int) else (a.length : Int)) = (n : Int) := by split <;> omega
  obtain ⟨M, hM⟩ : ∃ M, M = max a.length b.length := ⟨_, rfl⟩
  have m1 : (if (a.length : Int) < (b.length : Int) then (b.length : Int) else (a.length : Int)) = (M : Int) := by split <;> omega
  have m2 : (if a.length < b.length then (b.length : Int) else (a.length : Int)) = (M : Int) := by split <;> omega
  clear hn hM
  have HZ := Aside0.mk hzu
  clear ha hb hl hzu
  go_enter Try.func29, Try.ntmps29
  go_wp2_with fail
  refine (spanNil _ _).mono ?_
  rintro e w1 ⟨rfl, hb1⟩
  have HB1 := Aside0.mk hb1
  clear hb1
  obtain ⟨wo, rfl⟩ : ∃ wo : World, wo = w1 := ⟨_, rfl⟩
  go_wp2_with fail
  go_loopw [8, 29] (fun v8 v29 wr => ∃ i : Nat, v8 = .int .u64 (part_ a b z i) ∧ v29 = .int .i64 i ∧ Aside0 (i ≤ n) ∧ Aside0 (Below w.heap.size w wr)) (fun _ v29 _ => n - (intOf v29).toNat)
  case atStart => exact ⟨0, rfl, rfl, ⟨by omega⟩, HB1⟩
  case round =>
    obtain ⟨i, rfl, rfl, HI, HBw⟩ := hrel
    have hi := HI.out
    by_cases hlt : i < n
    · have HLT := Aside0.mk hlt
      have hlt' : decide ((i : Int) < (n : Int)) = true := by simp; omega
      have hlt2 : decide (i < n) = true := by simp; omega
      have la : (i : Int) < (a.length : Int) := by have := HN.out; omega
      have lb : (i : Int) < (b.length : Int) := by have := HN.out; omega
      obtain ⟨ad, e1, hc0⟩ := (HA.out.below HBw.out).at_ (i : Int) (by omega) la
      obtain ⟨bd, e2, hc1⟩ := (HB.out.below HBw.out).at_ (i : Int) (by omega) lb
      subst e1
      subst e2
      simp only [Int.toNat_natCast] at hc0 hc1
      obtain ⟨x, hx⟩ : ∃ x, x = rd a (i : Int) := ⟨_, rfl⟩
      obtain ⟨y, hy⟩ : ∃ y, y = rd b (i : Int) := ⟨_, rfl⟩
      obtain ⟨q, hq⟩ : ∃ q, q = part_ a b z i := ⟨_, rfl⟩
      rw [← hx] at hc0
      rw [← hy] at hc1
      rw [← hq]
      have HXY := Aside0.mk (And.intro hx (And.intro hy hq))
      clear hx hy hq
      have hw3 : wrap64 ((i : Int) + 1) = (i : Int) + 1 := by have := HL.out; unfold wrap64; omega
      go_wp2_with fail
      -- BEGIN E7
      refine start_ (n := 13) (S := fun w' => w'.cell? (ad.add i) = some (.int .u8 x) ∧ w'.cell? (bd.add i) = some (.int .u8 y)) (ds := []) #[false, false, false, false, false, false, false, false, false, false, false, false, false] (by kernel_rfl) rfl rfl ⟨hc0, hc1⟩ (fun hHeld => ?_)
      refine pure_ (i := 0) (N := some 32) (v := ?_) (a' := ?_) #[true, false, false, false, false, false, false, false, false, false, false, false, false] rfl rfl (by kernel_rfl) (fun _ _ _ h => h) (Or.inl ⟨by rfl, ?_⟩) ?_ ?_
      rotate_left
      · intro w'
        go_simp
        with_reducible rfl
      rotate_left
      · simp only [Act.put, List.setIfInBounds_toArray, List.set_cons_zero, List.set_cons_succ, i64_w, i32_w]
        rfl
      refine pure_ (i := 1) (N := some 33) (v := ?_) (a' := ?_) #[true, true, false, false, false, false, false, false, false, false, false, false, false] rfl rfl (by kernel_rfl) (fun _ _ _ h => h) (Or.inl ⟨by rfl, ?_⟩) ?_ ?_
      rotate_left
      · intro w'
        go_simp
        with_reducible rfl
      rotate_left
      · simp only [Act.put, List.setIfInBounds_toArray, List.set_cons_zero, List.set_cons_succ, i64_w, i32_w]
        rfl
      refine pure_ (i := 2) (N := some 34) (v := ?_) (a' := ?_) #[true, true, true, false, false, false, false, false, false, false, false, false, false] rfl rfl (by kernel_rfl) (fun _ _ _ h => h) (Or.inl ⟨by rfl, ?_⟩) ?_ ?_
      rotate_left
      · intro w'
        go_simp
        with_reducible rfl
      rotate_left
      · simp only [Act.put, List.setIfInBounds_toArray, List.set_cons_zero, List.set_cons_succ, i64_w, i32_w]
        rfl
      refine pure_ (i := 3) (N := some 35) (v := ?_) (a' := ?_) #[true, true, true, true, false, false, false, false, false, false, false, false, false] rfl rfl (by kernel_rfl) (fun _ _ _ h => h) (Or.inl ⟨by rfl, ?_⟩) ?_ ?_
      rotate_left
      · intro w'
        go_simp
        with_reducible rfl
      rotate_left
      · simp only [Act.put, List.setIfInBounds_toArray, List.set_cons_zero, List.set_cons_succ, i64_w, i32_w]
        rfl
      refine pure_ (i := 5) (N := some 37) (v := ?_) (a' := ?_) #[true, true, true, true, false, true, false, false, false, false, false, false, false] rfl rfl (by kernel_rfl) (fun _ _ _ h => h) (Or.inl ⟨by rfl, ?_⟩) ?_ ?_
      rotate_left
      · intro w'
        go_simp
        with_reducible rfl
      rotate_left
      · simp only [Act.put, List.setIfInBounds_toArray, List.set_cons_zero, List.set_cons_succ, i64_w, i32_w]
        rfl
      refine pure_ (i := 6) (N := some 38) (v := ?_) (a' := ?_) #[true, true, true, true, false, true, true, false, false, false, false, false, false] rfl rfl (by kernel_rfl) (fun _ _ _ h => h) (Or.inl ⟨by rfl, ?_⟩) ?_ ?_
      rotate_left
      · intro w'
        go_simp
        with_reducible rfl
      rotate_left
      · simp only [Act.put, List.setIfInBounds_toArray, List.set_cons_zero, List.set_cons_succ, i64_w, i32_w]
        rfl
      refine pure_ (i := 7) (N := some 39) (v := ?_) (a' := ?_) #[true, true, true, true, false, true, true, true, false, false, false, false, false] rfl rfl (by kernel_rfl) (fun _ _ _ h => h) (Or.inl ⟨by rfl, ?_⟩) ?_ ?_
      rotate_left
      · intro w'
        go_simp
        with_reducible rfl
      rotate_left
      · simp only [Act.put, List.setIfInBounds_toArray, List.set_cons_zero, List.set_cons_succ, i64_w, i32_w]
        rfl
      refine take_ (i := 4) (N := some 36) (v := ?_) (a' := ?_) #[true, true, true, true, true, true, true, true, false, false, false, false, false] rfl rfl (by kernel_rfl) (fun _ _ _ h => h) (Or.inl ⟨by rfl, ?_⟩) hHeld ?_ ?_
      rotate_left
      · rintro w' ⟨s0, s1⟩
        go_simp
        with_reducible rfl
      rotate_left
      · simp only [Act.put, List.setIfInBounds_toArray, List.set_cons_zero, List.set_cons_succ, i64_w, i32_w]
        rfl
      refine take_ (i := 8) (N := some 40) (v := ?_) (a' := ?_) #[true, true, true, true, true, true, true, true, true, false, false, false, false] rfl rfl (by kernel_rfl) (fun _ _ _ h => h) (Or.inl ⟨by rfl, ?_⟩) hHeld ?_ ?_
      rotate_left
      · rintro w' ⟨s0, s1⟩
        go_simp
        with_reducible rfl
      rotate_left
      · simp only [Act.put, List.setIfInBounds_toArray, List.set_cons_zero, List.set_cons_succ, i64_w, i32_w]
        rfl
      refine pure_ (i := 9) (N := some 41) (v := ?_) (a' := ?_) #[true, true, true, true, true, true, true, true, true, true, false, false, false] rfl rfl (by kernel_rfl) (fun _ _ _ h => h) (Or.inl ⟨by rfl, ?_⟩) ?_ ?_
      rotate_left
      · intro w'
        go_simp
        with_reducible rfl
      rotate_left
      · simp only [Act.put, List.setIfInBounds_toArray, List.set_cons_zero, List.set_cons_succ, i64_w, i32_w]
        rfl
      refine pure_ (i := 10) (N := some 42) (v := ?_) (a' := ?_) #[true, true, true, true, true, true, true, true, true, true, true, false, false] rfl rfl (by kernel_rfl) (fun _ _ _ h => h) (Or.inl ⟨by rfl, ?_⟩) ?_ ?_
      rotate_left
      · intro w'
        go_simp
        with_reducible rfl
      rotate_left
      · simp only [Act.put, List.setIfInBounds_toArray, List.set_cons_zero, List.set_cons_succ, i64_w, i32_w]
        rfl
      refine pure_ (i := 11) (N := some 43) (v := ?_) (a' := ?_) #[true, true, true, true, true, true, true, true, true, true, true, true, false] rfl rfl (by kernel_rfl) (fun _ _ _ h => h) (Or.inl ⟨by rfl, ?_⟩) ?_ ?_
      rotate_left
      · intro w'
        go_simp
        with_reducible rfl
      rotate_left
      · simp only [Act.put, List.setIfInBounds_toArray, List.set_cons_zero, List.set_cons_succ, i64_w, i32_w]
        rfl
      refine pure_ (i := 12) (N := some 8) (v := ?_) (a' := ?_) #[true, true, true, true, true, true, true, true, true, true, true, true, true] rfl rfl (by kernel_rfl) (fun _ _ _ h => h) (Or.inl ⟨by rfl, ?_⟩) ?_ ?_
      rotate_left
      · intro w'
        go_simp
        with_reducible rfl
      rotate_left
      · simp only [Act.put, List.setIfInBounds_toArray, List.set_cons_zero, List.set_cons_succ, i64_w, i32_w]
        rfl
      refine done_ (by kernel_rfl) ?_
      -- END E7
      go_wp2_with fail
      go_roundw
      case rel =>
        refine ⟨i + 1, ?_, congrArg (Value.int .i64) (hw3.trans (by omega)), ⟨HLT.out⟩, ⟨below_drew HBw.out⟩⟩
        show _ = Value.int .u64 (Go.bits .or .u64 (part_ a b z i) (IntKind.u64.wrap (Go.bits .xor .u8 (rd a (i : Int)) (rd b (i : Int)))))
        rw [← HXY.out.1, ← HXY.out.2.1, ← HXY.out.2.2]
      case measure => rw [hw3]; exact msr1 i n HLT.out
    · obtain rfl : i = n := by omega
      have hlt' : decide ((i : Int) < (i : Int)) = false := by simp
      go_wp2_with fail
      refine (zero_any _ _ (part_u a b z HZ.out i)).mono ?_
      rintro e w2 ⟨rfl, rfl⟩
      go_wp2_with fail
      go_ret
      exact ⟨rfl, HBw.out⟩
theorem or_zero (x y : Int) (hx : U64 x) (hy : U64 y) : Go.bits .or .u64 x y = 0 ↔ x = 0 ∧ y = 0 := by
  have e1 := bv6_to x hx
  have e2 := bv6_to y hy
  have l1 : (bv6 x).toNat ≤ (bv6 x ||| bv6 y).toNat := by rw [BitVec.toNat_or]; exact Nat.left_le_or
  have l2 : (bv6 y).toNat ≤ (bv6 x ||| bv6 y).toNat := by rw [BitVec.toNat_or]; exact Nat.right_le_or
  rw [or64]
  constructor
  · intro h
    omega
  · rintro ⟨rfl, rfl⟩
    decide +kernel
theorem xor8_zero (x y : Int) (hx : Byte x) (hy : Byte y) : IntKind.u64.wrap (Go.bits .xor .u8 x y) = 0 ↔ x = y := by
  have h1 : ∀ v : Int, Byte v → ((BitVec.ofInt 8 v).toNat : Int) = v := fun v hv => by
    rw [BitVec.toNat_ofInt]
    have := hv.1
    have := hv.2
    show ((v % ((2 ^ 8 : Nat) : Int)).toNat : Int) = v
    omega
  have h2 : Go.bits .xor .u8 x y = ((BitVec.ofInt 8 x ^^^ BitVec.ofInt 8 y).toNat : Int) := by
    show IntKind.u8.wrap ((BitVec.ofInt 8 x ^^^ BitVec.ofInt 8 y).toNat : Int) = _
    rw [IntKind.wrap_u8]
    have := (BitVec.ofInt 8 x ^^^ BitVec.ofInt 8 y).isLt
    omega
  have h3 := (BitVec.ofInt 8 x ^^^ BitVec.ofInt 8 y).isLt
  rw [h2, IntKind.wrap_u64]
  constructor
  · intro h
    have h4 : (BitVec.ofInt 8 x ^^^ BitVec.ofInt 8 y) = 0#8 := by
      apply BitVec.eq_of_toNat_eq
      rw [BitVec.toNat_zero]
      omega
    rw [← h1 x hx, ← h1 y hy, BitVec.xor_eq_zero_iff.1 h4]
  · rintro rfl
    simp
theorem part_zero (a b : List Int) (z : Int) (hz : U64 z) (ha : ∀ i, Byte (rd a i)) (hb : ∀ i, Byte (rd b i)) : ∀ n, part_ a b z n = 0 ↔ z = 0 ∧ ∀ i, i < n → rd a (i : Int) = rd b (i : Int)
  | 0 => by simp [part_]
  | n + 1 => by
    have ih := part_zero a b z hz ha hb n
    show Go.bits .or .u64 _ _ = 0 ↔ _
    rw [or_zero _ _ (part_u a b z hz n) (by rw [IntKind.wrap_u64]; unfold U64; omega), ih, xor8_zero _ _ (ha _) (hb _)]
    constructor
    · rintro ⟨⟨h1, h2⟩, h3⟩
      refine ⟨h1, fun i hi => ?_⟩
      rcases Nat.lt_succ_iff_lt_or_eq.1 hi with h | rfl
      · exact h2 i h
      · exact h3
    · rintro ⟨h1, h2⟩
      exact ⟨⟨h1, fun i hi => h2 i (by omega)⟩, h2 n (by omega)⟩
theorem xorlen_zero (m n : Nat) (hm : m ≤ 1200) (hn : n ≤ 1200) : IntKind.u64.wrap (Go.bits .xor .i64 (m : Int) (n : Int)) = 0 ↔ m = n := by
  have h1 : ∀ v : Nat, v ≤ 1200 → (BitVec.ofInt 64 (v : Int)).toNat = v := fun v hv => by
    rw [BitVec.toNat_ofInt]
    show ((v : Int) % ((2 ^ 64 : Nat) : Int)).toNat = v
    omega
  constructor
  · intro h
    have h2 : (BitVec.ofInt 64 (m : Int) ^^^ BitVec.ofInt 64 (n : Int)) = 0#64 := by
      have h3 : IntKind.u64.wrap (IntKind.i64.wrap ((BitVec.ofInt 64 (m : Int) ^^^ BitVec.ofInt 64 (n : Int)).toNat : Int)) = 0 := h
      have h4 := (BitVec.ofInt 64 (m : Int) ^^^ BitVec.ofInt 64 (n : Int)).isLt
      rw [IntKind.wrap_u64, IntKind.wrap_i64] at h3
      apply BitVec.eq_of_toNat_eq
      rw [BitVec.toNat_zero]
      omega
    have h5 := BitVec.xor_eq_zero_iff.1 h2
    rw [← h1 m hm, ← h1 n hn, h5]
  · rintro rfl
    show IntKind.u64.wrap (IntKind.i64.wrap ((BitVec.ofInt 64 (m : Int) ^^^ BitVec.ofInt 64 (m : Int)).toNat : Int)) = 0
    rw [BitVec.xor_self]
    decide +kernel
/-- Equal without a trace: whether both are one. -/
theorem equalNil' (A A' : Option Addr) (ca cb : Nat) (a b : List Int) (w : World) (ha : ReadsInt w .u8 A a.length a) (hb : ReadsInt w .u8 A' b.length b) (hba : ∀ i, Byte (rd a i)) (hbb : ∀ i, Byte (rd b i)) (hl : a.length ≤ 1200) (hl2 : b.length ≤ 1200) :
    Calls Try.prog 29 #[.pointer none, .slice A a.length ca, .slice A' b.length cb] w fun e w' => e = .returned (.int .u64 (b2i (decide (a = b)))) ∧ Below w.heap.size w w' := by
  have hzu : U64 (IntKind.u64.wrap (Go.bits .xor .i64 (a.length : Int) (b.length : Int))) := by rw [IntKind.wrap_u64]; unfold U64; omega
  have h := equalNil A A' ca cb a b (min a.length b.length) _ w ha hb rfl rfl hzu hl
  have e : decide (part_ a b (IntKind.u64.wrap (Go.bits .xor .i64 (a.length : Int) (b.length : Int))) (min a.length b.length) = 0) = decide (a = b) := by
    rw [decide_eq_decide, part_zero a b _ hzu hba hbb, xorlen_zero _ _ hl hl2]
    constructor
    · rintro ⟨h1, h2⟩
      apply List.ext_getElem h1
      intro i g1 g2
      have := h2 i (by omega)
      unfold rd at this
      simpa [List.getD, g1, g2] using this
    · rintro rfl
      exact ⟨rfl, fun _ _ => rfl⟩
  rw [e] at h
  exact h
end Go.Proofs.Ytcjphioimmgbfaa.Tra
