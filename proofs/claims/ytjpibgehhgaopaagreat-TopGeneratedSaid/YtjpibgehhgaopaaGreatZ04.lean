/- Numbers as lists of words: their values, their digits, their lengths. No program in it. -/
import Derived.Test.YtjpibgehhgaopaaGreatZ03
namespace Go.Proofs.YtjpibgehhgaopaaGreat.Top
open Go.RowKit
set_option linter.unusedVariables false

def BW : Nat := 18446744073709551616
theorem BW_pos : 0 < BW := by unfold BW; omega
def W64 (a : List Nat) : Prop := ∀ x ∈ a, x < 18446744073709551616
def val : List Nat → Nat
  | [] => 0
  | x :: r => x + 18446744073709551616 * val r
def digs : Nat → Nat → List Nat
  | 0, _ => []
  | n + 1, N => N % 18446744073709551616 :: digs n (N / 18446744073709551616)
@[simp] theorem digs_length : ∀ n N, (digs n N).length = n
  | 0, _ => rfl
  | n + 1, N => by simp [digs, digs_length n]
theorem digs_w : ∀ n N, W64 (digs n N)
  | 0, _ => fun x h => by simp [digs] at h
  | n + 1, N => fun x h => by
    simp only [digs, List.mem_cons] at h
    rcases h with rfl | h
    · exact Nat.mod_lt _ (by omega)
    · exact digs_w n _ x h
theorem val_lt : ∀ a : List Nat, W64 a → val a < 18446744073709551616 ^ a.length
  | [], _ => by simp [val]
  | x :: r, h => by
    have h1 := val_lt r (fun y hy => h y (List.mem_cons_of_mem _ hy))
    have h2 := h x (List.mem_cons_self ..)
    simp only [val, List.length_cons, Nat.pow_succ]
    generalize 18446744073709551616 ^ r.length = p at *
    omega
theorem val_digs : ∀ n N, val (digs n N) = N % 18446744073709551616 ^ n
  | 0, N => by simp [digs, val, Nat.mod_one]
  | n + 1, N => by
    simp only [digs, val]
    rw [val_digs n, Nat.pow_succ, Nat.mul_comm (18446744073709551616 ^ n), Nat.mod_mul]
theorem digs_val : ∀ a : List Nat, W64 a → digs a.length (val a) = a
  | [], _ => rfl
  | x :: r, h => by
    have h1 := digs_val r (fun y hy => h y (List.mem_cons_of_mem _ hy))
    have h2 := h x (List.mem_cons_self ..)
    simp only [val, List.length_cons, digs]
    congr 1
    · omega
    · rw [show (x + 18446744073709551616 * val r) / 18446744073709551616 = val r by omega]
      exact h1
theorem val_inj {a b : List Nat} (ha : W64 a) (hb : W64 b) (hl : a.length = b.length) (h : val a = val b) : a = b := by
  rw [← digs_val a ha, ← digs_val b hb, hl, h]
theorem val_append : ∀ a b : List Nat, val (a ++ b) = val a + 18446744073709551616 ^ a.length * val b
  | [], b => by simp [val]
  | x :: r, b => by
    simp only [List.cons_append, val, List.length_cons, Nat.pow_succ]
    rw [val_append r b]
    generalize 18446744073709551616 ^ r.length = p
    rw [Nat.mul_add, ← Nat.mul_assoc, Nat.mul_comm 18446744073709551616 p]
    omega
theorem W64_append {a b : List Nat} (ha : W64 a) (hb : W64 b) : W64 (a ++ b) := fun x h => by
  rcases List.mem_append.1 h with h | h
  · exact ha x h
  · exact hb x h
theorem W64_take {a : List Nat} (ha : W64 a) (n : Nat) : W64 (a.take n) := fun x h => ha x (List.mem_of_mem_take h)
theorem W64_drop {a : List Nat} (ha : W64 a) (n : Nat) : W64 (a.drop n) := fun x h => ha x (List.mem_of_mem_drop h)
theorem val_take_drop (a : List Nat) (n : Nat) (h : n ≤ a.length) : val a = val (a.take n) + 18446744073709551616 ^ n * val (a.drop n) := by
  conv => lhs; rw [← List.take_append_drop n a]
  rw [val_append, List.length_take, Nat.min_eq_left h]
theorem getD_w {a : List Nat} (ha : W64 a) (i : Nat) : a.getD i 0 < 18446744073709551616 := by
  rw [List.getD_eq_getElem?_getD]
  rcases h : a[i]? with _ | x
  · simp
  · exact ha x (List.mem_of_getElem? h)
/-- The upper words are noughts: the value is the lower ones'. -/
theorem val_zeros : ∀ a : List Nat, (∀ i, a.getD i 0 = 0) → val a = 0
  | [], _ => rfl
  | x :: r, h => by
    have h0 := h 0
    have h1 := val_zeros r (fun i => by have := h (i + 1); simpa using this)
    simp at h0
    simp [val, h0, h1]
theorem val_upto (a : List Nat) (n : Nat) (hn : n ≤ a.length) (h : ∀ i, n ≤ i → a.getD i 0 = 0) : val a = val (a.take n) := by
  rw [val_take_drop a n hn, val_zeros (a.drop n), Nat.mul_zero, Nat.add_zero]
  intro i
  have := h (n + i) (by omega)
  rw [List.getD_eq_getElem?_getD] at this ⊢
  rwa [List.getElem?_drop]
theorem val_snoc (a : List Nat) (x : Nat) : val (a ++ [x]) = val a + 18446744073709551616 ^ a.length * x := by
  rw [val_append]
  simp [val]
theorem val_take_succ (a : List Nat) (i : Nat) (h : i < a.length) : val (a.take (i + 1)) = val (a.take i) + 18446744073709551616 ^ i * a.getD i 0 := by
  have e : a.take (i + 1) = a.take i ++ [a.getD i 0] := by
    rw [List.take_succ_eq_append_getElem h]
    congr 2
    simp [List.getD, h]
  rw [e, val_snoc, List.length_take, Nat.min_eq_left (by omega)]

/-! ### Lengths in bits -/
def bl (N : Nat) : Nat := if N = 0 then 0 else N.log2 + 1
def wl (N : Nat) : Nat := (bl N + 63) / 64
theorem bl_zero : bl 0 = 0 := rfl
theorem bl_spec {N : Nat} (h : N ≠ 0) : 2 ^ (bl N - 1) ≤ N ∧ N < 2 ^ bl N ∧ 1 ≤ bl N := by
  unfold bl
  rw [if_neg h]
  exact ⟨by simpa using Nat.log2_self_le h, by simpa using Nat.lt_log2_self, by omega⟩
theorem bl_unique {N k : Nat} (h1 : 2 ^ k ≤ N) (h2 : N < 2 ^ (k + 1)) : bl N = k + 1 := by
  have h0 : N ≠ 0 := by have := Nat.pow_pos (a := 2) (n := k) (by omega); omega
  unfold bl
  rw [if_neg h0]
  congr 1
  have a := Nat.log2_self_le h0
  have b := @Nat.lt_log2_self N
  have c : k < N.log2 + 1 := (Nat.pow_lt_pow_iff_right (a := 2) (by omega)).1 (Nat.lt_of_le_of_lt h1 b)
  have d : N.log2 < k + 1 := (Nat.pow_lt_pow_iff_right (a := 2) (by omega)).1 (Nat.lt_of_le_of_lt a h2)
  omega
theorem bl_pos {N : Nat} : 0 < bl N ↔ N ≠ 0 := by
  unfold bl
  split <;> simp_all
theorem bl_le {N k : Nat} (h : N < 2 ^ k) : bl N ≤ k := by
  by_cases h0 : N = 0
  · subst h0; simp [bl]
  · have := (bl_spec h0).1
    have c : bl N - 1 < k := (Nat.pow_lt_pow_iff_right (a := 2) (by omega)).1 (Nat.lt_of_le_of_lt this h)
    omega
theorem lt_bl {N k : Nat} (h : 2 ^ k ≤ N) : k < bl N := by
  have h0 : N ≠ 0 := by have := Nat.pow_pos (a := 2) (n := k) (by omega); omega
  exact (Nat.pow_lt_pow_iff_right (a := 2) (by omega)).1 (Nat.lt_of_le_of_lt h (bl_spec h0).2.1)
theorem bitLen_bl (x : Nat) (h : x < 18446744073709551616) : Lib.bitLen x = bl x := by
  by_cases h0 : x = 0
  · subst h0; decide
  · obtain ⟨a, b, c, d⟩ := bitLen_top x (by omega) 64 (by omega)
    change 18446744073709551616 ≤ 2 * (x * 2 ^ (64 - Lib.bitLen x)) at a
    change x * 2 ^ (64 - Lib.bitLen x) < 18446744073709551616 at b
    change Lib.bitLen x ≤ 64 at c
    change 1 ≤ Lib.bitLen x at d
    generalize Lib.bitLen x = l at *
    have e : (18446744073709551616 : Nat) = 2 ^ (64 - l) * 2 ^ l := by rw [← Nat.pow_add]; rw [show 64 - l + l = 64 by omega]
    have p : 0 < 2 ^ (64 - l) := Nat.pow_pos (by omega)
    have hlt : x < 2 ^ l := by
      rw [e, Nat.mul_comm (2 ^ (64 - l))] at b
      exact Nat.lt_of_mul_lt_mul_right b
    have hge : 2 ^ (l - 1) ≤ x := by
      have e2 : 2 ^ l = 2 * 2 ^ (l - 1) := by rw [← Nat.pow_succ']; congr 1; omega
      rw [e, e2, Nat.mul_comm, Nat.mul_assoc] at a
      have a2 : 2 ^ (l - 1) * 2 ^ (64 - l) ≤ x * 2 ^ (64 - l) := by omega
      exact Nat.le_of_mul_le_mul_right a2 p
    rw [bl_unique (k := l - 1) hge (by rw [show l - 1 + 1 = l by omega]; exact hlt)]
    omega
/-- A number's length by its top word. -/
theorem bl_top (lo x n : Nat) (hlo : lo < 18446744073709551616 ^ n) (hx : x ≠ 0) : bl (lo + 18446744073709551616 ^ n * x) = 64 * n + bl x := by
  obtain ⟨a, b, c⟩ := bl_spec hx
  have e : (18446744073709551616 : Nat) ^ n = 2 ^ (64 * n) := by
    rw [show (18446744073709551616 : Nat) = 2 ^ 64 by decide, ← Nat.pow_mul]
  rw [e] at hlo ⊢
  have h1 : 2 ^ (64 * n + (bl x - 1)) ≤ lo + 2 ^ (64 * n) * x := by
    rw [Nat.pow_add]
    have := Nat.mul_le_mul_left (2 ^ (64 * n)) a
    omega
  have h2 : lo + 2 ^ (64 * n) * x < 2 ^ (64 * n + (bl x - 1) + 1) := by
    rw [show 64 * n + (bl x - 1) + 1 = 64 * n + bl x by omega, Nat.pow_add]
    have := Nat.mul_le_mul_left (2 ^ (64 * n)) (show x + 1 ≤ 2 ^ bl x by omega)
    rw [Nat.mul_add] at this
    omega
  rw [bl_unique h1 h2]
  omega
theorem wl_top (lo x n : Nat) (hlo : lo < 18446744073709551616 ^ n) (hx : x ≠ 0) (hx2 : x < 18446744073709551616) : wl (lo + 18446744073709551616 ^ n * x) = n + 1 := by
  unfold wl
  rw [bl_top lo x n hlo hx]
  have h1 := (bl_spec hx).2.2
  have h2 := bl_le (k := 64) (N := x) (by omega)
  omega
theorem wl_zero : wl 0 = 0 := rfl
theorem wl_le {N n : Nat} (h : N < 18446744073709551616 ^ n) : wl N ≤ n := by
  have e : (18446744073709551616 : Nat) ^ n = 2 ^ (64 * n) := by
    rw [show (18446744073709551616 : Nat) = 2 ^ 64 by decide, ← Nat.pow_mul]
  rw [e] at h
  have := bl_le h
  unfold wl
  omega
theorem lt_wl (N : Nat) : N < 18446744073709551616 ^ wl N := by
  by_cases h : N = 0
  · subst h; simp [wl, bl]
  · have e : (18446744073709551616 : Nat) ^ wl N = 2 ^ (64 * wl N) := by
      rw [show (18446744073709551616 : Nat) = 2 ^ 64 by decide, ← Nat.pow_mul]
    rw [e]
    exact Nat.lt_of_lt_of_le (bl_spec h).2.1 (Nat.pow_le_pow_right (by omega) (by unfold wl; omega))
end Go.Proofs.YtjpibgehhgaopaaGreat.Top
/- Numbers in memory; nat's least, at, Bits, Compare, Bit. -/
namespace Go.Proofs.YtjpibgehhgaopaaGreat.Top
open Go.RowKit Go.Proofs.YtjpibgehhgaopaaGreatW.PrintWords Go.Proofs.YtjpibgehhgaopaaGreatW.PrintLast
set_option linter.unusedVariables false
set_option linter.unusedSimpArgs false

def nz (a : List Nat) : List Int := a.map fun x : Nat => (x : Int)
@[simp] theorem nz_length (a : List Nat) : (nz a).length = a.length := by simp [nz]
theorem rd_nz (a : List Nat) (i : Nat) : rd (nz a) (i : Int) = (a.getD i 0 : Nat) := by
  unfold rd nz
  rw [Int.toNat_natCast, List.getD_eq_getElem?_getD, List.getElem?_map, List.getD_eq_getElem?_getD]
  cases a[i]? <;> rfl
/-- A number in memory, to be read. -/
structure Num (w : World) (A : Option Addr) (c : Nat) (a : List Nat) : Prop where
  rd : ReadsInt w .u64 A a.length (nz a)
  cap : a.length ≤ c
  w64 : W64 a
  ty : ∀ ad, A = some ad → ∃ cur, w.heap[ad.block]? = some (.cells cur 23 (0, 0))
/-- What holds numbers stays. -/
structure Kp (w w' : World) : Prop where
  size : w.heap.size ≤ w'.heap.size
  nums : ∀ (k : Nat) (cur : Array Value), w.heap[k]? = some (.cells cur 23 (0, 0)) → w'.heap[k]? = some (.cells cur 23 (0, 0))
theorem Kp.refl (w : World) : Kp w w := ⟨Nat.le_refl _, fun _ _ h => h⟩
theorem Kp.trans {a b c : World} (h : Kp a b) (k : Kp b c) : Kp a c := ⟨Nat.le_trans h.size k.size, fun i cur hi => k.nums i cur (h.nums i cur hi)⟩
theorem Kp.of_below {w w' : World} (h : Below w.heap.size w w') : Kp w w' := ⟨h.size, fun k cur hk => (h.block k (blk_lt hk)).trans hk⟩
theorem addr_block (ad : Addr) (n : Nat) : (ad.add n).block = ad.block := by unfold Addr.add; split <;> rfl
theorem Num.kp {w w' : World} {A : Option Addr} {c : Nat} {a : List Nat} (h : Num w A c a) (hk : Kp w w') : Num w' A c a := by
  refine ⟨⟨h.rd.1, h.rd.2.1, fun hp => ?_⟩, h.cap, h.w64, fun ad e => ?_⟩
  · obtain ⟨ad, e, hc⟩ := h.rd.2.2 hp
    obtain ⟨cur, hb⟩ := h.ty ad e
    refine ⟨ad, e, fun j hj => ?_⟩
    rw [World.cell?_of_block (w := w)]
    · exact hc j hj
    · rw [addr_block, hb]; exact hk.nums _ _ hb
  · obtain ⟨cur, hb⟩ := h.ty ad e
    exact ⟨cur, hk.nums _ _ hb⟩
theorem Num.below {w w' : World} {A : Option Addr} {c : Nat} {a : List Nat} (h : Num w A c a) (hb : Below w.heap.size w w') : Num w' A c a := h.kp (Kp.of_below hb)
/-- A word of a number. -/
theorem Num.at_ {w : World} {A : Option Addr} {c : Nat} {a : List Nat} (h : Num w A c a) (i : Nat) (hi : i < a.length) : ∃ ad, A = some ad ∧ w.cell? (ad.add i) = some (.int .u64 ((a.getD i 0 : Nat) : Int)) := by
  obtain ⟨ad, e, hc⟩ := h.rd.at_ (i : Int) (by omega) (by omega)
  rw [rd_nz, Int.toNat_natCast] at hc
  exact ⟨ad, e, hc⟩
theorem Num.len {w : World} {A : Option Addr} {c : Nat} {a : List Nat} (h : Num w A c a) : (a.length : Int) ≤ 9223372036854775807 := by
  have := h.rd.2.1
  omega
/-- A number that a call has made, in a row of its own. -/
structure Res (w w' : World) (v : Value) (r : List Nat) : Prop where
  own : w'.ownsRow w.heap.size 23 1 v r.length (nums .u64 (nz r))
  w64 : W64 r
  bel : Below w.heap.size w w'
theorem own_num {w : World} {base n c : Nat} {A : Option Addr} {r : List Nat} (h : w.ownsRow base 23 1 (.slice A n c) r.length (nums .u64 (nz r))) (hw : W64 r) : n = r.length ∧ Num w A c r := by
  obtain ⟨A1, c1, e, hr⟩ := own_reads h
  injection e with e1 e2 e3
  subst e1
  subst e2
  refine ⟨rfl, hr, own_cap h, hw, fun ad e => ?_⟩
  subst e
  rcases h.2 with ⟨h1, _⟩ | ⟨g, cap, cur, h1, _, hg, _⟩
  · cases h1
  · injection h1 with h1
    injection h1 with h1
    subst h1
    exact ⟨cur, hg⟩
theorem Res.num {w w' : World} {v : Value} {r : List Nat} (h : Res w w' v r) : ∃ A c, v = .slice A r.length c ∧ Num w' A c r := by
  obtain ⟨A, c, rfl⟩ := own_slice h.own
  exact ⟨A, c, rfl, (own_num h.own h.w64).2⟩
theorem Res.later {w0 w w' : World} {v : Value} {r : List Nat} (h : Res w w' v r) (hb : Below w0.heap.size w0 w) : Res w0 w' v r :=
  ⟨own_weaken h.own hb.size, h.w64, hb.trans (h.bel.mono hb.size)⟩
theorem num_nil (w : World) (c : Nat) : Num w none c [] := ⟨⟨rfl, by decide, fun h => by simp at h⟩, Nat.zero_le _, (fun x h => by simp at h), fun ad e => by cases e⟩

theorem pow_top (a : List Nat) (n : Nat) (hw : W64 a) (hn : n < a.length) (h : ∀ i, n < i → a.getD i 0 = 0) (hx : a.getD n 0 ≠ 0) : wl (val a) = n + 1 ∧ bl (val a) = 64 * n + bl (a.getD n 0) := by
  have e : val a = val (a.take n) + 18446744073709551616 ^ n * a.getD n 0 := by
    rw [val_upto a (n + 1) (by omega) (fun i hi => h i (by omega)), val_take_succ a n hn]
  have hl := val_lt (a.take n) (W64_take hw n)
  rw [List.length_take, Nat.min_eq_left (by omega)] at hl
  rw [e]
  exact ⟨wl_top _ _ n hl hx (getD_w hw n), bl_top _ _ n hl hx⟩
theorem zero_top (a : List Nat) (h : ∀ i, 0 ≤ i → a.getD i 0 = 0) : val a = 0 := val_zeros a (fun i => h i (Nat.zero_le _))
set_option maxRecDepth 100000 in
theorem leastN (A : Option Addr) (c : Nat) (a : List Nat) (w : World) (h : Num w A c a) :
    Calls Tryz.prog 49 #[.slice A a.length c] w fun e w' => e = .returned (.int .i64 (wl (val a) : Int)) ∧ w' = w := by
  have H := Aside0.mk h
  have hlen := h.len
  clear h
  go_enter Tryz.func49, Tryz.ntmps49
  go_wp2_with fail
  go_loopw [3] (fun v3 wr => ∃ n : Nat, v3 = .int .i64 (n : Int) ∧ Aside0 (n ≤ a.length ∧ ∀ i, n ≤ i → a.getD i 0 = 0) ∧ Aside0 (wr = w)) (fun v3 _ => (intOf v3).toNat)
  case atStart => exact ⟨a.length, rfl, ⟨Nat.le_refl _, fun i hi => by simp [List.getD, hi]⟩, ⟨rfl⟩⟩
  case round =>
    obtain ⟨n, rfl, HN, HW⟩ := hrel
    obtain rfl := HW.out
    rcases n with _ | n
    · have t1 : decide (((0 : Nat) : Int) > 0) = false := by simp
      have hz := Aside0.mk (zero_top a HN.out.2)
      go_wp2_with fail
      go_ret
      rw [hz.out]
      exact ⟨rfl, rfl⟩
    · have hnl : n < a.length := by have := HN.out.1; omega
      obtain ⟨ad, rfl, hc⟩ := H.out.at_ n hnl
      have t1 : decide (((n + 1 : Nat) : Int) > 0) = true := by rw [decide_eq_true_eq]; omega
      have w1 : wrap64 (((n + 1 : Nat) : Int) - 1) = (n : Int) := by unfold wrap64; omega
      have w2 : wrap64 ((n : Int) + 1 - 1) = (n : Int) := by unfold wrap64; omega
      have w3 : wrap64 (n : Int) = (n : Int) := by unfold wrap64; omega
      have w4 : IntKind.i64.wrap (n : Int) = (n : Int) := (i64_w _).trans w3
      have hb : (n : Int) < (a.length : Int) := by omega
      have HT := Aside0.mk (pow_top a n H.out.w64 hnl (fun i hi => HN.out.2 i (by omega)))
      obtain ⟨x, hx⟩ : ∃ x, x = a.getD n 0 := ⟨_, rfl⟩
      rw [← hx] at hc HT
      have HX := Aside0.mk hx
      by_cases h0 : x = 0
      · have t2 : ((x : Int) == 0) = true := by simp [h0]
        have HZ := Aside0.mk h0
        clear hx h0
        go_wp2_with fail
        go_roundw
        case rel =>
          refine ⟨n, by first | rfl | exact congrArg (Value.int .i64) (by omega), ⟨by omega, fun i hi => ?_⟩, ⟨by first | rfl | trivial⟩⟩
          rcases Nat.lt_or_eq_of_le hi with hi | hi
          · exact HN.out.2 i (by omega)
          · rw [← hi, ← HX.out]; exact HZ.out
        case measure => simp [intOf]
      · have t2 : ((x : Int) == 0) = false := by simp [h0]
        have HE := Aside0.mk (HT.out h0).1
        clear hx h0
        go_wp2_with fail
        go_ret
        rw [HE.out]
        exact ⟨by simp, rfl⟩
set_option maxRecDepth 100000 in
theorem atN (A : Option Addr) (c : Nat) (a : List Nat) (i : Int) (w : World) (h : Num w A c a) :
    Calls Tryz.prog 51 #[.slice A a.length c, .int .i64 i] w fun e w' => e = .returned (.int .u64 ((if i < 0 then 0 else a.getD i.toNat 0 : Nat) : Int)) ∧ w' = w := by
  by_cases h0 : i < 0
  · have t0 : decide (i < 0) = true := by rw [decide_eq_true_eq]; omega
    rw [if_pos h0]
    go_enter Tryz.func51, Tryz.ntmps51
    go_wp2_with fail
    go_ret
    exact ⟨rfl, rfl⟩
  · have t0 : decide (i < 0) = false := by rw [decide_eq_false_iff_not]; omega
    rw [if_neg h0]
    obtain ⟨n, rfl⟩ := Int.eq_ofNat_of_zero_le (show 0 ≤ i by omega)
    rw [Int.toNat_natCast]
    by_cases h1 : n < a.length
    · have t1 : decide ((n : Int) ≥ (a.length : Int)) = false := by rw [decide_eq_false_iff_not]; omega
      have hb : (n : Int) < (a.length : Int) := by omega
      obtain ⟨ad, rfl, hc⟩ := h.at_ n h1
      generalize a.getD n 0 = x at *
      clear h
      go_enter Tryz.func51, Tryz.ntmps51
      go_wp2_with fail
      go_ret
      exact ⟨rfl, rfl⟩
    · have t1 : decide ((n : Int) ≥ (a.length : Int)) = true := by simp; omega
      have e0 : a.getD n 0 = 0 := by simp [List.getD, show a.length ≤ n by omega]
      rw [e0]
      clear h
      go_enter Tryz.func51, Tryz.ntmps51
      go_wp2_with fail
      go_ret
      exact ⟨rfl, rfl⟩
end Go.Proofs.YtjpibgehhgaopaaGreat.Top
/- nat's Bits, Compare, Bit, Resize, Word; slices.Clone of words; key's least. -/
namespace Go.Proofs.YtjpibgehhgaopaaGreat.Top
open Go.RowKit Go.Proofs.YtjpibgehhgaopaaGreatW.PrintWords Go.Proofs.YtjpibgehhgaopaaGreatW.PrintLast
set_option linter.unusedVariables false
set_option linter.unusedSimpArgs false

theorem top_word (a : List Nat) (hw : W64 a) (h : wl (val a) ≠ 0) : wl (val a) ≤ a.length ∧ bl (val a) = 64 * (wl (val a) - 1) + bl (a.getD (wl (val a) - 1) 0) := by
  have hle := wl_le (val_lt a hw)
  refine ⟨hle, ?_⟩
  obtain ⟨n, hn⟩ : ∃ n, wl (val a) = n + 1 := ⟨wl (val a) - 1, by omega⟩
  rw [hn] at hle ⊢
  have hd : val (a.drop (n + 1)) = 0 := by
    rcases Nat.eq_zero_or_pos (val (a.drop (n + 1))) with h0 | h0
    · exact h0
    · have e := val_take_drop a (n + 1) hle
      have hlt := lt_wl (val a)
      rw [hn] at hlt
      have := Nat.le_mul_of_pos_right (18446744073709551616 ^ (n + 1)) h0
      omega
  have e := val_take_drop a (n + 1) hle
  rw [hd, Nat.mul_zero, Nat.add_zero, val_take_succ a n (by omega)] at e
  have hl := val_lt (a.take n) (W64_take hw n)
  rw [List.length_take, Nat.min_eq_left (by omega)] at hl
  have hx : a.getD n 0 ≠ 0 := by
    intro h0
    rw [h0, Nat.mul_zero, Nat.add_zero] at e
    have := wl_le hl
    rw [← e, hn] at this
    omega
  rw [e]
  exact bl_top _ _ n hl hx
theorem bl_le64 {x : Nat} (h : x < 18446744073709551616) : bl x ≤ 64 := bl_le (by rw [show (2 : Nat) ^ 64 = 18446744073709551616 by decide]; exact h)
theorem wrap64_id {x : Int} (h1 : -9223372036854775808 ≤ x) (h2 : x ≤ 9223372036854775807) : wrap64 x = x := by unfold wrap64; omega
theorem wrap64_nat {n : Nat} (h : n ≤ 9223372036854775807) : wrap64 (n : Int) = (n : Int) := wrap64_id (by omega) (by omega)
theorem bits_wrap {n k l z : Nat} (h1 : 1 ≤ n) (h : n ≤ 100000) (hk : k = n - 1) (hl : l ≤ 64) (hz : z = 64 * k + l) :
    wrap64 ((n : Int) - 1) = (k : Int) ∧ wrap64 (64 * (k : Int)) = ((64 * k : Nat) : Int) ∧ wrap64 (((64 * k : Nat) : Int) + (l : Int)) = (z : Int) ∧ wrap64 (64 * (k : Int) + (l : Int)) = (z : Int) := by
  have e1 : (n : Int) - 1 = (k : Int) := by omega
  have e2 : 64 * (k : Int) = ((64 * k : Nat) : Int) := by omega
  have e3 : ((64 * k : Nat) : Int) + (l : Int) = (z : Int) := by omega
  have b : k ≤ 100000 := by omega
  have b2 : z ≤ 7000000 := by omega
  rw [e1, e2, e3]
  exact ⟨wrap64_nat (by omega), wrap64_nat (by omega), wrap64_nat (by omega), wrap64_nat (by omega)⟩
theorem msr_down (i : Nat) : (intOf (.int .i64 ((i : Int) - 1)) + 1).toNat < (intOf (.int .i64 (i : Int)) + 1).toNat := by
  show ((i : Int) - 1 + 1).toNat < ((i : Int) + 1).toNat
  omega
set_option maxRecDepth 100000 in
theorem bitsN (A : Option Addr) (c : Nat) (a : List Nat) (w : World) (h : Num w A c a) (hl : a.length ≤ 100000) :
    Calls Tryz.prog 28 #[.slice A a.length c] w fun e w' => e = .returned (.int .i64 (bl (val a) : Int)) ∧ w' = w := by
  have H := Aside0.mk h
  have HT := Aside0.mk (top_word a h.w64)
  have HL := Aside0.mk (leastN A c a w h)
  obtain ⟨n, hn⟩ : ∃ n, n = wl (val a) := ⟨_, rfl⟩
  obtain ⟨z, hz⟩ : ∃ z, z = bl (val a) := ⟨_, rfl⟩
  rw [← hn, ← hz] at HT
  rw [← hn] at HL
  rw [← hz]
  have HN := Aside0.mk (show n = 0 → z = 0 from fun h0 => by rw [hn] at h0; unfold wl at h0; omega)
  clear h hn hz
  by_cases h0 : n = 0
  · have t0 : ((n : Int) == 0) = true := by simp [h0]
    have hz := HN.out h0
    subst hz
    clear h0
    go_enter Tryz.func28, Tryz.ntmps28
    go_wp2_with fail
    refine HL.out.mono ?_
    rintro e w' ⟨rfl, rfl⟩
    go_wp2_with fail
    go_ret
    exact ⟨rfl, rfl⟩
  · have t0 : ((n : Int) == 0) = false := by simp [h0]
    obtain ⟨h1, h2⟩ := HT.out h0
    obtain ⟨ad, rfl, hc⟩ := H.out.at_ (n - 1) (by omega)
    have hx := getD_w H.out.w64 (n - 1)
    obtain ⟨x, hxe⟩ : ∃ x, x = a.getD (n - 1) 0 := ⟨_, rfl⟩
    rw [← hxe] at hc hx h2
    obtain ⟨k, hk⟩ : ∃ k, k = n - 1 := ⟨_, rfl⟩
    rw [← hk] at hc h2
    have hb2 : bl x ≤ 64 := bl_le64 hx
    obtain ⟨l, hlx⟩ : ∃ l, l = bl x := ⟨_, rfl⟩
    have h64 := len64N x
    rw [bitLen_bl x hx, ← hlx] at h64
    rw [← hlx] at h2 hb2
    have hnb : n ≤ 100000 := Nat.le_trans h1 hl
    obtain ⟨w1, w2, w3, w5⟩ := bits_wrap (by omega) hnb hk hb2 h2
    have w4 : IntKind.i64.wrap (k : Int) = (k : Int) := (i64_w _).trans (wrap64_nat (by omega))
    have hkl : (k : Int) < (a.length : Int) := by omega
    clear hlx hnb hb2 hl
    clear hxe hk h0 h1 h2
    go_enter Tryz.func28, Tryz.ntmps28
    go_wp2_with fail
    refine HL.out.mono ?_
    rintro e w' ⟨rfl, rfl⟩
    go_wp2_with fail
    refine (h64 _ hx).mono ?_
    rintro e w' ⟨rfl, rfl⟩
    go_wp2_with fail
    go_ret
    exact ⟨by first | rfl | (rw [w3]; rfl) | (rw [w5]; rfl), rfl⟩

/-! ### Compare -/
def vd (a : List Nat) (i : Nat) : Nat := val (a.drop i)
theorem vd_step (a : List Nat) (i : Nat) : vd a i = a.getD i 0 + 18446744073709551616 * vd a (i + 1) := by
  unfold vd
  by_cases h : i < a.length
  · rw [List.drop_eq_getElem_cons h]
    simp [val, List.getD, h]
  · rw [List.drop_eq_nil_of_le (by omega), List.drop_eq_nil_of_le (by omega)]
    simp [val, List.getD, show a.length ≤ i by omega]
theorem vd_lift {a b : List Nat} (ha : W64 a) : ∀ i, vd a i < vd b i → val a < val b
  | 0, h => by simpa [vd] using h
  | i + 1, h => by
    refine vd_lift ha i ?_
    rw [vd_step a i, vd_step b i]
    have := getD_w ha i
    omega
def cmpI (x y : Nat) : Int := if x < y then -1 else if y < x then 1 else 0
set_option maxHeartbeats 1000000 in
set_option maxRecDepth 100000 in
theorem compareN (A A2 : Option Addr) (c c2 : Nat) (a b : List Nat) (w : World) (h : Num w A c a) (h2 : Num w A2 c2 b) (hl : a.length ≤ 100000) (hl2 : b.length ≤ 100000) :
    Calls Tryz.prog 29 #[.slice A a.length c, .slice A2 b.length c2] w fun e w' => e = .returned (.int .i64 (cmpI (val a) (val b))) ∧ w' = w := by
  have H := Aside0.mk (And.intro h h2)
  clear h h2
  obtain ⟨M, hM⟩ : ∃ M, M = max a.length b.length := ⟨_, rfl⟩
  have m1 : max (a.length : Int) (b.length : Int) = (M : Int) := by omega
  have w1 : wrap64 ((M : Int) - 1) = (M : Int) - 1 := by unfold wrap64; omega
  have HM := Aside0.mk (show a.length ≤ M ∧ b.length ≤ M ∧ M ≤ 100000 from by omega)
  clear hM
  go_enter Tryz.func29, Tryz.ntmps29
  go_wp2_with fail
  go_loopw [5] (fun v5 wr => ∃ k : Nat, v5 = .int .i64 ((k : Int) - 1) ∧ Aside0 (k ≤ M ∧ vd a k = vd b k) ∧ Aside0 (wr = w)) (fun v5 _ => (intOf v5 + 1).toNat)
  case atStart => exact ⟨M, rfl, ⟨Nat.le_refl _, by unfold vd; rw [List.drop_eq_nil_of_le HM.out.1, List.drop_eq_nil_of_le HM.out.2.1]⟩, ⟨rfl⟩⟩
  case round =>
    obtain ⟨k, rfl, HK, HW⟩ := hrel
    obtain rfl := HW.out
    rcases k with _ | i
    · have t1 : decide ((((0 : Nat) : Int) - 1) ≥ 0) = false := by decide
      have HZ := Aside0.mk (show cmpI (val a) (val b) = 0 from by
        have := HK.out.2
        simp only [vd, List.drop_zero] at this
        simp [cmpI, this])
      go_wp2_with fail
      go_ret
      rw [HZ.out]
      exact ⟨rfl, rfl⟩
    · rw [show ((i + 1 : Nat) : Int) - 1 = (i : Int) by omega]
      have t1 : decide ((i : Int) ≥ 0) = true := by rw [decide_eq_true_eq]; omega
      have hw1 : wrap64 ((i : Int) - 1) = (i : Int) - 1 := by have := HK.out.1; have := HM.out; unfold wrap64; omega
      have ca := atN A c a (i : Int) wr H.out.1
      have cb := atN A2 c2 b (i : Int) wr H.out.2
      rw [if_neg (by omega), Int.toNat_natCast] at ca cb
      have HSa := Aside0.mk (vd_step a i)
      have HSb := Aside0.mk (vd_step b i)
      obtain ⟨x, hx⟩ : ∃ x, x = a.getD i 0 := ⟨_, rfl⟩
      obtain ⟨y, hy⟩ : ∃ y, y = b.getD i 0 := ⟨_, rfl⟩
      rw [← hx] at ca HSa
      rw [← hy] at cb HSb
      clear hx hy
      by_cases hlt : x < y
      · have t2 : decide ((x : Int) < (y : Int)) = true := by rw [decide_eq_true_eq]; omega
        have t2' : decide (x < y) = true := by rw [decide_eq_true_eq]; omega
        have HZ := Aside0.mk (show cmpI (val a) (val b) = -1 from by
          have h1 := HK.out.2
          have h2 : vd a i < vd b i := by rw [HSa.out, HSb.out, h1]; omega
          rw [cmpI, if_pos (vd_lift H.out.1.w64 i h2)])
        clear hlt
        go_wp2_with fail
        refine ca.mono ?_
        rintro e w' ⟨rfl, rfl⟩
        go_wp2_with fail
        refine cb.mono ?_
        rintro e w' ⟨rfl, rfl⟩
        go_wp2_with fail
        go_ret
        rw [HZ.out]
        exact ⟨rfl, rfl⟩
      · have t2 : decide ((x : Int) < (y : Int)) = false := by rw [decide_eq_false_iff_not]; omega
        have t2' : decide (x < y) = false := by rw [decide_eq_false_iff_not]; omega
        by_cases hgt : y < x
        · have t3 : decide ((x : Int) > (y : Int)) = true := by rw [decide_eq_true_eq]; omega
          have t3' : decide (y < x) = true := by rw [decide_eq_true_eq]; omega
          have HZ := Aside0.mk (show cmpI (val a) (val b) = 1 from by
            have h1 := HK.out.2
            have h2 : vd b i < vd a i := by rw [HSa.out, HSb.out, h1]; omega
            have h3 := vd_lift H.out.2.w64 i h2
            rw [cmpI, if_neg (by omega), if_pos h3])
          clear hlt hgt
          go_wp2_with fail
          refine ca.mono ?_
          rintro e w' ⟨rfl, rfl⟩
          go_wp2_with fail
          refine cb.mono ?_
          rintro e w' ⟨rfl, rfl⟩
          go_wp2_with fail
          go_ret
          rw [HZ.out]
          exact ⟨rfl, rfl⟩
        · have t3 : decide ((x : Int) > (y : Int)) = false := by rw [decide_eq_false_iff_not]; omega
          have t3' : decide (y < x) = false := by rw [decide_eq_false_iff_not]; omega
          have HV := Aside0.mk (show vd a i = vd b i from by rw [HSa.out, HSb.out, HK.out.2]; omega)
          have HI := Aside0.mk HK.out.1
          clear hlt hgt
          go_wp2_with fail
          refine ca.mono ?_
          rintro e w' ⟨rfl, rfl⟩
          go_wp2_with fail
          refine cb.mono ?_
          rintro e w' ⟨rfl, rfl⟩
          go_wp2_with fail
          go_roundw
          case rel => exact ⟨i, by first | rfl | exact congrArg (Value.int .i64) (by omega), ⟨by have := HI.out; omega, HV.out⟩, ⟨by first | rfl | trivial⟩⟩
          case measure => first | (rw [hw1]; exact msr_down i) | exact msr_down i
end Go.Proofs.YtjpibgehhgaopaaGreat.Top
