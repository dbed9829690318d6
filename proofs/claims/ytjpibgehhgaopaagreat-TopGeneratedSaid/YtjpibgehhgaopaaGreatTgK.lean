/- limbs' Sub, Add, Select. -/
import Derived.Test.YtjpibgehhgaopaaGreatZ06
namespace Go.Proofs.YtjpibgehhgaopaaGreat.Top
open Go.RowKit Go.Proofs.YtjpibgehhgaopaaGreatW.PrintWords Go.Proofs.YtjpibgehhgaopaaGreatW.PrintLast Go.Proofs.YtjpibgehhgaopaaGreat.PTopGenerated
set_option linter.unusedVariables false
set_option linter.unusedSimpArgs false

def subK (a b : List Nat) : Nat → Nat
  | 0 => 0
  | i + 1 => if a.getD i 0 < b.getD i 0 + subK a b i then 1 else 0
def subZ (a b : List Nat) (i : Nat) : Nat := (a.getD i 0 + 18446744073709551616 - b.getD i 0 - subK a b i) % 18446744073709551616
def addK (a b : List Nat) : Nat → Nat
  | 0 => 0
  | i + 1 => (a.getD i 0 + b.getD i 0 + addK a b i) / 18446744073709551616
def addZ (a b : List Nat) (i : Nat) : Nat := (a.getD i 0 + b.getD i 0 + addK a b i) % 18446744073709551616
theorem subK_le (a b : List Nat) : ∀ i, subK a b i ≤ 1
  | 0 => Nat.zero_le _
  | i + 1 => by simp only [subK]; split <;> omega
theorem addK_le {a b : List Nat} (ha : W64 a) (hb : W64 b) : ∀ i, addK a b i ≤ 1
  | 0 => Nat.zero_le _
  | i + 1 => by
    have h1 := addK_le ha hb i
    have h2 := getD_w ha i
    have h3 := getD_w hb i
    simp only [addK]
    omega
/-- The first i words' value, noughts beyond the end. -/
def vu (a : List Nat) : Nat → Nat
  | 0 => 0
  | i + 1 => vu a i + 18446744073709551616 ^ i * a.getD i 0
theorem vu_take (a : List Nat) : ∀ i, i ≤ a.length → vu a i = val (a.take i)
  | 0, _ => rfl
  | i + 1, h => by rw [val_take_succ a i (by omega), vu, vu_take a i (by omega)]
theorem vu_all (a : List Nat) (n : Nat) (h : a.length ≤ n) : vu a n = val a := by
  obtain ⟨k, rfl⟩ : ∃ k, n = a.length + k := ⟨n - a.length, by omega⟩
  induction k with
  | zero => rw [Nat.add_zero, vu_take a _ (Nat.le_refl _), List.take_length]
  | succ k ih =>
    rw [show a.length + (k + 1) = (a.length + k) + 1 by omega, vu, ih (by omega)]
    have : a.getD (a.length + k) 0 = 0 := by simp [List.getD]
    rw [this]
    simp
theorem sub_word (u v k : Nat) (hu : u < 18446744073709551616) (hv : v < 18446744073709551616) (hk : k ≤ 1) :
    u + 18446744073709551616 * (if u < v + k then 1 else 0) = v + k + (u + 18446744073709551616 - v - k) % 18446744073709551616 := by
  split <;> omega
theorem sub_comb {p W u v k k1 y A Bb O : Nat} (ih : A + p * k = Bb + O) (hw : u + W * k1 = v + k + y) : A + p * u + p * W * k1 = Bb + p * v + (O + p * y) := by
  have h5 : p * u + p * W * k1 = p * v + p * k + p * y := by
    rw [Nat.mul_assoc, ← Nat.mul_add, hw, Nat.mul_add, Nat.mul_add]
  generalize p * W * k1 = q at *
  generalize p * u = q1 at *
  generalize p * v = q2 at *
  generalize p * k = q3 at *
  generalize p * y = q4 at *
  omega
theorem add_comb {p W u v k k1 y A Bb O : Nat} (ih : A + Bb = O + p * k) (hw : u + v + k = y + W * k1) : A + p * u + (Bb + p * v) = O + p * y + p * W * k1 := by
  have h5 : p * u + p * v + p * k = p * y + p * W * k1 := by
    rw [Nat.mul_assoc, ← Nat.mul_add, ← Nat.mul_add, hw, Nat.mul_add]
  generalize p * W * k1 = q at *
  generalize p * u = q1 at *
  generalize p * v = q2 at *
  generalize p * k = q3 at *
  generalize p * y = q4 at *
  omega
/-- The sum of the first words of a sequence, over a letter base. -/
def sumB (W : Nat) (f : Nat → Nat) : Nat → Nat
  | 0 => 0
  | i + 1 => sumB W f i + W ^ i * f i
theorem sumB_sub (W : Nat) (u v y k : Nat → Nat) (h0 : k 0 = 0) (h : ∀ i, u i + W * k (i + 1) = v i + k i + y i) :
    ∀ N, sumB W u N + W ^ N * k N = sumB W v N + sumB W y N
  | 0 => by rw [h0]; rfl
  | N + 1 => by
    rw [sumB, sumB, sumB, Nat.pow_succ]
    exact sub_comb (sumB_sub W u v y k h0 h N) (h N)
theorem sumB_add (W : Nat) (u v y k : Nat → Nat) (h0 : k 0 = 0) (h : ∀ i, u i + v i + k i = y i + W * k (i + 1)) :
    ∀ N, sumB W u N + sumB W v N = sumB W y N + W ^ N * k N
  | 0 => by rw [h0]; rfl
  | N + 1 => by
    rw [sumB, sumB, sumB, Nat.pow_succ]
    exact add_comb (sumB_add W u v y k h0 h N) (h N)
theorem sumB_congr (W : Nat) (f g : Nat → Nat) : ∀ N, (∀ i, i < N → f i = g i) → sumB W f N = sumB W g N
  | 0, _ => rfl
  | N + 1, h => by rw [sumB, sumB, sumB_congr W f g N (fun i hi => h i (by omega)), h N (by omega)]
theorem vu_sumB (a : List Nat) : ∀ N, vu a N = sumB 18446744073709551616 (fun i => a.getD i 0) N
  | 0 => rfl
  | N + 1 => by rw [vu, sumB, vu_sumB a N]
theorem vu_mapB (z : Nat → Nat) (N : Nat) : vu ((List.range N).map z) N = sumB 18446744073709551616 z N := by
  rw [vu_sumB]
  refine sumB_congr _ _ _ N fun i hi => ?_
  simp [List.getD, hi]
theorem sub_step {a b : List Nat} (ha : W64 a) (hb : W64 b) (i : Nat) : a.getD i 0 + 18446744073709551616 * subK a b (i + 1) = b.getD i 0 + subK a b i + subZ a b i := by
  have h := sub_word (a.getD i 0) (b.getD i 0) (subK a b i) (getD_w ha i) (getD_w hb i) (subK_le a b i)
  have e : subK a b (i + 1) = if a.getD i 0 < b.getD i 0 + subK a b i then 1 else 0 := rfl
  rw [e]
  exact h
theorem add_step (a b : List Nat) (i : Nat) : a.getD i 0 + b.getD i 0 + addK a b i = addZ a b i + 18446744073709551616 * addK a b (i + 1) := by
  have e : addK a b (i + 1) = (a.getD i 0 + b.getD i 0 + addK a b i) / 18446744073709551616 := rfl
  rw [e]
  exact (Nat.mod_add_div _ _).symm
theorem sub_val {a b : List Nat} (ha : W64 a) (hb : W64 b) (N : Nat) : vu a N + 18446744073709551616 ^ N * subK a b N = vu b N + vu ((List.range N).map (subZ a b)) N := by
  rw [vu_mapB, vu_sumB, vu_sumB]
  exact sumB_sub _ _ _ _ _ rfl (sub_step ha hb) N
theorem add_val (a b : List Nat) (N : Nat) : vu a N + vu b N = vu ((List.range N).map (addZ a b)) N + 18446744073709551616 ^ N * addK a b N := by
  rw [vu_mapB, vu_sumB, vu_sumB]
  exact sumB_add _ _ _ _ _ rfl (add_step a b) N
theorem W64_map (z : Nat → Nat) (N : Nat) (h : ∀ i, z i < 18446744073709551616) : W64 ((List.range N).map z) := fun x hx => by
  obtain ⟨i, _, rfl⟩ := List.mem_map.1 hx
  exact h i
theorem subZ_lt (a b : List Nat) (i : Nat) : subZ a b i < 18446744073709551616 := Nat.mod_lt _ (by omega)
theorem addZ_lt (a b : List Nat) (i : Nat) : addZ a b i < 18446744073709551616 := Nat.mod_lt _ (by omega)
/-- The difference by value. -/
theorem sub_out {a b : List Nat} (ha : W64 a) (hb : W64 b) (N : Nat) (h1 : a.length ≤ N) (h2 : b.length ≤ N) :
    (List.range N).map (subZ a b) = digs N (val a + 18446744073709551616 ^ N - val b) ∧ subK a b N = if val a < val b then 1 else 0 := by
  have h := sub_val ha hb N
  rw [vu_all a N h1, vu_all b N h2, vu_all _ N (by simp)] at h
  have hw := W64_map (subZ a b) N (subZ_lt a b)
  have hv := val_lt _ hw
  have hlb : val b < 18446744073709551616 ^ N := Nat.lt_of_lt_of_le (val_lt b hb) (Nat.pow_le_pow_right (by omega) h2)
  have hla : val a < 18446744073709551616 ^ N := Nat.lt_of_lt_of_le (val_lt a ha) (Nat.pow_le_pow_right (by omega) h1)
  rw [List.length_map, List.length_range] at hv
  have hk := subK_le a b N
  refine ⟨val_inj hw (digs_w _ _) (by simp) ?_, ?_⟩
  · rw [val_digs]
    generalize 18446744073709551616 ^ N = p at *
    have : subK a b N = 0 ∨ subK a b N = 1 := by omega
    rcases this with e | e
    · rw [e, Nat.mul_zero, Nat.add_zero] at h
      rw [h, show val b + val (List.map (subZ a b) (List.range N)) + p - val b = val (List.map (subZ a b) (List.range N)) + p by omega, Nat.add_mod_right, Nat.mod_eq_of_lt hv]
    · rw [e, Nat.mul_one] at h
      rw [h, show val b + val (List.map (subZ a b) (List.range N)) - val b = val (List.map (subZ a b) (List.range N)) by omega, Nat.mod_eq_of_lt hv]
  · generalize 18446744073709551616 ^ N = p at *
    have : subK a b N = 0 ∨ subK a b N = 1 := by omega
    rcases this with e | e
    · rw [e, Nat.mul_zero, Nat.add_zero] at h
      rw [e, if_neg (by omega)]
    · rw [e, Nat.mul_one] at h
      rw [e, if_pos (by omega)]
/-- The sum by value. -/
theorem add_out {a b : List Nat} (ha : W64 a) (hb : W64 b) (N : Nat) (h1 : a.length ≤ N) (h2 : b.length ≤ N) :
    (List.range N).map (addZ a b) = digs N (val a + val b) ∧ addK a b N = (val a + val b) / 18446744073709551616 ^ N := by
  have h := add_val a b N
  rw [vu_all a N h1, vu_all b N h2, vu_all _ N (by simp)] at h
  have hw := W64_map (addZ a b) N (addZ_lt a b)
  have hv := val_lt _ hw
  rw [List.length_map, List.length_range] at hv
  refine ⟨val_inj hw (digs_w _ _) (by simp) ?_, ?_⟩
  · rw [val_digs, h, Nat.add_mul_mod_self_left, Nat.mod_eq_of_lt hv]
  · rw [h, Nat.add_mul_div_left _ _ (Nat.pow_pos (by omega)), Nat.div_eq_of_lt hv, Nat.zero_add]

set_option maxRecDepth 100000 in
theorem maskOne (w : World) : Calls Tryz.prog 137 #[.int .u64 1] w fun e w' => e = .returned (.int .u64 18446744073709551615) ∧ w' = w := mask_any true w
theorem and_full (y : Nat) (h : y < 18446744073709551616) : Go.bits .and .u64 (y : Int) 18446744073709551615 = (y : Int) := by
  have h1 := bits_and_u64_nat y 18446744073709551615 h (by omega)
  have e : y &&& 18446744073709551615 = y % 18446744073709551616 := Nat.and_two_pow_sub_one_eq_mod y 64
  rw [e, Nat.mod_eq_of_lt h] at h1
  exact h1
set_option maxRecDepth 100000 in
set_option maxHeartbeats 1000000 in
/-- SubIf's step. -/
theorem subStep (x y k m g : Nat) (hx : x < 18446744073709551616) (hy : y < 18446744073709551616) (hk : k ≤ 1) (w : World)
    (hm : w.heap[m]? = some (.cells #[.int .u64 18446744073709551615] 23 (0, 0))) (hg : w.heap[g]? = some (.cells #[.int .u64 (k : Int)] 23 (0, 0))) :
    Calls Tryz.prog 212 #[.int .u64 (x : Int), .int .u64 (y : Int), .pointer (some ⟨m, 0, none⟩), .pointer (some ⟨g, 0, none⟩)] w fun e w' =>
      e = .returned (.int .u64 (((x + 18446744073709551616 - y - k) % 18446744073709551616 : Nat) : Int)) ∧ w' = w.setCell ⟨g, 0, none⟩ (.int .u64 ((if x < y + k then 1 else 0 : Nat) : Int)) := by
  have h1 := and_full y hy
  have h2 : w.cell? ⟨m, 0, none⟩ = some (.int .u64 18446744073709551615) := blk_cell hm 0
  have h3 : w.cell? ⟨g, 0, none⟩ = some (.int .u64 (k : Int)) := blk_cell hg 0
  have h4 : w.frozen? ⟨g, 0, none⟩ = false := frozen_of_row w g 0 _ _ hg
  have h5 := subWN x y k hk
  generalize (x + 18446744073709551616 - y - k) % 18446744073709551616 = r1 at h5 ⊢
  generalize (if x < y + k then 1 else 0 : Nat) = r2 at h5 ⊢
  clear hm hg
  go_enter Tryz.func212, Tryz.ntmps212
  go_wp2_with fail
  refine (h5 _).mono ?_
  rintro e w' ⟨rfl, rfl⟩
  go_wp2_with fail
  go_ret
  exact ⟨rfl, rfl⟩
set_option maxRecDepth 100000 in
set_option maxHeartbeats 1000000 in
/-- AddIf's step. -/
theorem addStep (x y k m g : Nat) (hx : x < 18446744073709551616) (hy : y < 18446744073709551616) (hk : k ≤ 1) (w : World)
    (hm : w.heap[m]? = some (.cells #[.int .u64 18446744073709551615] 23 (0, 0))) (hg : w.heap[g]? = some (.cells #[.int .u64 (k : Int)] 23 (0, 0))) :
    Calls Tryz.prog 211 #[.int .u64 (x : Int), .int .u64 (y : Int), .pointer (some ⟨m, 0, none⟩), .pointer (some ⟨g, 0, none⟩)] w fun e w' =>
      e = .returned (.int .u64 (((x + y + k) % 18446744073709551616 : Nat) : Int)) ∧ w' = w.setCell ⟨g, 0, none⟩ (.int .u64 (((x + y + k) / 18446744073709551616 : Nat) : Int)) := by
  have h1 := and_full y hy
  have h2 : w.cell? ⟨m, 0, none⟩ = some (.int .u64 18446744073709551615) := blk_cell hm 0
  have h3 : w.cell? ⟨g, 0, none⟩ = some (.int .u64 (k : Int)) := blk_cell hg 0
  have h4 : w.frozen? ⟨g, 0, none⟩ = false := frozen_of_row w g 0 _ _ hg
  have h5 := addWN x y k hx hy hk
  generalize (x + y + k) % 18446744073709551616 = r1 at h5 ⊢
  generalize (x + y + k) / 18446744073709551616 = r2 at h5 ⊢
  clear hm hg
  go_enter Tryz.func211, Tryz.ntmps211
  go_wp2_with fail
  refine (h5 _).mono ?_
  rintro e w' ⟨rfl, rfl⟩
  go_wp2_with fail
  go_ret
  exact ⟨rfl, rfl⟩
/-- A word in a box of its own is written. -/
theorem St.box {B g : Nat} {w : World} {cur : Array Value} (hg : w.heap[g]? = some (.cells cur 23 (0, 0))) (hB : B ≤ g) (u : Value) : St B (some g) w (w.setCell ⟨g, 0, none⟩ u) := by
  refine ⟨(Below.refl _ _).setCell hB u, fun k o hk h1 _ _ => ?_⟩
  rw [Below.heap_setCell _ _ _ _ (fun e => h1 (by rw [e]))]
  exact hk
/-- The two boxes of SubIf and AddIf: the mask, the carry. -/
def Bx2 (m g : Nat) (K : Nat → Nat) (i : Nat) (w : World) : Prop :=
  w.heap[m]? = some (.cells #[.int .u64 18446744073709551615] 23 (0, 0)) ∧ w.heap[g]? = some (.cells #[.int .u64 ((K i : Nat) : Int)] 23 (0, 0))
theorem do2 (B : Nat) (t : Option Nat) (f m g s : Nat) (a b : List Nat) (N : Nat) (z K : Nat → Nat) (hmg : m ≠ g) (hgs : g < s) (hms : m < s) (hB : B ≤ g) (hz : ∀ i, z i < 18446744073709551616)
    (he : ∀ args w, (callFunc f args).run Tryz.prog w = .ok (.enter f args) w)
    (hc : ∀ (i : Nat) (w : World), w.heap[m]? = some (.cells #[.int .u64 18446744073709551615] 23 (0, 0)) → w.heap[g]? = some (.cells #[.int .u64 ((K i : Nat) : Int)] 23 (0, 0)) →
      Calls Tryz.prog f #[.int .u64 ((a.getD i 0 : Nat) : Int), .int .u64 ((b.getD i 0 : Nat) : Int), .pointer (some ⟨m, 0, none⟩), .pointer (some ⟨g, 0, none⟩)] w fun e w' =>
        e = .returned (.int .u64 ((z i : Nat) : Int)) ∧ w' = w.setCell ⟨g, 0, none⟩ (.int .u64 ((K (i + 1) : Nat) : Int))) :
    Do B t (some g) s f #[.pointer (some ⟨m, 0, none⟩), .pointer (some ⟨g, 0, none⟩)] a b N z (Bx2 m g K) where
  enters := he
  stab := fun i w w' h hk => ⟨hk m _ hms h.1, hk g _ hgs h.2⟩
  call := fun i w hi h hs hBs => (hc i w h.1 h.2).mono fun e w' ⟨e1, e2⟩ => by
    subst e2
    refine ⟨e1, ⟨?_, ?_⟩, St.box h.2 hB _, fun n hn => hn.set_ h.2 _⟩
    · rw [Below.heap_setCell _ _ _ _ hmg]
      exact h.1
    · exact heap_setCell_same _ _ _ _ _ _ h.2
  xs := fun k hk => by injection hk with hk; omega
  z64 := hz
/-- each, with a function over two fresh boxes: the mask and the carry. -/
theorem each2T (B : Nat) (t : Option Nat) (n f : Nat) (A A2 : Option Addr) (c c2 : Nat) (a b : List Nat) (N : Nat) (z K : Nat → Nat) (w : World)
    (hT : T w B t n) (hn : n ≤ 1000000000) (ha : Num w A c a) (hb : Num w A2 c2 b) (hN : N = max a.length b.length) (hNl : N ≤ 100000) (hz : ∀ i, z i < 18446744073709551616) (h0 : K 0 = 0)
    (he : ∀ args w, (callFunc f args).run Tryz.prog w = .ok (.enter f args) w)
    (hc : ∀ (m g i : Nat) (w : World), w.heap[m]? = some (.cells #[.int .u64 18446744073709551615] 23 (0, 0)) → w.heap[g]? = some (.cells #[.int .u64 ((K i : Nat) : Int)] 23 (0, 0)) →
      Calls Tryz.prog f #[.int .u64 ((a.getD i 0 : Nat) : Int), .int .u64 ((b.getD i 0 : Nat) : Int), .pointer (some ⟨m, 0, none⟩), .pointer (some ⟨g, 0, none⟩)] w fun e w' =>
        e = .returned (.int .u64 ((z i : Nat) : Int)) ∧ w' = w.setCell ⟨g, 0, none⟩ (.int .u64 ((K (i + 1) : Nat) : Int))) :
    Calls Tryz.prog 182 #[ptrV t, .slice A a.length c, .slice A2 b.length c2, .func (.func f) #[] #[.pointer (some ⟨w.heap.size, 0, none⟩), .pointer (some ⟨w.heap.size + 1, 0, none⟩)]]
      ((w.alloc (.cells #[.int .u64 18446744073709551615] 23)).alloc (.cells #[.int .u64 0] 23)) fun e w' => ∃ v, e = .returned v ∧ w'.ownsRow w.heap.size 23 1 v N (nums .u64 (nz ((List.range N).map z))) ∧
        w'.heap[w.heap.size + 1]? = some (.cells #[.int .u64 ((K N : Nat) : Int)] 23 (0, 0)) ∧ St B none w w' ∧ T w' B t (n + 1) := by
  have hsz : ((w.alloc (.cells #[.int .u64 18446744073709551615] 23)).alloc (.cells #[.int .u64 0] 23)).heap.size = w.heap.size + 2 := by simp
  have hb1 := below_alloc (Below.refl w.heap.size w) (.cells #[.int .u64 18446744073709551615] 23)
  have hb2 := below_alloc hb1 (.cells #[.int .u64 0] 23)
  have hm : ((w.alloc (.cells #[.int .u64 18446744073709551615] 23)).alloc (.cells #[.int .u64 0] 23)).heap[w.heap.size]? = some (.cells #[.int .u64 18446744073709551615] 23 (0, 0)) := heap_alloc2_old _ _ _
  have hg : ((w.alloc (.cells #[.int .u64 18446744073709551615] 23)).alloc (.cells #[.int .u64 0] 23)).heap[w.heap.size + 1]? = some (.cells #[.int .u64 ((K 0 : Nat) : Int)] 23 (0, 0)) := by rw [h0]; exact heap_alloc2_new _ _ _
  generalize (w.alloc (.cells #[.int .u64 18446744073709551615] 23)).alloc (.cells #[.int .u64 0] 23) = W at *
  have hne : ∀ A' c' a', Num w A' c' a' → ∀ ad, A' = some ad → some ad.block ≠ some (w.heap.size + 1) := fun A' c' a' h ad e h' => by
    obtain ⟨cur, hc⟩ := h.ty ad e
    have := blk_lt hc
    injection h' with h'
    omega
  refine (eachT B t (some (w.heap.size + 1)) n f _ A A2 c c2 a b N z (Bx2 w.heap.size (w.heap.size + 1) K) W (hT.below hb2) hn (ha.below hb2) (hb.below hb2) hN hNl
    (do2 B t f w.heap.size (w.heap.size + 1) W.heap.size a b N z K (by omega) (by omega) (by omega) (by have := hT.size; omega) hz he (fun i w => hc _ _ i w)) ⟨hm, hg⟩ (hne _ _ _ ha) (hne _ _ _ hb)).mono ?_
  rintro e w' ⟨v, rfl, h1, h2, h3, h4⟩
  exact ⟨v, rfl, own_weaken h1 (by omega), h2.2, St.drop ((St.of_below hT.size hb2).trans h3) (fun k e => by injection e with e; omega), h4⟩
set_option maxRecDepth 100000 in
set_option maxHeartbeats 1000000 in
theorem subIfT (B : Nat) (t : Option Nat) (n : Nat) (A A2 : Option Addr) (c c2 : Nat) (a b : List Nat) (N : Nat) (w : World)
    (hT : T w B t n) (hn : n ≤ 1000000000) (ha : Num w A c a) (hb : Num w A2 c2 b) (hN : N = max a.length b.length) (hNl : N ≤ 100000) :
    Calls Tryz.prog 175 #[ptrV t, .int .u64 1, .slice A a.length c, .slice A2 b.length c2] w fun e w' => ∃ v, e = .returned (.tuple #[v, .int .u64 ((if val a < val b then 1 else 0 : Nat) : Int)]) ∧
      w'.ownsRow w.heap.size 23 1 v N (nums .u64 (nz (digs N (val a + 18446744073709551616 ^ N - val b)))) ∧ St B none w w' ∧ T w' B t (n + 1) := by
  obtain ⟨ho1, ho2⟩ := sub_out ha.w64 hb.w64 N (by omega) (by omega)
  have HA := Aside0.mk (each2T B t n 212 A A2 c c2 a b N (subZ a b) (subK a b) w hT hn ha hb hN hNl (subZ_lt a b) rfl (fun _ _ => by rfl)
    (fun m g i w hm hg => subStep _ _ _ m g (getD_w ha.w64 i) (getD_w hb.w64 i) (subK_le a b i) w hm hg))
  rw [ho1, ho2] at HA
  clear ho1 ho2
  generalize (if val a < val b then 1 else 0 : Nat) = kk at *
  generalize digs N (val a + 18446744073709551616 ^ N - val b) = rr at *
  clear ha hb hT hN
  go_enter Tryz.func175, Tryz.ntmps175
  go_wp2_with fail
  refine (maskOne _).mono ?_
  rintro e w' ⟨rfl, rfl⟩
  go_wp2_with fail
  refine HA.out.mono ?_
  rintro e w2 ⟨v, rfl, h1, h2, h3, h4⟩
  have h5 : w2.cell? ⟨w'.heap.size + 1, 0, none⟩ = some (.int .u64 (kk : Int)) := blk_cell h2 0
  go_wp2_with fail
  go_quiet (fail)
  go_wp2_with fail
  refine bodyPost_ret (results_tmp2 rfl _ _ _) rfl ?_
  exact ⟨v, rfl, h1, h3.trans (St.of_below h4.size (pw_below_drewN (Below.refl _ _) _)), h4.below (pw_below_drewN (Below.refl _ _) _)⟩
set_option maxRecDepth 100000 in
set_option maxHeartbeats 1000000 in
theorem addIfT (B : Nat) (t : Option Nat) (n : Nat) (A A2 : Option Addr) (c c2 : Nat) (a b : List Nat) (N : Nat) (w : World)
    (hT : T w B t n) (hn : n ≤ 1000000000) (ha : Num w A c a) (hb : Num w A2 c2 b) (hN : N = max a.length b.length) (hNl : N ≤ 100000) :
    Calls Tryz.prog 174 #[ptrV t, .int .u64 1, .slice A a.length c, .slice A2 b.length c2] w fun e w' => ∃ v, e = .returned (.tuple #[v, .int .u64 (((val a + val b) / 18446744073709551616 ^ N : Nat) : Int)]) ∧
      w'.ownsRow w.heap.size 23 1 v N (nums .u64 (nz (digs N (val a + val b)))) ∧ St B none w w' ∧ T w' B t (n + 1) := by
  obtain ⟨ho1, ho2⟩ := add_out ha.w64 hb.w64 N (by omega) (by omega)
  have HA := Aside0.mk (each2T B t n 211 A A2 c c2 a b N (addZ a b) (addK a b) w hT hn ha hb hN hNl (addZ_lt a b) rfl (fun _ _ => by rfl)
    (fun m g i w hm hg => addStep _ _ _ m g (getD_w ha.w64 i) (getD_w hb.w64 i) (addK_le ha.w64 hb.w64 i) w hm hg))
  rw [ho1, ho2] at HA
  clear ho1 ho2
  generalize (val a + val b) / 18446744073709551616 ^ N = kk at *
  generalize digs N (val a + val b) = rr at *
  clear ha hb hT hN
  go_enter Tryz.func174, Tryz.ntmps174
  go_wp2_with fail
  refine (maskOne _).mono ?_
  rintro e w' ⟨rfl, rfl⟩
  go_wp2_with fail
  refine HA.out.mono ?_
  rintro e w2 ⟨v, rfl, h1, h2, h3, h4⟩
  have h5 : w2.cell? ⟨w'.heap.size + 1, 0, none⟩ = some (.int .u64 (kk : Int)) := blk_cell h2 0
  go_wp2_with fail
  go_quiet (fail)
  go_wp2_with fail
  refine bodyPost_ret (results_tmp2 rfl _ _ _) rfl ?_
  exact ⟨v, rfl, h1, h3.trans (St.of_below h4.size (pw_below_drewN (Below.refl _ _) _)), h4.below (pw_below_drewN (Below.refl _ _) _)⟩
set_option maxRecDepth 100000 in
theorem subT (B : Nat) (t : Option Nat) (n : Nat) (A A2 : Option Addr) (c c2 : Nat) (a b : List Nat) (N : Nat) (w : World)
    (hT : T w B t n) (hn : n ≤ 1000000000) (ha : Num w A c a) (hb : Num w A2 c2 b) (hN : N = max a.length b.length) (hNl : N ≤ 100000) :
    Calls Tryz.prog 130 #[ptrV t, .slice A a.length c, .slice A2 b.length c2] w fun e w' => ∃ v, e = .returned (.tuple #[v, .int .u64 ((if val a < val b then 1 else 0 : Nat) : Int)]) ∧
      w'.ownsRow w.heap.size 23 1 v N (nums .u64 (nz (digs N (val a + 18446744073709551616 ^ N - val b)))) ∧ St B none w w' ∧ T w' B t (n + 1) := by
  have HA := Aside0.mk (subIfT B t n A A2 c c2 a b N w hT hn ha hb hN hNl)
  generalize (if val a < val b then 1 else 0 : Nat) = kk at *
  generalize digs N (val a + 18446744073709551616 ^ N - val b) = rr at *
  clear ha hb hT hN
  go_enter Tryz.func130, Tryz.ntmps130
  go_wp2_with fail
  refine HA.out.mono ?_
  rintro e w2 ⟨v, rfl, h1, h3, h4⟩
  go_wp2_with fail
  refine bodyPost_ret (results_tmp2 rfl _ _ _) rfl ?_
  exact ⟨v, rfl, h1, h3, h4⟩
set_option maxRecDepth 100000 in
theorem addT (B : Nat) (t : Option Nat) (n : Nat) (A A2 : Option Addr) (c c2 : Nat) (a b : List Nat) (N : Nat) (w : World)
    (hT : T w B t n) (hn : n ≤ 1000000000) (ha : Num w A c a) (hb : Num w A2 c2 b) (hN : N = max a.length b.length) (hNl : N ≤ 100000) :
    Calls Tryz.prog 129 #[ptrV t, .slice A a.length c, .slice A2 b.length c2] w fun e w' => ∃ v, e = .returned (.tuple #[v, .int .u64 (((val a + val b) / 18446744073709551616 ^ N : Nat) : Int)]) ∧
      w'.ownsRow w.heap.size 23 1 v N (nums .u64 (nz (digs N (val a + val b)))) ∧ St B none w w' ∧ T w' B t (n + 1) := by
  have HA := Aside0.mk (addIfT B t n A A2 c c2 a b N w hT hn ha hb hN hNl)
  generalize (val a + val b) / 18446744073709551616 ^ N = kk at *
  generalize digs N (val a + val b) = rr at *
  clear ha hb hT hN
  go_enter Tryz.func129, Tryz.ntmps129
  go_wp2_with fail
  refine HA.out.mono ?_
  rintro e w2 ⟨v, rfl, h1, h3, h4⟩
  go_wp2_with fail
  refine bodyPost_ret (results_tmp2 rfl _ _ _) rfl ?_
  exact ⟨v, rfl, h1, h3, h4⟩
theorem val_mapB (z : Nat → Nat) (N : Nat) : val ((List.range N).map z) = sumB 18446744073709551616 z N := by
  rw [← vu_all ((List.range N).map z) N (by simp), vu_mapB]
theorem val_sumB (a : List Nat) (N : Nat) (h : a.length ≤ N) : val a = sumB 18446744073709551616 (fun i => a.getD i 0) N := by
  rw [← vu_all a N h, vu_sumB]
/-- A number's words, noughts beyond the end. -/
theorem map_digs {a : List Nat} (ha : W64 a) (N : Nat) (h : a.length ≤ N) : (List.range N).map (fun i => a.getD i 0) = digs N (val a) := by
  have hw := W64_map (fun i => a.getD i 0) N (getD_w ha)
  have e := digs_val _ hw
  rw [List.length_map, List.length_range, val_mapB, ← val_sumB a N h] at e
  exact e.symm
set_option maxRecDepth 100000 in
/-- Select's step. -/
theorem selStep (p : Bool) (x y g : Nat) (hx : x < 18446744073709551616) (hy : y < 18446744073709551616) (w : World)
    (hg : w.heap[g]? = some (.cells #[.int .u64 (b2i p)] 23 (0, 0))) :
    Calls Tryz.prog 183 #[.int .u64 (x : Int), .int .u64 (y : Int), .pointer (some ⟨g, 0, none⟩)] w fun e w' =>
      e = .returned (.int .u64 ((if p then x else y : Nat) : Int)) ∧ w' = w := by
  have h3 : w.cell? ⟨g, 0, none⟩ = some (.int .u64 (b2i p)) := blk_cell hg 0
  have e : ((if p then x else y : Nat) : Int) = selI p x y := by unfold selI; split <;> rfl
  rw [e]
  have h5 := select_any p x y w ⟨by omega, by omega⟩ ⟨by omega, by omega⟩
  generalize selI p x y = r at h5 ⊢
  generalize b2i p = q at *
  clear hg e
  go_enter Tryz.func183, Tryz.ntmps183
  go_wp2_with fail
  refine h5.mono ?_
  rintro e w' ⟨rfl, rfl⟩
  go_wp2_with fail
  go_ret
  exact ⟨rfl, rfl⟩
set_option maxRecDepth 100000 in
set_option maxHeartbeats 1000000 in
theorem selT (B : Nat) (t : Option Nat) (n : Nat) (p : Bool) (A A2 : Option Addr) (c c2 : Nat) (a b : List Nat) (N : Nat) (w : World)
    (hT : T w B t n) (hn : n ≤ 1000000000) (ha : Num w A c a) (hb : Num w A2 c2 b) (hN : N = max a.length b.length) (hNl : N ≤ 100000) :
    Calls Tryz.prog 142 #[ptrV t, .int .u64 (b2i p), .slice A a.length c, .slice A2 b.length c2] w fun e w' => ∃ v, e = .returned v ∧
      w'.ownsRow w.heap.size 23 1 v N (nums .u64 (nz (digs N (if p then val a else val b)))) ∧ St B none w w' ∧ T w' B t (n + 1) := by
  have hz : (List.range N).map (fun i => if p then a.getD i 0 else b.getD i 0) = digs N (if p then val a else val b) := by
    cases p
    · exact map_digs hb.w64 N (by omega)
    · exact map_digs ha.w64 N (by omega)
  have hbel := below_alloc (Below.refl w.heap.size w) (.cells #[.int .u64 (b2i p)] 23)
  have hg : (w.alloc (.cells #[.int .u64 (b2i p)] 23)).heap[w.heap.size]? = some (.cells #[.int .u64 (b2i p)] 23 (0, 0)) := heap_alloc_new _ _
  have hsz : (w.alloc (.cells #[.int .u64 (b2i p)] 23)).heap.size = w.heap.size + 1 := by simp
  have hD : Do B t none (w.alloc (.cells #[.int .u64 (b2i p)] 23)).heap.size 183 #[.pointer (some ⟨w.heap.size, 0, none⟩)] a b N (fun i => if p then a.getD i 0 else b.getD i 0)
      (fun _ W => W.heap[w.heap.size]? = some (.cells #[.int .u64 (b2i p)] 23 (0, 0))) :=
    ⟨fun _ _ => by rfl, fun i W W' h hk => hk _ _ (by omega) h, fun i W hi h hs hB => (selStep p _ _ _ (getD_w ha.w64 i) (getD_w hb.w64 i) W h).mono fun e W' ⟨e1, e2⟩ => by
      subst e2
      exact ⟨e1, h, St.refl _ _ _, fun _ h => h⟩, (fun k e => nomatch e), fun i => by
      have h1 := getD_w ha.w64 i
      have h2 := getD_w hb.w64 i
      split <;> assumption⟩
  have HA := Aside0.mk (eachT B t none n 183 _ A A2 c c2 a b N _ _ _ (hT.below hbel) hn (ha.below hbel) (hb.below hbel) hN hNl hD hg (fun _ _ e => by cases e) (fun _ _ e => by cases e))
  rw [hz] at HA
  have HB := Aside0.mk (show St B none w (w.alloc (.cells #[.int .u64 (b2i p)] 23)) from St.of_below hT.size hbel)
  generalize digs N (if p then val a else val b) = rr at *
  generalize b2i p = q at *
  clear ha hb hT hN hz hbel hg hsz hD
  go_enter Tryz.func142, Tryz.ntmps142
  go_wp2_with fail
  refine HA.out.mono ?_
  rintro e w2 ⟨v, rfl, h1, h2, h3, h4⟩
  go_wp2_with fail
  go_ret
  exact ⟨v, rfl, own_weaken h1 (by simp), HB.out.trans h3, h4⟩
end Go.Proofs.YtjpibgehhgaopaaGreat.Top
