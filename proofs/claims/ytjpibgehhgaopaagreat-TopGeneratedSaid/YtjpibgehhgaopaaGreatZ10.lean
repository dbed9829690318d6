/- Blocks of a call's own; rows of words among them. -/
import Derived.Maps.AppendAt
import Derived.Test.YtjpibgehhgaopaaGreatZ08
import Derived.Test.YtjpibgehhgaopaaGreatTgRf
namespace Go.Proofs.YtjpibgehhgaopaaGreat.Top
open Go.RowKit Go.Proofs.YtjpibgehhgaopaaGreatW.PrintWords Go.Proofs.YtjpibgehhgaopaaGreatW.PrintLast Go.Proofs.YtjpibgehhgaopaaGreat.PTopGenerated
set_option linter.unusedVariables false
set_option linter.unusedSimpArgs false

/-- What a call has laid: block by block; what lay ahead of it stays. -/
structure Fr (w W : World) (L : List (Nat × Obj)) : Prop where
  bel : Below w.heap.size w W
  ge : ∀ p ∈ L, w.heap.size ≤ p.1
  has : ∀ p ∈ L, W.heap[p.1]? = some p.2
  ne : L.Pairwise (fun p q => p.1 ≠ q.1)
section
variable {w W W' : World} {L : List (Nat × Obj)}
theorem Fr.nil (w : World) : Fr w w [] := ⟨Below.refl _ _, fun _ h => by simp at h, fun _ h => by simp at h, List.Pairwise.nil⟩
theorem Fr.at (h : Fr w W L) (i : Nat) {k : Nat} {o : Obj} (hi : L[i]? = some (k, o)) : W.heap[k]? = some o := h.has _ (List.mem_of_getElem? hi)
theorem Fr.cell (h : Fr w W L) (i : Nat) {k : Nat} {cs : Array Value} {t : TypeId} (hi : L[i]? = some (k, .cells cs t (0, 0))) (j : Nat) {v : Value} (hv : cs[j]? = some v) : W.cell? ⟨k, j, none⟩ = some v := (blk_cell (h.at i hi) j).trans hv
theorem Fr.frozen (h : Fr w W L) (i : Nat) {k : Nat} {cs : Array Value} {t : TypeId} (hi : L[i]? = some (k, .cells cs t (0, 0))) (j : Nat) : W.frozen? ⟨k, j, none⟩ = false := frozen_of_row W k j _ _ (h.at i hi)
theorem Fr.lt (h : Fr w W L) (i : Nat) {k : Nat} {o : Obj} (hi : L[i]? = some (k, o)) : w.heap.size ≤ k ∧ k < W.heap.size := ⟨h.ge _ (List.mem_of_getElem? hi), blk_lt (h.at i hi)⟩
theorem Fr.alloc (h : Fr w W L) (o : Obj) : Fr w (W.alloc o) (L ++ [(W.heap.size, o)]) := by
  refine ⟨h.bel.alloc h.bel.size _, fun p hp => ?_, fun p hp => ?_, ?_⟩
  · rcases List.mem_append.1 hp with hp | hp
    · exact h.ge p hp
    · rw [List.mem_singleton] at hp; subst hp; exact h.bel.size
  · rcases List.mem_append.1 hp with hp | hp
    · exact blk_alloc (h.has p hp) o
    · rw [List.mem_singleton] at hp; subst hp; exact heap_alloc_new _ _
  · rw [List.pairwise_append]
    refine ⟨h.ne, List.pairwise_singleton _ _, fun p hp q hq => ?_⟩
    rw [List.mem_singleton] at hq
    subst hq
    have := blk_lt (h.has p hp)
    show p.1 ≠ W.heap.size
    omega
theorem Fr.mv (h : Fr w W L) (hb : Below W.heap.size W W') : Fr w W' L :=
  ⟨h.bel.trans (hb.mono h.bel.size), h.ge, fun p hp => (hb.block _ (blk_lt (h.has p hp))).trans (h.has p hp), h.ne⟩
theorem Fr.drewN (h : Fr w W L) (k : Nat) : Fr w (W.drewN k) L := h.mv (pw_below_drewN (Below.refl _ _) k)
/-- One block turns. -/
theorem Fr.turn (h : Fr w W L) (i : Nat) {k : Nat} {o : Obj} (hi : L[i]? = some (k, o)) (o' : Obj) (hg : W.grownBy W' (some k)) (hk : W'.heap[k]? = some o') : Fr w W' (L.set i (k, o')) := by
  have hil : i < L.length := (List.getElem?_eq_some_iff.1 hi).1
  have hge := (h.lt i hi).1
  refine ⟨⟨hg.os.trans h.bel.os, hg.tape.trans h.bel.tape, hg.output.trans h.bel.output, Nat.le_trans h.bel.size hg.size, fun j hj => (hg.block j (by have := h.bel.size; omega) (by intro e; injection e with e; omega)).trans (h.bel.block j hj)⟩, fun p hp => ?_, fun p hp => ?_, ?_⟩
  · rcases List.mem_or_eq_of_mem_set hp with hp | rfl
    · exact h.ge p hp
    · exact hge
  · obtain ⟨j, hj⟩ := List.mem_iff_getElem?.1 hp
    rw [List.getElem?_set] at hj
    split at hj
    · injection hj with hj
      subst hj
      exact hk
    · rename_i hne
      have hpk : p.1 ≠ k := by
        intro e
        obtain ⟨hjl, hje⟩ := List.getElem?_eq_some_iff.1 hj
        obtain ⟨_, hie⟩ := List.getElem?_eq_some_iff.1 hi
        have hpw := List.pairwise_iff_getElem.1 h.ne
        rcases Nat.lt_or_gt_of_ne hne with hlt | hlt
        · have := hpw i j hil hjl hlt
          rw [hie, hje] at this
          exact this e.symm
        · have := hpw j i hjl hil hlt
          rw [hie, hje] at this
          exact this e
      have hm := h.has p (List.mem_of_getElem? hj)
      exact (hg.block p.1 (blk_lt hm) (by intro e'; injection e' with e'; exact hpk e')).trans hm
  · have hkeys : (L.set i (k, o')).map Prod.fst = L.map Prod.fst := by
      rw [List.map_set]
      apply List.ext_getElem?
      intro j
      rw [List.getElem?_set]
      split
      · rename_i e
        subst e
        rw [List.length_map, if_pos hil, List.getElem?_map, hi]
        rfl
      · rfl
    have := h.ne
    rw [← List.pairwise_map (f := Prod.fst) (R := fun a b => a ≠ b)] at this ⊢
    rw [hkeys]
    exact this
theorem Fr.set_ (h : Fr w W L) (i : Nat) {k : Nat} {cs : Array Value} {t : TypeId} (hi : L[i]? = some (k, .cells cs t (0, 0))) (j : Nat) (u : Value) : Fr w (W.setCell ⟨k, j, none⟩ u) (L.set i (k, .cells (cs.setIfInBounds j u) t (0, 0))) :=
  h.turn i hi _ ⟨rfl, rfl, rfl, by simp, fun q _ hq => Below.heap_setCell _ _ _ q (fun e => hq (by rw [e]))⟩ (heap_setCell_same _ _ _ _ _ _ (h.at i hi))
theorem Fr.put (h : Fr w W L) (i : Nat) {k : Nat} {o : Obj} (hi : L[i]? = some (k, o)) (o' : Obj) : Fr w (W.putObj k o') (L.set i (k, o')) :=
  h.turn i hi _ (grownBy_putObj' W k o') (World.putObj_heap_same (h.lt i hi).2)
/-- What holds numbers stays where a block turns that holds none. -/
theorem Kp.turn {k : Nat} (hg : W.grownBy W' (some k)) (hk : ∀ cur, W.heap[k]? ≠ some (.cells cur 23 (0, 0))) : Kp W W' :=
  ⟨hg.size, fun q cur hq => (hg.block q (blk_lt hq) (by intro e; injection e with e; subst e; exact hk cur hq)).trans hq⟩
theorem Kp.set_ {k : Nat} {cs : Array Value} {t : TypeId} (hk : W.heap[k]? = some (.cells cs t (0, 0))) (ht : t ≠ 23) (j : Nat) (u : Value) : Kp W (W.setCell ⟨k, j, none⟩ u) :=
  Kp.turn ⟨rfl, rfl, rfl, by simp, fun q _ hq => Below.heap_setCell _ _ _ q (fun e => hq (by rw [e]))⟩ (fun cur e => by rw [hk] at e; injection e with e; injection e with _ e; exact ht e)
theorem Kp.put {k : Nat} {o : Obj} (hk : W.heap[k]? = some o) (ho : o.isCells = false) (o' : Obj) : Kp W (W.putObj k o') :=
  Kp.turn (grownBy_putObj' W k o') (fun cur e => by rw [hk] at e; injection e with e; subst e; cases ho)
end
/-- A row that is a call's own, out of its block. -/
theorem own_of_blk {W : World} {base g : Nat} {r : List Nat} (hg : W.heap[g]? = some (.cells (nums .u64 (nz r)).toArray 23 (0, 0))) (hb : base ≤ g) (hl : r.length ≤ 1000000) :
    W.ownsRow base 23 1 (.slice (some ⟨g, 0, none⟩) r.length r.length) r.length (nums .u64 (nz r)) := by
  refine ⟨by simp [nums], .inr ⟨g, r.length, (nums .u64 (nz r)).toArray, rfl, hb, hg, Nat.le_refl _, by unfold maxLen; omega, by simp [nums], by rw [Nat.mul_one, List.take_of_length_le (by simp [nums])]⟩⟩

/-! ### Rows of words -/
def rowO (l : List Nat) : Obj := .cells (nums .u64 (nz l)).toArray 23
theorem rowO_made (m : Nat) : Obj.cells (madeCells #[.int .u64 0] m) 23 = rowO (List.replicate m 0) := by
  unfold rowO
  congr 1
  apply Array.toList_inj.1
  rw [← nz_zeros]
  apply List.ext_getElem
  · simp [nums, madeCells]
  · intro i h1 h2
    simp [nums, madeCells, Nat.mod_one]
theorem makeR (m : Nat) (h : m ≤ 1000000) : ∀ W : World, (Instr.makeSlice 26 (.int .i64 (m : Int)) (.int .i64 (m : Int))).run Tryz.prog W = .ok (.slice (some ⟨W.heap.size, 0, none⟩) m m) (W.alloc (rowO (List.replicate m 0))) := fun W => by
  rw [make23 m (by omega) W, rowO_made]
theorem row_get (l : List Nat) (j : Nat) (h : j < l.length) : (nums .u64 (nz l)).toArray[j]? = some (.int .u64 ((l.getD j 0 : Nat) : Int)) := by
  simp [nums, nz, List.getD, h]
theorem row_set (l : List Nat) (j x : Nat) : (nums .u64 (nz l)).toArray.setIfInBounds j (.int .u64 (x : Int)) = (nums .u64 (nz (l.set j x))).toArray := by
  apply Array.toList_inj.1
  simp [nums, nz, List.map_set]
section
variable {w W W' : World} {L : List (Nat × Obj)}
theorem Fr.rowcell (h : Fr w W L) (i : Nat) {k : Nat} {l : List Nat} (hi : L[i]? = some (k, rowO l)) (j : Nat) (hj : j < l.length) : W.cell? ⟨k, j, none⟩ = some (.int .u64 ((l.getD j 0 : Nat) : Int)) :=
  (blk_cell (h.at i hi) j).trans (row_get l j hj)
theorem Fr.rowfrozen (h : Fr w W L) (i : Nat) {k : Nat} {l : List Nat} (hi : L[i]? = some (k, rowO l)) (j : Nat) : W.frozen? ⟨k, j, none⟩ = false := frozen_of_row W k j _ _ (h.at i hi)
theorem Fr.rowset (h : Fr w W L) (i : Nat) {k : Nat} {l : List Nat} (hi : L[i]? = some (k, rowO l)) (j x : Nat) : Fr w (W.setCell ⟨k, j, none⟩ (.int .u64 (x : Int))) (L.set i (k, rowO (l.set j x))) := by
  have := h.set_ (cs := (nums .u64 (nz l)).toArray) (t := 23) i hi j (.int .u64 (x : Int))
  rw [row_set] at this
  exact this
theorem num_of_blk {g c : Nat} {l : List Nat} (hg : W.heap[g]? = some (rowO l)) (hw : W64 l) (hc : l.length ≤ c) (hl : l.length ≤ 1000000) : Num W (some ⟨g, 0, none⟩) c l := by
  refine ⟨⟨by simp, by omega, fun _ => ⟨_, rfl, fun j hj => ?_⟩⟩, hc, hw, fun ad e => ?_⟩
  · have e : ((⟨g, 0, none⟩ : Addr).add j) = ⟨g, j, none⟩ := by
      unfold Addr.add
      by_cases h0 : j = 0
      · subst h0; rfl
      · rw [if_neg h0]; simp
    rw [e, (blk_cell hg j).trans (row_get l j hj)]
    simp [nz, List.getD, hj]
  · injection e with e
    subst e
    exact ⟨_, hg⟩
theorem Fr.num (h : Fr w W L) (i : Nat) {k : Nat} {l : List Nat} (hi : L[i]? = some (k, rowO l)) (hw : W64 l) (hl : l.length ≤ 1000000) : Num W (some ⟨k, 0, none⟩) l.length l := num_of_blk (h.at i hi) hw (Nat.le_refl _) hl
theorem Fr.res (h : Fr w W L) (i : Nat) {k : Nat} {l : List Nat} (hi : L[i]? = some (k, rowO l)) (hw : W64 l) (hl : l.length ≤ 1000000) : Res w W (.slice (some ⟨k, 0, none⟩) l.length l.length) l :=
  ⟨own_of_blk (h.at i hi) (h.lt i hi).1 hl, hw, h.bel⟩
/-- A number's row that lies below stays. -/
theorem Num.fr {A : Option Addr} {c : Nat} {a : List Nat} (h : Num w A c a) (hf : Fr w W L) : Num W A c a := h.below hf.bel
end
theorem val_drop_cons (a : List Nat) (i : Nat) (h : i < a.length) : val (a.drop i) = a.getD i 0 + 18446744073709551616 * val (a.drop (i + 1)) := by
  rw [List.drop_eq_getElem_cons h, val]
  simp [List.getD, h]
theorem val_drop_end (a : List Nat) : val (a.drop a.length) = 0 := by simp [val]
end Go.Proofs.YtjpibgehhgaopaaGreat.Top
/- product's long, MulWord, Small. -/
namespace Go.Proofs.YtjpibgehhgaopaaGreat.Top
open Go.RowKit Go.Proofs.YtjpibgehhgaopaaGreatW.PrintWords Go.Proofs.YtjpibgehhgaopaaGreatW.PrintLast Go.Proofs.YtjpibgehhgaopaaGreat.PTopGenerated
set_option linter.unusedVariables false
set_option linter.unusedSimpArgs false

/-- Neither of two numbers is long. -/
theorem longF (g : Nat) (A0 A1 : Option Addr) (n0 n1 c0 c1 : Nat) (w : World) (h0 : w.cell? ⟨g, 0, none⟩ = some (.slice A0 n0 c0)) (h1 : w.cell? ⟨g, 1, none⟩ = some (.slice A1 n1 c1)) (hn0 : n0 ≤ 300) (hn1 : n1 ≤ 300) :
    Calls Tryz.prog 126 #[.slice (some ⟨g, 0, none⟩) 2 2] w fun e w' => e = .returned (.bool false) ∧ w' = w := by
  have d0 : decide ((n0 : Int) > 300) = false := by rw [decide_eq_false_iff_not]; omega
  have d1 : decide ((n1 : Int) > 300) = false := by rw [decide_eq_false_iff_not]; omega
  have HC := Aside0.mk (And.intro h0 h1)
  clear h0 h1
  go_enter Tryz.func126, Tryz.ntmps126
  go_wp2_with fail
  go_loopw [7] (fun v7 wr => ∃ i : Nat, v7 = .int .i64 i ∧ Aside0 (i ≤ 2) ∧ Aside0 (wr = w)) (fun v7 _ => 2 - (intOf v7).toNat)
  case atStart => exact ⟨0, rfl, ⟨by omega⟩, ⟨rfl⟩⟩
  case round =>
    obtain ⟨i, rfl, HI, HW⟩ := hrel
    obtain rfl := HW.out
    have hi2 := HI.out
    obtain rfl | rfl | rfl : i = 0 ∨ i = 1 ∨ i = 2 := by omega
    · have c0 := HC.out.1
      go_wp2_with fail
      go_roundw
      case rel => exact ⟨1, rfl, ⟨by omega⟩, ⟨by first | rfl | trivial⟩⟩
      case measure => show 2 - 1 < 2 - 0; omega
    · have c1 := HC.out.2
      go_wp2_with fail
      go_roundw
      case rel => exact ⟨2, rfl, ⟨by omega⟩, ⟨by first | rfl | trivial⟩⟩
      case measure => show 2 - 2 < 2 - 1; omega
    · go_wp2_with fail
      go_ret
      exact ⟨rfl, rfl⟩
/-! ### MulWord -/
def mwK (a : List Nat) (x : Nat) : Nat → Nat
  | 0 => 0
  | i + 1 => (a.getD i 0 * x + mwK a x i) / 18446744073709551616
def mwZ (a : List Nat) (x i : Nat) : Nat := (a.getD i 0 * x + mwK a x i) % 18446744073709551616
theorem mw_comb {p W x u k k1 y A O : Nat} (ih : A * x = O + p * k) (hw : u * x + k = y + W * k1) : (A + p * u) * x = O + p * y + p * W * k1 := by
  have h5 : p * (u * x) + p * k = p * y + p * W * k1 := by
    rw [Nat.mul_assoc, ← Nat.mul_add, ← Nat.mul_add, hw]
  rw [Nat.add_mul, Nat.mul_assoc]
  generalize p * W * k1 = q at *
  generalize p * (u * x) = q1 at *
  generalize p * k = q3 at *
  generalize p * y = q4 at *
  omega
theorem sumB_mul (W x : Nat) (u y k : Nat → Nat) (h0 : k 0 = 0) (h : ∀ i, u i * x + k i = y i + W * k (i + 1)) :
    ∀ N, sumB W u N * x = sumB W y N + W ^ N * k N
  | 0 => by rw [h0]; simp [sumB]
  | N + 1 => by
    rw [sumB, sumB, Nat.pow_succ]
    exact mw_comb (sumB_mul W x u y k h0 h N) (h N)
theorem mw_step (a : List Nat) (x i : Nat) : a.getD i 0 * x + mwK a x i = mwZ a x i + 18446744073709551616 * mwK a x (i + 1) := by
  have e : mwK a x (i + 1) = (a.getD i 0 * x + mwK a x i) / 18446744073709551616 := rfl
  rw [e]
  exact (Nat.mod_add_div _ _).symm
theorem mwZ_lt (a : List Nat) (x i : Nat) : mwZ a x i < 18446744073709551616 := Nat.mod_lt _ (by omega)
theorem mw_lt {a : List Nat} (ha : W64 a) {x : Nat} (hx : x < 18446744073709551616) (i : Nat) {k : Nat} (hk : k < 18446744073709551616) : (a.getD i 0 * x + k) / 18446744073709551616 < 18446744073709551616 := by
  have h := getD_w ha i
  have h1 : a.getD i 0 * x ≤ 18446744073709551615 * 18446744073709551615 := Nat.mul_le_mul (by omega) (by omega)
  generalize a.getD i 0 * x = p at *
  omega
theorem mwK_lt {a : List Nat} (ha : W64 a) {x : Nat} (hx : x < 18446744073709551616) : ∀ i, mwK a x i < 18446744073709551616
  | 0 => by show 0 < _; omega
  | i + 1 => mw_lt ha hx i (mwK_lt ha hx i)
theorem mw_out {a : List Nat} (ha : W64 a) (x : Nat) : (List.range a.length).map (mwZ a x) = digs a.length (val a * x) ∧ mwK a x a.length = val a * x / 18446744073709551616 ^ a.length := by
  have h := sumB_mul 18446744073709551616 x (fun i => a.getD i 0) (mwZ a x) (mwK a x) rfl (mw_step a x) a.length
  rw [← val_sumB a a.length (Nat.le_refl _), ← val_mapB] at h
  have hw := W64_map (mwZ a x) a.length (mwZ_lt a x)
  have hv := val_lt _ hw
  rw [List.length_map, List.length_range] at hv
  refine ⟨val_inj hw (digs_w _ _) (by simp) ?_, ?_⟩
  · rw [val_digs, h, Nat.add_mul_mod_self_left, Nat.mod_eq_of_lt hv]
  · rw [h, Nat.add_mul_div_left _ _ (Nat.pow_pos (by omega)), Nat.div_eq_of_lt hv, Nat.zero_add]
set_option maxHeartbeats 1000000 in
set_option maxRecDepth 100000 in
theorem mulWordN (A : Option Addr) (c : Nat) (a : List Nat) (x : Nat) (w : World) (h : Num w A c a) (hl : a.length ≤ 300) (hx : x < 18446744073709551616) :
    Calls Tryz.prog 214 #[.pointer none, .slice A a.length c, .int .u64 (x : Int), .slice none 0 0] w fun e w' => ∃ v, e = .returned (.tuple #[v, .int .u64 ((val a * x / 18446744073709551616 ^ a.length : Nat) : Int)]) ∧ Res w w' v (digs a.length (val a * x)) := by
  obtain ⟨ho1, ho2⟩ := mw_out h.w64 x
  have HO := Aside0.mk (And.intro ho1 ho2)
  have H := Aside0.mk h
  have HX := Aside0.mk hx
  have hmx : max (a.length : Int) 0 = (a.length : Int) := by omega
  have hmk := make23 a.length (by omega)
  obtain ⟨n, hn⟩ : ∃ n, n = a.length := ⟨_, rfl⟩
  rw [← hn] at hl hmx hmk HO ⊢
  have HN := Aside0.mk hn
  obtain ⟨top, htop⟩ : ∃ t, t = val a * x / 18446744073709551616 ^ n := ⟨_, rfl⟩
  obtain ⟨r, hr⟩ : ∃ r, r = digs n (val a * x) := ⟨_, rfl⟩
  rw [← htop, ← hr] at HO ⊢
  have HR := Aside0.mk (show W64 r ∧ r.length = n by rw [hr]; exact ⟨digs_w _ _, by simp⟩)
  clear h ho1 ho2 hn htop hr hx
  go_enter Tryz.func214, Tryz.ntmps214
  go_wp2_with fail
  refine (longF _ _ _ _ _ _ _ _ (blk_cell (heap_alloc_new _ _) 0) (blk_cell (heap_alloc_new _ _) 1) hl (by omega)).mono ?_
  rintro e w' ⟨rfl, rfl⟩
  go_wp2_with fail
  refine (spanT _ none 0 (n : Int) _ (T_none _ 0) (by omega)).mono ?_
  rintro e w1 ⟨rfl, hT, hS⟩
  have HB := Aside0.mk ((below_alloc (Below.refl w.heap.size w) _).trans (hS.bel.mono (by simp)))
  clear hT hS
  have HO0 := Aside0.mk (made23 w1 w.heap.size n HB.out.size (by omega))
  have hcp : ∀ (W : World) (g : Addr), (Builtin.copy_ #[26, 26] 3 #[.slice (some g) n n, .slice none 0 0]).run Tryz.prog W = .ok (.int .i64 0) W := fun W g => run_copy_none W 26 26 3 23 (some g) none n n 0 0 Tryz.underlying26 size23' (Nat.zero_min _)
  have HB2 := Aside0.mk (HB.out.alloc HB.out.size (.cells (madeCells #[.int .u64 0] n) 23))
  obtain ⟨g, hg⟩ : ∃ g, g = w1.heap.size := ⟨_, rfl⟩
  have HG := Aside0.mk (show w.heap.size ≤ g by rw [hg]; exact HB.out.size)
  rw [← hg] at HO0
  go_wp2_with fail
  rw [← hg]
  clear hg hmk hcp
  go_loopw [12, 33] (fun v12 v33 wr => ∃ i : Nat, v33 = .int .i64 (i : Int) ∧ v12 = .int .u64 ((mwK a x i : Nat) : Int) ∧ Aside0 (i ≤ n) ∧ Aside0 (wr.ownsRow w.heap.size 23 1 (.slice (some ⟨g, 0, none⟩) n n) n (nums .u64 (nz (outL (mwZ a x) n i)))) ∧ Aside0 (Below w.heap.size w wr)) (fun _ v33 _ => n - (intOf v33).toNat)
  case atStart => exact ⟨0, rfl, rfl, ⟨Nat.zero_le _⟩, ⟨by rw [outL_zero]; exact HO0.out⟩, HB2⟩
  case round =>
    obtain ⟨i, rfl, rfl, HI, HOW, HBW⟩ := hrel
    by_cases hi : i < n
    · have t2 : decide ((i : Int) < (n : Int)) = true := by rw [decide_eq_true_eq]; omega
      have t3 : decide (i < n) = true := by rw [decide_eq_true_eq]; exact hi
      have w3 : wrap64 ((i : Int) + 1) = ((i + 1 : Nat) : Int) := wrap64_id (by omega) (by omega)
      have hb1 : (i : Int) < (n : Int) := by omega
      have HLT := Aside0.mk hi
      obtain ⟨ad, rfl, hc⟩ := (H.out.below HBW.out).at_ i (by have := HN.out; omega)
      obtain ⟨q1, q2⟩ := own_at HOW.out (i : Int) (by omega) hb1
      have e0 : rd (nz (outL (mwZ a x) n i)) (i : Int) = 0 := by
        rw [rd_nz]
        unfold outL
        obtain ⟨m, hm⟩ : ∃ m, n - i = m + 1 := ⟨n - i - 1, by omega⟩
        simp [List.getD, List.getElem?_append_right, hi, hm, List.replicate_succ]
      rw [e0, Int.toNat_natCast] at q1
      rw [Int.toNat_natCast] at q2
      have HM := Aside0.mk (mulWN (a.getD i 0) x 0 (mwK a x i) (getD_w H.out.w64 i) HX.out (by omega) (mwK_lt H.out.w64 HX.out i))
      rw [Nat.add_zero] at HM
      have HZ := Aside0.mk (show mwZ a x i = (a.getD i 0 * x + mwK a x i) % 18446744073709551616 ∧ mwK a x (i + 1) = (a.getD i 0 * x + mwK a x i) / 18446744073709551616 from ⟨rfl, rfl⟩)
      generalize (a.getD i 0 * x + mwK a x i) % 18446744073709551616 = z at *
      generalize (a.getD i 0 * x + mwK a x i) / 18446744073709551616 = k1 at *
      generalize mwK a x i = k at *
      generalize a.getD i 0 = u at *
      clear e0
      go_wp2_with fail
      refine (HM.out _).mono ?_
      rintro e w' ⟨rfl, rfl⟩
      go_wp2_with fail
      go_roundw
      case rel =>
        refine ⟨i + 1, by first | rfl | exact congrArg (Value.int .i64) w3, by rw [HZ.out.2], ⟨HLT.out⟩, ⟨?_⟩, ⟨HBW.out.setCell HG.out _⟩⟩
        have h := (own_store HOW.out (i : Int) (z : Int)).1
        rw [Int.toNat_natCast, nz_set, ← HZ.out.1, outL_set (mwZ a x) n i HLT.out, HZ.out.1] at h
        exact h
      case measure => first | exact msr1' i n HLT.out | (rw [w3]; exact msr1' i n HLT.out)
    · obtain rfl : i = n := by have := HI.out; omega
      have t2 : decide ((i : Int) < (i : Int)) = false := by simp
      have t3 : decide (i < i) = false := by simp
      have HF := Aside0.mk HOW.out
      rw [outL_all, HO.out.1] at HF
      have HK := Aside0.mk HO.out.2
      generalize mwK a x i = k at *
      go_wp2_with fail
      go_ret2
      rw [HK.out]
      exact ⟨_, rfl, by rw [HR.out.2]; exact HF.out, HR.out.1, HBW.out⟩
/-! ### Small -/
set_option maxRecDepth 100000 in
theorem smallN (A : Option Addr) (c x d : Nat) (w : World) (h : Num w A c [x]) (hd : 0 < d) (hd2 : d < 18446744073709551616) :
    Calls Tryz.prog 249 #[.slice A 1 c, .int .u64 (d : Int)] w fun e w' => e = .returned (.tuple #[.int .u64 ((x % d : Nat) : Int), .int .i64 0]) ∧ ∃ k, w' = w.drewN k := by
  obtain ⟨ad, rfl, hc⟩ := h.one
  have hx : x < 18446744073709551616 := h.w64 x (by simp)
  have hc0 := hc w (Below.refl _ _)
  have HD := Aside0.mk (div64N 0 x d (by omega) hx hd2)
  simp only [Nat.zero_mul, Nat.zero_add] at HD
  have t0 : ((d : Int) == 0) = false := by simp; omega
  clear h hx hd hd2 hc
  go_enter Tryz.func249, Tryz.ntmps249
  go_wp2_with fail
  go_loopw [6, 7] (fun v6 v7 wr => ∃ i : Int, v7 = .int .i64 i ∧ Aside0 ((i = 0 ∧ v6 = .int .u64 0 ∧ wr = w) ∨ (i = -1 ∧ v6 = .int .u64 ((x % d : Nat) : Int) ∧ ∃ k, wr = w.drewN k))) (fun _ v7 _ => (intOf v7 + 1).toNat)
  case atStart => exact ⟨0, rfl, ⟨.inl ⟨rfl, rfl, rfl⟩⟩⟩
  case round =>
    obtain ⟨i, rfl, HI⟩ := hrel
    rcases HI.out with ⟨rfl, rfl, rfl⟩ | ⟨rfl, rfl, k, rfl⟩
    · go_wp2_with fail
      refine (HD.out _).mono ?_
      rintro e w' ⟨rfl, k, rfl⟩
      go_wp2_with fail
      go_roundw
      case rel => exact ⟨-1, rfl, ⟨.inr ⟨rfl, rfl, k, rfl⟩⟩⟩
      case measure => decide
    · go_wp2_with fail
      go_ret2
      exact ⟨rfl, k, rfl⟩
end Go.Proofs.YtjpibgehhgaopaaGreat.Top
