/- product's long2: the plain law. -/
import Derived.Test.YtjpibgehhgaopaaGreatZ15
namespace Go.Proofs.YtjpibgehhgaopaaGreat.Top
open Go.RowKit Go.Proofs.YtjpibgehhgaopaaGreatW.PrintWords Go.Proofs.YtjpibgehhgaopaaGreatW.PrintLast Go.Proofs.YtjpibgehhgaopaaGreat.PTopGenerated
set_option linter.unusedVariables false
set_option linter.unusedSimpArgs false

/-- The guess out of the top words is never below the digit. -/
theorem guess_le {W x0 x1 x2 v0 v1 V X g : Nat} (hX : X = x0 + W * (x1 + W * x2)) (hV : V = v0 + W * v1) (hx0 : x0 < W) (hv : 0 < v1) (hlt : X < V * W) (hg : g = if x2 < v1 then (x2 * W + x1) / v1 else W - 1) (hW : 0 < W) : X / V ≤ g := by
  have hVp : 0 < V := by rw [hV]; exact Nat.lt_of_lt_of_le (Nat.mul_pos hW hv) (Nat.le_add_left _ _)
  rw [hg]
  split
  · rw [Nat.le_div_iff_mul_le hv]
    have h1 : X / V * V ≤ X := Nat.div_mul_le_self _ _
    have h2 : X / V * (W * v1) ≤ X / V * V := Nat.mul_le_mul_left _ (by rw [hV]; omega)
    have h3 : X < W * (x2 * W + x1 + 1) := by
      rw [hX, Nat.mul_add, Nat.mul_add, Nat.mul_add, Nat.mul_one]
      have : W * (W * x2) = W * (x2 * W) := by rw [Nat.mul_comm W x2]
      rw [this]
      generalize W * (x2 * W) = z
      generalize W * x1 = y
      omega
    have h4 : W * (X / V * v1) < W * (x2 * W + x1 + 1) := by
      rw [show W * (X / V * v1) = X / V * (W * v1) by rw [← Nat.mul_assoc, Nat.mul_comm W, Nat.mul_assoc]]
      omega
    have := Nat.lt_of_mul_lt_mul_left h4
    omega
  · have : X / V < W := by rw [Nat.div_lt_iff_lt_mul hVp, Nat.mul_comm]; exact hlt
    omega
/-- long2's state ahead of index j - 1. -/
structure L2 (A V la j : Nat) (ul ql : List Nat) : Prop where
  uw : W64 ul
  ulen : ul.length = la + 2
  qw : W64 ql
  qlen : ql.length = la
  le : j ≤ la
  sum : A = V * (18446744073709551616 ^ j * val (ql.drop j)) + val ul
  low : val (ul.drop j) < V
theorem val_small {n : Nat} {l : List Nat} (h : val l < 18446744073709551616 ^ n) (hn : n ≤ l.length) (hw : W64 l) : val (l.drop n) = 0 ∧ val (l.take n) = val l := by
  have h1 := val_take_drop l n hn
  rcases Nat.eq_zero_or_pos (val (l.drop n)) with h0 | h0
  · rw [h0, Nat.mul_zero, Nat.add_zero] at h1
    exact ⟨h0, h1.symm⟩
  · exfalso
    have := Nat.le_mul_of_pos_right (18446744073709551616 ^ n) h0
    generalize 18446744073709551616 ^ n * val (l.drop n) = y at *
    generalize 18446744073709551616 ^ n = z at *
    omega
/-- The three words at j: what is left, and a word more. -/
theorem L2.three {A V la j : Nat} {ul ql : List Nat} (h : L2 A V la (j + 1) ul ql) (hV : V < 18446744073709551616 ^ 2) :
    val ((ul.drop j).take 3) = ul.getD j 0 + 18446744073709551616 * val (ul.drop (j + 1)) ∧ val (ul.drop (j + 3)) = 0 ∧ val ((ul.drop j).take 3) = val (ul.drop j) := by
  have hlen := h.ulen
  have hle := h.le
  have e := val_drop_cons ul j (by omega)
  have hs := val_small (n := 2) (l := ul.drop (j + 1)) (Nat.lt_trans h.low hV) (by simp; omega) (W64_drop h.uw _)
  rw [List.drop_drop, show j + 1 + 2 = j + 3 by omega] at hs
  have h3 := val_take_drop (ul.drop j) 3 (by simp; omega)
  rw [List.drop_drop, hs.1, Nat.mul_zero, Nat.add_zero] at h3
  exact ⟨by rw [← h3, e], hs.1, h3.symm⟩
theorem l2_comb {A V p W Q T X d U : Nat} (hU : U = T + p * X) (hs : A = V * (p * W * Q) + U) (hd : V * d ≤ X) : A = V * (p * (d + W * Q)) + (T + p * (X - V * d)) := by
  obtain ⟨y, rfl⟩ : ∃ y, X = V * d + y := ⟨X - V * d, by omega⟩
  rw [Nat.add_sub_cancel_left, hs, hU, Nat.mul_add p d, Nat.mul_add V, Nat.mul_add p, ← Nat.mul_assoc p W]
  have : V * (p * d) = p * (V * d) := by rw [← Nat.mul_assoc, Nat.mul_comm V, Nat.mul_assoc]
  rw [this]
  omega
theorem three_lt {W V : Nat} (h : V < W ^ 2) : V < W ^ 3 := by
  rcases Nat.eq_zero_or_pos W with h0 | h0
  · subst h0; simp at h
  · exact Nat.lt_of_lt_of_le h (Nat.pow_le_pow_right h0 (by omega))
theorem L2.step {A V la j : Nat} {ul ql : List Nat} (h : L2 A V la (j + 1) ul ql) (hV : V < 18446744073709551616 ^ 2) (hV0 : 0 < V) :
    val ((ul.drop j).take 3) < V * 18446744073709551616 ∧
    L2 A V la j (ul.take j ++ digs 3 (val ((ul.drop j).take 3) - V * (val ((ul.drop j).take 3) / V)) ++ ul.drop (j + 3)) (ql.set j (val ((ul.drop j).take 3) / V)) := by
  obtain ⟨t1, t2, t3⟩ := h.three hV
  have hlen := h.ulen
  have hle := h.le
  have hql := h.qlen
  have hlt : val ((ul.drop j).take 3) < V * 18446744073709551616 := by
    rw [t1]
    have h1 := h.low
    have h2 := getD_w h.uw j
    have h3 := Nat.mul_le_mul_left 18446744073709551616 h1
    rw [Nat.mul_comm V]
    rw [Nat.mul_succ] at h3
    omega
  obtain ⟨X, hX⟩ : ∃ X, X = val ((ul.drop j).take 3) := ⟨_, rfl⟩
  rw [← hX] at hlt t3 ⊢
  have hd1 : V * (X / V) ≤ X := Nat.mul_div_le _ _
  have hd2 : X - V * (X / V) = X % V := by have := Nat.div_add_mod X V; omega
  have hdW : X / V < 18446744073709551616 := by rw [Nat.div_lt_iff_lt_mul hV0, Nat.mul_comm]; exact hlt
  have hr : X % V < V := Nat.mod_lt _ hV0
  have hd3 : val (digs 3 (X - V * (X / V))) = X - V * (X / V) := by
    rw [val_digs, Nat.mod_eq_of_lt]
    rw [hd2]
    exact Nat.lt_trans hr (three_lt hV)
  have hdrop : (ul.take j ++ digs 3 (X - V * (X / V)) ++ ul.drop (j + 3)).drop j = digs 3 (X - V * (X / V)) ++ ul.drop (j + 3) := by
    rw [List.append_assoc, List.drop_append_of_le_length (by simp; omega), List.drop_of_length_le (by simp; omega), List.nil_append]
  have hvd : val (digs 3 (X - V * (X / V)) ++ ul.drop (j + 3)) = X - V * (X / V) := by
    rw [val_append, hd3, t2, Nat.mul_zero, Nat.add_zero]
  refine ⟨hlt, W64_append (W64_append (W64_take h.uw j) (digs_w _ _)) (W64_drop h.uw _), by simp; omega, W64_set h.qw j hdW, by rw [List.length_set, hql], by omega, ?_, ?_⟩
  · rw [List.append_assoc, val_append, hvd, drop_set_ (by omega), val, List.length_take, Nat.min_eq_left (by omega)]
    have hU := val_take_drop ul j (by omega)
    rw [← t3] at hU
    have hs := h.sum
    rw [Nat.pow_succ] at hs
    exact l2_comb hU hs hd1
  · rw [hdrop, hvd, hd2]
    exact hr
end Go.Proofs.YtjpibgehhgaopaaGreat.Top
/- product's Mul. -/
namespace Go.Proofs.YtjpibgehhgaopaaGreat.Top
open Go.RowKit Go.Proofs.YtjpibgehhgaopaaGreatW.PrintWords Go.Proofs.YtjpibgehhgaopaaGreatW.PrintLast Go.Proofs.YtjpibgehhgaopaaGreat.PTopGenerated
set_option linter.unusedVariables false
set_option linter.unusedSimpArgs false

/-- Mul's state: i words of a are done, and j of b for the next one. -/
structure MI (a b : List Nat) (i j : Nat) (l : List Nat) (k : Nat) : Prop where
  len : l.length = a.length + b.length
  w64 : W64 l
  kw : k < 18446744073709551616
  zero : ∀ p, i + b.length ≤ p → l.getD p 0 = 0
  eq : val l + 18446744073709551616 ^ (i + j) * k = val (a.take i) * val b + 18446744073709551616 ^ i * (a.getD i 0 * val (b.take j))
theorem mi_comb {L L' p W y u k k1 x z A pi pj B : Nat} (hs : L' + p * u = L + p * y) (he : L + p * k = A + pi * (x * B)) (hw : x * z + u + k = y + W * k1) (hp : p = pi * pj) :
    L' + p * W * k1 = A + pi * (x * (B + pj * z)) := by
  have h1 : p * (x * z) + p * u + p * k = p * y + p * W * k1 := by
    rw [Nat.mul_assoc p W k1, ← Nat.mul_add, ← Nat.mul_add, ← Nat.mul_add, hw]
  have h2 : pi * (x * (B + pj * z)) = pi * (x * B) + p * (x * z) := by
    rw [hp, Nat.mul_add, Nat.mul_add, Nat.mul_assoc pi pj, Nat.mul_left_comm x pj z]
  rw [h2]
  generalize p * W * k1 = q1 at *
  generalize p * (x * z) = q2 at *
  generalize p * u = q3 at *
  generalize p * k = q4 at *
  generalize p * y = q5 at *
  generalize pi * (x * B) = q6 at *
  omega
theorem MI.step {a b l : List Nat} {i j k : Nat} (h : MI a b i j l k) (ha : W64 a) (hb : W64 b) (hi : i < a.length) (hj : j < b.length) :
    MI a b i (j + 1) (l.set (i + j) ((a.getD i 0 * b.getD j 0 + l.getD (i + j) 0 + k) % 18446744073709551616)) ((a.getD i 0 * b.getD j 0 + l.getD (i + j) 0 + k) / 18446744073709551616) := by
  have hlt := (mulW_plain (a.getD i 0) (b.getD j 0) (l.getD (i + j) 0) k (getD_w ha i) (getD_w hb j) (getD_w h.w64 _) h.kw).2.2
  have hs := val_set l (i + j) ((a.getD i 0 * b.getD j 0 + l.getD (i + j) 0 + k) % 18446744073709551616) (by have := h.len; omega)
  refine ⟨by rw [List.length_set]; exact h.len, W64_set h.w64 _ (Nat.mod_lt _ (by omega)), hlt, fun p hp => ?_, ?_⟩
  · rw [getD_set_ne (by omega)]
    exact h.zero p hp
  · rw [show i + (j + 1) = i + j + 1 by omega, Nat.pow_succ, val_take_succ b j hj]
    exact mi_comb hs h.eq (Nat.mod_add_div _ _).symm (Nat.pow_add _ _ _)
theorem MI.done {a b l : List Nat} {i k : Nat} (h : MI a b i b.length l k) (hi : i < a.length) : MI a b (i + 1) 0 (l.set (i + b.length) k) 0 := by
  have hs := val_set l (i + b.length) k (by have := h.len; omega)
  rw [h.zero _ (Nat.le_refl _), Nat.mul_zero, Nat.add_zero] at hs
  refine ⟨by rw [List.length_set]; exact h.len, W64_set h.w64 _ h.kw, by omega, fun p hp => ?_, ?_⟩
  · rw [getD_set_ne (by omega)]
    exact h.zero p (by omega)
  · rw [hs, h.eq, List.take_length, val_take_succ a i hi, Nat.add_mul, List.take_zero, val, Nat.mul_zero, Nat.mul_zero, Nat.mul_zero, Nat.mul_assoc]
theorem MI.start (a b : List Nat) : MI a b 0 0 (List.replicate (a.length + b.length) 0) 0 := by
  refine ⟨by simp, W64_rep _, by omega, fun p _ => ?_, ?_⟩
  · rw [List.getD_eq_getElem?_getD, List.getElem?_replicate]
    split <;> rfl
  · rw [val_replicate]; simp [val]
theorem MI.all {a b l : List Nat} (h : MI a b a.length 0 l 0) : l = digs (a.length + b.length) (val a * val b) := by
  have e := h.eq
  rw [Nat.mul_zero, Nat.add_zero, List.take_length, List.take_zero, val, Nat.mul_zero, Nat.mul_zero, Nat.add_zero] at e
  rw [← e, ← h.len, digs_val l h.w64]
theorem cell_far_drew {W : World} {a : Addr} {g k : Nat} {v u : Value} (hne : a.block ≠ g) (h : W.cell? a = some u) : (W.setCell ⟨g, k, none⟩ v).drew.cell? a = some u :=
  (World.cell?_setCell_far W ⟨g, k, none⟩ a v (fun e => hne e.symm)).trans h
set_option maxHeartbeats 4000000 in
set_option maxRecDepth 100000 in
theorem mulN (A A2 : Option Addr) (c c2 : Nat) (a b : List Nat) (w : World) (ha : Num w A c a) (hb : Num w A2 c2 b) (hla : a.length ≤ 300) (hlb : b.length ≤ 300) :
    Calls Tryz.prog 77 #[.pointer none, .slice A a.length c, .slice A2 b.length c2] w fun e w' => ∃ v, e = .returned v ∧ Res w w' v (digs (a.length + b.length) (val a * val b)) := by
  have HN := Aside0.mk (And.intro ha hb)
  have wl : wrap64 ((a.length : Int) + (b.length : Int)) = ((a.length + b.length : Nat) : Int) := wrap64_id (by omega) (by omega)
  have hmk : ∀ W : World, (Instr.makeSlice 26 (.int .i64 ((a.length : Int) + (b.length : Int))) (.int .i64 ((a.length : Int) + (b.length : Int)))).run Tryz.prog W = .ok (.slice (some ⟨W.heap.size, 0, none⟩) (a.length + b.length) (a.length + b.length)) (W.alloc (rowO (List.replicate (a.length + b.length) 0))) := makeR (a.length + b.length) (by omega)
  obtain ⟨res, hres⟩ : ∃ res, res = digs (a.length + b.length) (val a * val b) := ⟨_, rfl⟩
  rw [← hres]
  have HR := Aside0.mk hres
  clear ha hb hres
  obtain ⟨la, hla'⟩ : ∃ la, la = a.length := ⟨_, rfl⟩
  obtain ⟨lb, hlb'⟩ : ∃ lb, lb = b.length := ⟨_, rfl⟩
  have HL := Aside0.mk (And.intro hla' hlb')
  rw [← hla'] at hla wl hmk ⊢
  rw [← hlb'] at hlb wl hmk ⊢
  clear hla' hlb'
  go_enter Tryz.func77, Tryz.ntmps77
  go_wp2_with fail
  refine (longF _ _ _ _ _ _ _ _ (blk_cell (heap_alloc_new _ _) 0) (blk_cell (heap_alloc_new _ _) 1) hla hlb).mono ?_
  rintro e w' ⟨rfl, rfl⟩
  have HF0 := Aside0.mk ((Fr.nil w).mv (below_alloc (Below.refl _ w) (.cells #[.slice A la c, .slice A2 lb c2] 26)))
  have HF1 := Aside0.mk (HF0.out.alloc (rowO (List.replicate (la + lb) 0)))
  simp only [List.nil_append, World.size_alloc] at HF1
  obtain ⟨g, hg⟩ : ∃ g, g = w.heap.size + 1 := ⟨_, rfl⟩
  rw [← hg] at HF1
  go_wp2_with fail
  rw [← hg]
  have HG := Aside0.mk hg
  have HM0 := Aside0.mk (MI.start a b)
  rw [← HL.out.1, ← HL.out.2] at HM0
  clear hg hmk wl HF0
  go_loopw [23] (fun v23 wr => ∃ (i : Nat) (l : List Nat), v23 = .int .i64 (i : Int) ∧ Aside0 (i ≤ la ∧ MI a b i 0 l 0) ∧ Aside0 (Fr w wr [(g, rowO l)])) (fun v23 _ => la - (intOf v23).toNat)
  case atStart => exact ⟨0, _, rfl, ⟨Nat.zero_le _, HM0.out⟩, HF1⟩
  case round =>
    obtain ⟨i, l, rfl, HI, HF⟩ := hrel
    by_cases hi : i < la
    · have t1 : decide ((i : Int) < (la : Int)) = true := by rw [decide_eq_true_eq]; omega
      have t2 : decide (i < la) = true := by rw [decide_eq_true_eq]; exact hi
      have w3 : wrap64 ((i : Int) + 1) = ((i + 1 : Nat) : Int) := wrap64_id (by omega) (by omega)
      have HLT := Aside0.mk hi
      go_wp2_with fail
      refine (spanT _ none 0 (lb : Int) _ (T_none _ 0) (by omega)).mono ?_
      rintro e w1 ⟨rfl, hT, hS⟩
      have HF2 := Aside0.mk (HF.out.mv hS.bel)
      clear hT hS HF
      go_wp2_with fail
      go_loopw [9, 32] (fun v9 v32 wr => ∃ (j k : Nat) (l : List Nat), v32 = .int .i64 (j : Int) ∧ v9 = .int .u64 (k : Int) ∧ Aside0 (j ≤ lb ∧ MI a b i j l k) ∧ Aside0 (Fr w wr [(g, rowO l)])) (fun _ v32 _ => lb - (intOf v32).toNat)
      case atStart => exact ⟨0, 0, l, rfl, rfl, ⟨Nat.zero_le _, HI.out.2⟩, HF2⟩
      case round =>
        clear HI HF2 l
        obtain ⟨j, k, l, rfl, rfl, HI, HF⟩ := hrel
        by_cases hj : j < lb
        · have t3 : decide ((j : Int) < (lb : Int)) = true := by rw [decide_eq_true_eq]; omega
          have t4 : decide (j < lb) = true := by rw [decide_eq_true_eq]; exact hj
          have w4 : wrap64 ((j : Int) + 1) = ((j + 1 : Nat) : Int) := wrap64_id (by omega) (by omega)
          have w5 : wrap64 ((i : Int) + (j : Int)) = (i : Int) + (j : Int) := wrap64_id (by omega) (by omega)
          have w6 : IntKind.i64.wrap ((i : Int) + (j : Int)) = (i : Int) + (j : Int) := (i64_w _).trans w5
          have w7 : ((i : Int) + (j : Int)).toNat = i + j := by omega
          have HLJ := Aside0.mk hj
          have b1 : (i : Int) < (la : Int) := by omega
          have b2 : (j : Int) < (lb : Int) := by omega
          have b3 : (i : Int) + (j : Int) < (la : Int) + (lb : Int) := by omega
          have b4 : (0 : Int) ≤ (i : Int) + (j : Int) := by omega
          obtain ⟨aa, rfl, hca⟩ := (HN.out.1.fr HF.out).at_ i (by rw [← HL.out.1]; exact HLT.out)
          obtain ⟨ab, rfl, hcb⟩ := (HN.out.2.fr HF.out).at_ j (by rw [← HL.out.2]; exact HLJ.out)
          have hcl := HF.out.rowcell 0 rfl (i + j) (by have := HI.out.2.len; have := HL.out; omega)
          have hfl := HF.out.rowfrozen 0 rfl (i + j)
          have HM := Aside0.mk (mulWN (a.getD i 0) (b.getD j 0) (l.getD (i + j) 0) k (getD_w HN.out.1.w64 i) (getD_w HN.out.2.w64 j) (getD_w HI.out.2.w64 _) HI.out.2.kw)
          have HS := Aside0.mk (HI.out.2.step HN.out.1.w64 HN.out.2.w64 (by rw [← HL.out.1]; exact HLT.out) (by rw [← HL.out.2]; exact HLJ.out))
          have e3 : (aa.add i).block ≠ g := fun e => by
            obtain ⟨cur, hcur⟩ := HN.out.1.ty aa rfl
            have h2 := blk_lt hcur
            rw [addr_block] at e
            have := HG.out
            omega
          have e4 : (ab.add j).block ≠ g := fun e => by
            obtain ⟨cur, hcur⟩ := HN.out.2.ty ab rfl
            have h2 := blk_lt hcur
            rw [addr_block] at e
            have := HG.out
            omega
          generalize (a.getD i 0 * b.getD j 0 + l.getD (i + j) 0 + k) % 18446744073709551616 = z at *
          generalize (a.getD i 0 * b.getD j 0 + l.getD (i + j) 0 + k) / 18446744073709551616 = k1 at *
          generalize a.getD i 0 = x at *
          generalize b.getD j 0 = y at *
          generalize l.getD (i + j) 0 = u at *
          have far1 : ∀ v, (wr.setCell ⟨g, i + j, none⟩ v).drew.cell? (aa.add i) = some (.int .u64 (x : Int)) := fun v => cell_far_drew e3 hca
          have far2 : ∀ v, (wr.setCell ⟨g, i + j, none⟩ v).drew.cell? (ab.add j) = some (.int .u64 (y : Int)) := fun v => cell_far_drew e4 hcb
          go_wp2_with fail
          go_region_with (first | (go_at_call 127; refine (HM.out _).mono ?_; rintro e w3 ⟨rfl, rfl⟩))
          all_goals go_wp2_with fail
          all_goals go_roundw
          all_goals first
            | exact ⟨j + 1, k1, _, by first | rfl | exact congrArg (Value.int .i64) w4, rfl, ⟨HLJ.out, HS.out⟩, ⟨(HF.out.rowset 0 rfl (i + j) z).drewN 1⟩⟩
            | exact msr1' j lb HLJ.out
            | (rw [w4]; exact msr1' j lb HLJ.out)
            | exact msr1 j lb HLJ.out
        · obtain rfl : j = lb := by have := HI.out.1; omega
          have t3 : decide ((j : Int) < (j : Int)) = false := by simp
          have w5 : wrap64 ((i : Int) + (j : Int)) = (i : Int) + (j : Int) := wrap64_id (by omega) (by omega)
          have w7 : ((i : Int) + (j : Int)).toNat = i + j := by omega
          have b3 : (i : Int) + (j : Int) < (la : Int) + (j : Int) := by omega
          have b4 : (0 : Int) ≤ (i : Int) + (j : Int) := by omega
          have hcl := HF.out.rowcell 0 rfl (i + j) (by have := HI.out.2.len; have := HL.out; omega)
          have hfl := HF.out.rowfrozen 0 rfl (i + j)
          have hd := HI.out.2
          rw [HL.out.2] at hd
          have HD := Aside0.mk (hd.done (by rw [← HL.out.1]; exact HLT.out))
          rw [← HL.out.2] at HD
          generalize l.getD (i + j) 0 = u at *
          clear hd
          go_wp2_with fail
          go_roundw
          case rel => exact ⟨i + 1, _, by first | rfl | exact congrArg (Value.int .i64) w3, ⟨HLT.out, HD.out⟩, ⟨HF.out.rowset 0 rfl (i + j) k⟩⟩
          case measure => first | exact msr1' i la HLT.out | (rw [w3]; exact msr1' i la HLT.out) | exact msr1 i la HLT.out
    · obtain rfl : i = la := by have := HI.out.1; omega
      have t1 : decide ((i : Int) < (i : Int)) = false := by simp
      have hall := HI.out.2
      rw [HL.out.1] at hall
      have HE := Aside0.mk hall.all
      have HLen := Aside0.mk hall.len
      have HW := Aside0.mk hall.w64
      clear hall
      go_wp2_with fail
      go_ret
      have hr := HF.out.res 0 rfl HW.out (by have := HLen.out; have := HL.out; omega)
      rw [HLen.out] at hr
      rw [HR.out, ← HE.out, HL.out.1, HL.out.2]
      exact ⟨_, rfl, hr⟩
end Go.Proofs.YtjpibgehhgaopaaGreat.Top
