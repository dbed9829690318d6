/- limbs without a trace; copies of rows; nat's Word, Bit, Resize; slices' Clone, Equal. -/
import Derived.Test.YtjpibgehhgaopaaGreatTgK
namespace Go.Proofs.YtjpibgehhgaopaaGreat.Top
open Go.RowKit Go.Proofs.YtjpibgehhgaopaaGreatW.PrintWords Go.Proofs.YtjpibgehhgaopaaGreatW.PrintLast Go.Proofs.YtjpibgehhgaopaaGreat.PTopGenerated
set_option linter.unusedVariables false
set_option linter.unusedSimpArgs false

theorem res_of {w w' : World} {v : Value} {n N : Nat} (h : w'.ownsRow w.heap.size 23 1 v n (nums .u64 (nz (digs n N)))) (hs : St w.heap.size none w w') : Res w w' v (digs n N) :=
  ⟨by rw [digs_length]; exact h, digs_w _ _, hs.bel⟩
section
variable (A A2 : Option Addr) (c c2 : Nat) (a b : List Nat) (N : Nat) (w : World) (ha : Num w A c a) (hb : Num w A2 c2 b) (hN : N = max a.length b.length) (hNl : N ≤ 100000)
include ha hb hN hNl
theorem sub0 : Calls Tryz.prog 130 #[.pointer none, .slice A a.length c, .slice A2 b.length c2] w fun e w' => ∃ v, e = .returned (.tuple #[v, .int .u64 ((if val a < val b then 1 else 0 : Nat) : Int)]) ∧
    Res w w' v (digs N (val a + 18446744073709551616 ^ N - val b)) :=
  (subT w.heap.size none 0 A A2 c c2 a b N w (T_none w 0) (by omega) ha hb hN hNl).mono fun e w' ⟨v, h1, h2, h3, _⟩ => ⟨v, h1, res_of h2 h3⟩
theorem add0 : Calls Tryz.prog 129 #[.pointer none, .slice A a.length c, .slice A2 b.length c2] w fun e w' => ∃ v, e = .returned (.tuple #[v, .int .u64 (((val a + val b) / 18446744073709551616 ^ N : Nat) : Int)]) ∧
    Res w w' v (digs N (val a + val b)) :=
  (addT w.heap.size none 0 A A2 c c2 a b N w (T_none w 0) (by omega) ha hb hN hNl).mono fun e w' ⟨v, h1, h2, h3, _⟩ => ⟨v, h1, res_of h2 h3⟩
end
/-- copy onto a row of words or bytes of one's own. -/
theorem copy_row_ {P : Program} {ops : Array Oper} {rest : List Oper} {o : Oper} {a : Act} {Q : Exit → Act → World → Prop} {w0 W : World} (base : Nat) (hgd : o.guard = none) (s x : Operand) (t t' e : TypeId) (k : IntKind)
    (ho : o.op = .call { callee := .builtin .copy, args := #[s, x], argTypes := #[t, t'] }) (ht : P.underlying t = some (.slice e)) (hinfo : (P.info? e).map (·.size) = some 1)
    (v : Value) (xs ys : List Int) (A : Option Addr) (m c : Nat) (hs : a.eval s = v) (hx : a.eval x = .slice A m c)
    (HO : W.ownsRow base e 1 v xs.length (nums k xs)) (HR : ReadsInt W k A m ys) (HB : Below base w0 W) (hbase : base ≤ W.heap.size)
    (h : ∀ w1, w1.ownsRow base e 1 v xs.length (nums k (ys.take (min m xs.length) ++ xs.drop (min m xs.length))) → Below base w0 w1 → W.grownBy w1 v.ownBlock → wpList P ops Q rest (a.put o.dst (.int .i64 ((min m xs.length : Nat) : Int))) w1) :
    wpList P ops Q (o :: rest) a W := by
  have h1 : ∀ i : Int, (Value.int k i).oneCell' = true := fun _ => rfl
  have hm : ys.length = m := HR.1
  refine Kd.R_copy (enc := fun i : Int => .int k i) (h1 := h1) (0 : Int) (w0 := w0) base hgd s x t t' e ho ht hinfo v xs ys A m c (fun _ => True) hs hx (Kd.R_of_own HO (fun _ _ => trivial)) (Kd.C_of_reads (d := (0 : Int)) HR) HB hbase ?_
  intro w1 hr hB hg
  refine h w1 ?_ hB hg
  have := Kd.own_of_R hr
  rw [show (ys.take (min m xs.length) ++ xs.drop (min m xs.length)).length = xs.length by simp; omega] at this
  exact this
theorem size23' : (Tryz.prog.info? 23).map (·.size) = some 1 := by kernel_rfl
theorem nz_take (a : List Nat) (n : Nat) : (nz a).take n = nz (a.take n) := by simp [nz]
theorem nz_drop (a : List Nat) (n : Nat) : (nz a).drop n = nz (a.drop n) := by simp [nz]
theorem nz_append (a b : List Nat) : nz (a ++ b) = nz a ++ nz b := by simp [nz]

/-- A literal's row. -/
theorem lit_res (w : World) (r : List Nat) (hw : W64 r) (hl : r.length ≤ 1000000) : Res w (w.alloc (.cells (nums .u64 (nz r)).toArray 23)) (.slice (some ⟨w.heap.size, 0, none⟩) r.length r.length) r := by
  have h := own_lit w w.heap.size 23 .u64 (nz r) (Nat.le_refl _) (by simp; omega)
  rw [nz_length] at h
  exact ⟨h, hw, below_alloc (Below.refl _ _) _⟩
theorem W64_one {x : Nat} (h : x < 18446744073709551616) : W64 [x] := fun y hy => by
  rw [List.mem_singleton] at hy
  rw [hy]
  exact h
/-! ### Word, Bit -/
theorem make23_1 : ∀ W : World, (Instr.makeSlice 26 (.int .i64 1) (.int .i64 1)).run Tryz.prog W = .ok (.slice (some ⟨W.heap.size, 0, none⟩) 1 1) (W.alloc (.cells #[.int .u64 0] 23)) := fun W => by
  have h := make23 1 (by omega) W
  rwa [show madeCells #[Value.int .u64 0] 1 = #[.int .u64 0] by simp [madeCells]; exact ⟨0, by decide, rfl⟩] at h
set_option maxRecDepth 100000 in
theorem wordN (x : Nat) (w : World) (hx : x < 18446744073709551616) : Calls Tryz.prog 92 #[.int .u64 (x : Int), .int .i64 1] w fun e w' => ∃ v, e = .returned v ∧ Res w w' v [x] := by
  have hmk := make23_1
  have m1 : max (1 : Int) 1 = 1 := by omega
  have m2 : min (1 : Int) 300 = 1 := by omega
  have HL := Aside0.mk (lit_res w [x] (W64_one hx) (by simp))
  go_enter Tryz.func92, Tryz.ntmps92
  go_wp2_with fail
  go_ret
  exact ⟨_, rfl, HL.out⟩
set_option maxRecDepth 100000 in
theorem bitN (A : Option Addr) (c : Nat) (a : List Nat) (i : Nat) (w : World) (h : Num w A c a) (hi : i < 1000000) :
    Calls Tryz.prog 45 #[.slice A a.length c, .int .i64 (i : Int)] w fun e w' => e = .returned (.int .u64 ((a.getD (i / 64) 0 / 2 ^ (i % 64) % 2 : Nat) : Int)) ∧ w' = w := by
  have t0 : decide ((i : Int) < 0) = false := by rw [decide_eq_false_iff_not]; omega
  have hAt := atN A c a ((i / 64 : Nat) : Int) w h
  rw [if_neg (by omega), Int.toNat_natCast] at hAt
  have hlt := getD_w h.w64 (i / 64)
  generalize a.getD (i / 64) 0 = x at *
  clear h
  go_enter Tryz.func45, Tryz.ntmps45
  go_wp2_with fail
  refine hAt.mono ?_
  rintro e w' ⟨rfl, rfl⟩
  go_wp2_with fail
  go_ret
  refine ⟨?_, rfl⟩
  have e := bits_and_u64_nat (x / 2 ^ (i % 64)) 1 (Nat.lt_of_le_of_lt (Nat.div_le_self _ _) hlt) (by omega)
  rw [Nat.and_one_is_mod] at e
  have e2 : ((x / 2 ^ (i % 64) : Nat) : Int) = (x : Int) / 2 ^ (i % 64) := by simp
  rw [e2] at e
  exact congrArg (fun z => Ending.returned (Value.int .u64 z)) e
/-! ### slices -/
/-- slices.Clone of a number. -/
theorem cloneN (A : Option Addr) (c : Nat) (a : List Nat) (w : World) (h : Num w A c a) (hl : a.length ≤ 1000000) :
    Calls Tryz.prog 44 #[.slice A a.length c] w fun x w' => ∃ v, x = .returned v ∧ Res w w' v a := by
  have hW := Aside0.mk h.w64
  rcases A with _ | ad
  · have hq := fun W => Lib.run_eql_slice_nil (P := Tryz.prog) W 26 23 none 0 c 0 0 Tryz.underlying26
    have h0 : a = [] := by
      rcases Nat.eq_zero_or_pos a.length with h1 | h1
      · exact List.eq_nil_of_length_eq_zero h1
      · obtain ⟨_, e, _⟩ := h.rd.2.2 h1
        cases e
    subst h0
    clear h
    go_enter Tryz.func44, Tryz.ntmps44
    go_wp2
    go_ret
    exact ⟨_, rfl, own_nil _ _ _ _, hW.out, Below.refl _ _⟩
  · have hq := fun W => Lib.run_eql_slice_nil (P := Tryz.prog) W 26 23 (some ad) a.length c 0 0 Tryz.underlying26
    have HL := Aside0.mk (show (([] : List Int).length + a.length) * 8 ≤ 140737488355328 by simp; omega)
    have HO := Aside0.mk (show (w.alloc (.cells #[] 23)).ownsRow w.heap.size 23 1 (.slice (some ⟨w.heap.size, 0, none⟩) 0 0) ([] : List Int).length (nums .u64 []) from World.ownsRow_made w #[] 0 (Nat.le_refl _) (by unfold maxLen; omega) (by simp))
    have HR := Aside0.mk (h.below (below_alloc (Below.refl w.heap.size w) (.cells #[] 23))).rd
    have HB := Aside0.mk (below_alloc (Below.refl w.heap.size w) (.cells #[] 23))
    clear h hl
    go_enter Tryz.func44, Tryz.ntmps44
    go_wp2_with (at_builtin; refine print_append_row (w0 := w) w.heap.size rfl (.tmp 5) (.tmp 6) 26 23 .u64 8 rfl Tryz.underlying26 info23' (by decide) (.slice (some ⟨w.heap.size, 0, none⟩) 0 0) [] (nz a) (some ad) a.length c rfl rfl HO.out HR.out HB.out (by simp) HL.out ?_; rintro v1 w1 ho hb _ _; have HR1 := Aside0.mk ho; have HB1 := Aside0.mk hb; clear ho hb)
    go_ret
    refine ⟨_, rfl, ?_, hW.out, HB1.out⟩
    have := HR1.out
    rw [List.nil_append, nz_length] at this
    exact this
set_option maxRecDepth 100000 in
/-- slices.Equal of numbers. -/
theorem equalN (A A2 : Option Addr) (c c2 : Nat) (a b : List Nat) (w : World) (ha : Num w A c a) (hb : Num w A2 c2 b) (hl : a.length ≤ 1000000) (hl2 : b.length ≤ 1000000) :
    Calls Tryz.prog 41 #[.slice A a.length c, .slice A2 b.length c2] w fun x w' => x = .returned (.bool (decide (a = b))) ∧ ∃ k, w' = w.drewN k := by
  by_cases he : a.length = b.length
  · have hA : ∀ i, i < a.length → ∃ ad, A = some ad ∧ w.cell? (ad.add i) = some (.int .u64 ((a.getD i 0 : Nat) : Int)) := ha.at_
    have hB : ∀ i, i < a.length → ∃ ad, A2 = some ad ∧ w.cell? (ad.add i) = some (.int .u64 ((b.getD i 0 : Nat) : Int)) := fun i hi => hb.at_ i (by omega)
    have HE := Aside0.mk (show (∀ i, i < a.length → a.getD i 0 = b.getD i 0) → decide (a = b) = true from fun h => by
      rw [decide_eq_true_eq]
      apply List.ext_getElem he
      intro j h1 h2
      have := h j h1
      simpa [List.getD, h1, h2] using this)
    have HF := Aside0.mk (show ∀ i, a.getD i 0 ≠ b.getD i 0 → decide (a = b) = false from fun i h => by
      rw [decide_eq_false_iff_not]
      intro e
      exact h (by rw [e]))
    have HA := Aside0.mk (And.intro hA hB)
    rw [← he]
    clear ha hb hA hB he hl2
    generalize a.length = n at *
    have t1 : ((n : Int) != (n : Int)) = false := by simp
    obtain ⟨fa, hfa⟩ : ∃ fa : Nat → Nat, fa = fun i => a.getD i 0 := ⟨_, rfl⟩
    obtain ⟨fb, hfb⟩ : ∃ fb : Nat → Nat, fb = fun i => b.getD i 0 := ⟨_, rfl⟩
    have ea : ∀ i, a.getD i 0 = fa i := fun i => by rw [hfa]
    have eb : ∀ i, b.getD i 0 = fb i := fun i => by rw [hfb]
    simp only [ea, eb] at HA HE HF
    clear ea eb hfa hfb
    generalize decide (a = b) = r at *
    go_enter Tryz.func41, Tryz.ntmps41
    go_wp2_with fail
    go_loopw [13] (fun v13 wr => ∃ i : Nat, v13 = .int .i64 (i : Int) ∧ Aside0 (i ≤ n ∧ ∀ j, j < i → fa j = fb j) ∧ Aside0 (∃ k, wr = w.drewN k)) (fun v13 _ => n - (intOf v13).toNat)
    case atStart => exact ⟨0, rfl, ⟨Nat.zero_le _, fun j hj => by omega⟩, ⟨0, rfl⟩⟩
    case round =>
      obtain ⟨i, rfl, HI, HW⟩ := hrel
      obtain ⟨k, rfl⟩ := HW.out
      by_cases hi : i < n
      · have t2 : decide ((i : Int) < (n : Int)) = true := by rw [decide_eq_true_eq]; omega
        have w3 : wrap64 ((i : Int) + 1) = ((i + 1 : Nat) : Int) := wrap64_id (by omega) (by omega)
        have hb1 : (i : Int) < (n : Int) := by omega
        obtain ⟨ad, rfl, c1⟩ := HA.out.1 i hi
        obtain ⟨ad2, rfl, c2⟩ := HA.out.2 i hi
        obtain ⟨x, hx⟩ : ∃ x, x = fa i := ⟨_, rfl⟩
        obtain ⟨y, hy⟩ : ∃ y, y = fb i := ⟨_, rfl⟩
        rw [← hx] at c1
        rw [← hy] at c2
        have d1 : ∀ k, (w.drewN k).cell? (ad.add i) = some (.int .u64 (x : Int)) := fun _ => c1
        have d2 : ∀ k, (w.drewN k).cell? (ad2.add i) = some (.int .u64 (y : Int)) := fun _ => c2
        have HX := Aside0.mk (And.intro hx hy)
        have HLT := Aside0.mk hi
        by_cases hxy : x = y
        · have t3 : ((x : Int) != (y : Int)) = false := by simp [hxy]
          have HQ := Aside0.mk hxy
          clear hx hy hxy
          go_wp2_with fail
          go_quiet (fail)
          go_wp2_with fail
          go_roundw
          case rel => exact ⟨i + 1, by first | rfl | exact congrArg (Value.int .i64) w3, ⟨HLT.out, fun j hj => by
              by_cases h : j < i
              · exact HI.out.2 j h
              · obtain rfl : j = i := by omega
                rw [← HX.out.1, ← HX.out.2]; exact HQ.out⟩, ⟨_, by first | rfl | exact World.drewN_drewN _ _ _⟩⟩
          case measure => first | exact msr1' i n HLT.out | (rw [w3]; exact msr1' i n HLT.out)
        · have t3 : ((x : Int) != (y : Int)) = true := by simp; omega
          have HQ := Aside0.mk (HF.out i (by rw [← hx, ← hy]; exact hxy))
          clear hx hy hxy
          go_wp2_with fail
          go_quiet (fail)
          go_wp2_with fail
          go_ret
          exact ⟨by rw [HQ.out]; rfl, _, by first | rfl | exact World.drewN_drewN _ _ _⟩
      · have t2 : decide ((i : Int) < (n : Int)) = false := by rw [decide_eq_false_iff_not]; omega
        have HQ := Aside0.mk (HE.out (fun j hj => HI.out.2 j (by omega)))
        go_wp2_with fail
        go_ret
        exact ⟨by rw [HQ.out]; rfl, _, rfl⟩
  · have t1 : ((a.length : Int) != (b.length : Int)) = true := by simp; omega
    have t2 : decide (a = b) = false := by rw [decide_eq_false_iff_not]; intro e; exact he (by rw [e])
    rw [t2]
    clear ha hb
    go_enter Tryz.func41, Tryz.ntmps41
    go_wp2_with fail
    go_ret
    exact ⟨rfl, 0, rfl⟩
end Go.Proofs.YtjpibgehhgaopaaGreat.Top
/- nat's Resize; limbs' Right; word's Inverse, Get. -/
namespace Go.Proofs.YtjpibgehhgaopaaGreat.Top
open Go.RowKit Go.Proofs.YtjpibgehhgaopaaGreatW.PrintWords Go.Proofs.YtjpibgehhgaopaaGreatW.PrintLast Go.Proofs.YtjpibgehhgaopaaGreat.PTopGenerated
set_option linter.unusedVariables false
set_option linter.unusedSimpArgs false

theorem val_none : ∀ a : List Nat, val a = 0 → a = List.replicate a.length 0
  | [], _ => rfl
  | x :: r, h => by
    simp only [val] at h
    have h1 := val_none r (by omega)
    rw [List.length_cons, List.replicate_succ, ← h1, show x = 0 by omega]
theorem val_replicate : ∀ n, val (List.replicate n 0) = 0
  | 0 => rfl
  | n + 1 => by rw [List.replicate_succ, val, val_replicate n]
/-- The words in need are the lower ones. -/
theorem val_take_wl (a : List Nat) (ha : W64 a) : val (a.take (wl (val a))) = val a ∧ wl (val a) ≤ a.length := by
  have h2 : wl (val a) ≤ a.length := wl_le (val_lt a ha)
  refine ⟨?_, h2⟩
  have h1 := val_take_drop a (wl (val a)) h2
  have h3 := lt_wl (val a)
  have h4 : val (a.drop (wl (val a))) = 0 := by
    rcases Nat.eq_zero_or_pos (val (a.drop (wl (val a)))) with h | h
    · exact h
    · exfalso
      have := Nat.le_mul_of_pos_right (18446744073709551616 ^ wl (val a)) h
      generalize 18446744073709551616 ^ wl (val a) * val (a.drop (wl (val a))) = y at *
      generalize 18446744073709551616 ^ wl (val a) = z at *
      omega
  rw [h4, Nat.mul_zero, Nat.add_zero] at h1
  exact h1.symm
theorem W64_rep (n : Nat) : W64 (List.replicate n 0) := W64_zeros n
theorem digs_wl (a : List Nat) (ha : W64 a) (n : Nat) (h : wl (val a) ≤ n) : a.take (wl (val a)) ++ List.replicate (n - wl (val a)) 0 = digs n (val a) := by
  obtain ⟨h1, h2⟩ := val_take_wl a ha
  refine val_inj (W64_append (W64_take ha _) (W64_rep _)) (digs_w _ _) (by simp; omega) ?_
  rw [val_append, val_replicate, Nat.mul_zero, Nat.add_zero, h1, val_digs, Nat.mod_eq_of_lt]
  exact Nat.lt_of_lt_of_le (lt_wl (val a)) (Nat.pow_le_pow_right (by omega) h)
theorem Num.take {w : World} {A : Option Addr} {c : Nat} {a : List Nat} (h : Num w A c a) (k : Nat) (hk : k ≤ a.length) : Num w A c (a.take k) := by
  refine ⟨⟨by simp [nz], by rw [List.length_take]; have := h.len; omega, fun hp => ?_⟩, by rw [List.length_take]; have := h.cap; omega, W64_take h.w64 k, h.ty⟩
  rw [List.length_take] at hp
  obtain ⟨ad, e, hc⟩ := h.rd.2.2 (by omega)
  refine ⟨ad, e, fun j hj => ?_⟩
  rw [List.length_take] at hj
  rw [hc j (by omega)]
  simp [nz, List.getD, List.getElem?_take, show j < k by omega]
set_option maxRecDepth 100000 in
theorem resizeN (A : Option Addr) (c : Nat) (a : List Nat) (n : Nat) (w : World) (h : Num w A c a) (hn : wl (val a) ≤ n) (hn2 : n ≤ 300) :
    Calls Tryz.prog 52 #[.slice A a.length c, .int .i64 (n : Int)] w fun e w' => ∃ v, e = .returned (.tuple #[v, .int .i64 0]) ∧ Res w w' v (digs n (val a)) := by
  have t0 : decide ((n : Int) > 300) = false := by rw [decide_eq_false_iff_not]; omega
  have hL := leastN A c a w h
  have hle := (val_take_wl a h.w64).2
  have hcap := h.cap
  have hD := Aside0.mk (digs_wl a h.w64 n hn)
  have hk := Aside0.mk (h.take _ hle)
  have hmk := make23 n (by omega)
  have HO := Aside0.mk (made23 w w.heap.size n (Nat.le_refl _) (by omega))
  have HB := Aside0.mk (below_alloc (Below.refl w.heap.size w) (.cells (madeCells #[.int .u64 0] n) 23))
  have hL2 := Aside0.mk (leastN A c a _ (h.below HB.out))
  have hlen : (a.take (wl (val a))).length = wl (val a) := by rw [List.length_take]; omega
  have HO2 := Aside0.mk (show (w.alloc (.cells (madeCells #[.int .u64 0] n) 23)).ownsRow w.heap.size 23 1 (.slice (some ⟨w.heap.size, 0, none⟩) n n) (nz (List.replicate n 0)).length (nums .u64 (nz (List.replicate n 0))) by
    rw [nz_length, List.length_replicate]; exact HO.out)
  have HR0 := Aside0.mk (hk.out.below HB.out).rd
  rw [hlen] at HR0
  have HSZ := Aside0.mk (show w.heap.size ≤ (w.alloc (.cells (madeCells #[.int .u64 0] n) 23)).heap.size by simp)
  have HK := Aside0.mk (And.intro hlen (show wl (val a) ≤ c by omega))
  generalize digs n (val a) = r at *
  generalize wl (val a) = k at *
  have t1 : decide ((n : Int) < (k : Int)) = false := by rw [decide_eq_false_iff_not]; omega
  have hkc : k ≤ c := HK.out.2
  clear h hle hcap hlen
  go_enter Tryz.func52, Tryz.ntmps52
  go_wp2_with fail
  refine hL.mono ?_
  rintro e w' ⟨rfl, rfl⟩
  go_wp2_with fail
  refine hL2.out.mono ?_
  rintro e w2 ⟨rfl, rfl⟩
  go_wp2_with (refine gate_ (.call { callee := .builtin .copy, args := #[.tmp 17, .tmp 21], argTypes := #[26, 26] }) rfl ?_; refine copy_row_ (w0 := w') w'.heap.size rfl (.tmp 17) (.tmp 21) 26 26 23 .u64 rfl Tryz.underlying26 size23' (.slice (some ⟨w'.heap.size, 0, none⟩) n n) (nz (List.replicate n 0)) (nz (a.take k)) A k c rfl rfl HO2.out HR0.out HB.out HSZ.out ?_; rintro w1 ho hb _; have HR1 := Aside0.mk ho; have HB1 := Aside0.mk hb; clear ho hb)
  go_ret2
  refine ⟨_, rfl, ?_, ?_, HB1.out⟩
  · have h1 := HR1.out
    rw [nz_length, List.length_replicate, Nat.min_eq_left hn, nz_take, nz_drop, ← nz_append, List.take_of_length_le (by have := HK.out.1; omega), List.drop_replicate, hD.out] at h1
    have hl : r.length = n := by rw [← hD.out]; have := HK.out.1; simp only [List.length_append, List.length_replicate]; omega
    rw [hl]
    exact h1
  · rw [← hD.out]
    exact W64_append hk.out.w64 (W64_rep _)
end Go.Proofs.YtjpibgehhgaopaaGreat.Top
/- limbs' Right of one word; word's Inverse, Get. -/
namespace Go.Proofs.YtjpibgehhgaopaaGreat.Top
open Go.RowKit Go.Proofs.YtjpibgehhgaopaaGreatW.PrintWords Go.Proofs.YtjpibgehhgaopaaGreatW.PrintLast Go.Proofs.YtjpibgehhgaopaaGreat.PTopGenerated
set_option linter.unusedVariables false
set_option linter.unusedSimpArgs false

/-- One step of the inverse; four of them. -/
def invS (a x : Int) : Int := IntKind.u64.wrap (x * IntKind.u64.wrap (2 - IntKind.u64.wrap (a * x)))
def invX (a : Int) : Nat → Int
  | 0 => Go.bits .xor .u64 (IntKind.u64.wrap (a * 3)) 2
  | i + 1 => invS a (invX a i)
def invI (a : Int) : Int := invX a 4
theorem u64_wrap_U (x : Int) : U64 (IntKind.u64.wrap x) := by
  rw [IntKind.wrap_u64]
  unfold U64
  omega
theorem invX_U (a : Int) : ∀ i, U64 (invX a i)
  | 0 => bits64_u _ _ _
  | i + 1 => u64_wrap_U _
theorem and_fullI (y : Int) (h : U64 y) : Go.bits .and .u64 y 18446744073709551615 = y := by
  obtain ⟨n, rfl⟩ := Int.eq_ofNat_of_zero_le h.1
  exact and_full n (by have := h.2; omega)
theorem and_oneN (a : Nat) (ha : a < 18446744073709551616) : Go.bits .and .u64 (a : Int) 1 = ((a % 2 : Nat) : Int) := by
  have e := bits_and_u64_nat a 1 ha (by omega)
  rw [Nat.and_one_is_mod] at e
  exact e
set_option maxRecDepth 100000 in
theorem maskOdd (a : Nat) (h : a < 18446744073709551616) (ha : a % 2 = 1) (w : World) : Calls Tryz.prog 137 #[.int .u64 (a : Int)] w fun e w' => e = .returned (.int .u64 18446744073709551615) ∧ w' = w := by
  have h1 : Go.bits .and .u64 (a : Int) 1 = 1 := by rw [and_oneN a h, ha]; rfl
  have h2 : IntKind.u64.wrap (-1) = 18446744073709551615 := by decide
  go_enter Tryz.func137, Tryz.ntmps137
  go_wp2_with fail
  go_ret
  exact ⟨by first | rfl | (rw [h2]), rfl⟩
set_option maxRecDepth 100000 in
theorem inverseN (a : Nat) (h : a < 18446744073709551616) (ha : a % 2 = 1) (w : World) : Calls Tryz.prog 86 #[.int .u64 (a : Int)] w fun e w' => e = .returned (.int .u64 (invI (a : Int))) ∧ w' = w := by
  have HM := Aside0.mk (maskOdd a h ha w)
  have hand := and_fullI (invX (a : Int) 4) (invX_U _ 4)
  unfold invI
  go_enter Tryz.func86, Tryz.ntmps86
  go_wp2_with fail
  go_loopw [3, 7] (fun v3 v7 wr => ∃ i : Nat, v7 = .int .i64 (i : Int) ∧ v3 = .int .u64 (invX (a : Int) i) ∧ Aside0 (i ≤ 4) ∧ Aside0 (wr = w)) (fun _ v7 _ => 4 - (intOf v7).toNat)
  case atStart => exact ⟨0, rfl, rfl, ⟨by omega⟩, ⟨rfl⟩⟩
  case round =>
    obtain ⟨i, rfl, rfl, HI, HW⟩ := hrel
    obtain rfl := HW.out
    by_cases hi : i < 4
    · have t2 : decide ((i : Int) < 4) = true := by rw [decide_eq_true_eq]; omega
      have w3 : wrap64 ((i : Int) + 1) = ((i + 1 : Nat) : Int) := wrap64_id (by omega) (by omega)
      have HLT := Aside0.mk hi
      have hX := Aside0.mk (show invX (a : Int) (i + 1) = IntKind.u64.wrap (invX (a : Int) i * IntKind.u64.wrap (2 - IntKind.u64.wrap ((a : Int) * invX (a : Int) i))) from rfl)
      generalize invX (a : Int) i = x at *
      go_wp2_with fail
      go_roundw
      case rel => exact ⟨i + 1, by first | rfl | exact congrArg (Value.int .i64) w3, by rw [hX.out], ⟨by have := HLT.out; omega⟩, ⟨by first | rfl | trivial⟩⟩
      case measure => first | exact msr1' i 4 HLT.out | (rw [w3]; exact msr1' i 4 HLT.out)
    · obtain rfl : i = 4 := by have := HI.out; omega
      have t2 : decide (((4 : Nat) : Int) < 4) = false := by decide
      obtain ⟨x, hx⟩ : ∃ x, x = invX (a : Int) 4 := ⟨_, rfl⟩
      rw [← hx] at hand ⊢
      have HX := Aside0.mk hx
      clear hx
      go_wp2_with fail
      refine HM.out.mono ?_
      rintro e w' ⟨rfl, rfl⟩
      go_wp2_with fail
      go_ret
      rw [← HX.out]
      exact ⟨rfl, rfl⟩
/-- Bytes to a word, the highest ahead. -/
def getI (xs : List Int) : Int := xs.foldl (fun a x => Go.bits .or .u64 (IntKind.u64.wrap (a * 256)) x) 0
def Byt (x : Int) : Prop := 0 ≤ x ∧ x < 256
theorem getI_succ (xs : List Int) (i : Nat) (h : i < xs.length) : getI (xs.take (i + 1)) = Go.bits .or .u64 (IntKind.u64.wrap (getI (xs.take i) * 256)) (rd xs (i : Int)) := by
  unfold getI rd
  rw [List.take_succ_eq_append_getElem h, List.foldl_append]
  simp [List.getD, h]
set_option maxRecDepth 100000 in
theorem getN (A : Option Addr) (c : Nat) (xs : List Int) (w : World) (h : ReadsInt w .u8 A xs.length xs) (hl : xs.length ≤ 8) (hb : ∀ i : Nat, Byt (rd xs (i : Int))) :
    Calls Tryz.prog 140 #[.slice A xs.length c] w fun e w' => e = .returned (.int .u64 (getI xs)) ∧ w' = w := by
  have H := Aside0.mk h
  have m1 : min (xs.length : Int) 8 = (xs.length : Int) := by omega
  have HL := Aside0.mk hl
  clear h
  go_enter Tryz.func140, Tryz.ntmps140
  go_wp2_with fail
  go_loopw [3, 8] (fun v3 v8 wr => ∃ i : Nat, v8 = .int .i64 (i : Int) ∧ v3 = .int .u64 (getI (xs.take i)) ∧ Aside0 (i ≤ xs.length) ∧ Aside0 (wr = w)) (fun _ v8 _ => xs.length - (intOf v8).toNat)
  case atStart => exact ⟨0, rfl, rfl, ⟨by omega⟩, ⟨rfl⟩⟩
  case round =>
    obtain ⟨i, rfl, rfl, HI, HW⟩ := hrel
    obtain rfl := HW.out
    by_cases hi : i < xs.length
    · have t2 : decide ((i : Int) < (xs.length : Int)) = true := by rw [decide_eq_true_eq]; omega
      have w3 : wrap64 ((i : Int) + 1) = ((i + 1 : Nat) : Int) := wrap64_id (by omega) (by omega)
      have HLT := Aside0.mk hi
      have hb1 : (i : Int) < (xs.length : Int) := by omega
      obtain ⟨ad, rfl, hc⟩ := H.out.at_ (i : Int) (by omega) hb1
      rw [Int.toNat_natCast] at hc
      have hX := Aside0.mk (getI_succ xs i hi)
      have hB := hb i
      generalize getI (xs.take i) = g at *
      generalize rd xs (i : Int) = x at *
      have hw : IntKind.u64.wrap x = x := by rw [IntKind.wrap_u64]; unfold Byt at hB; omega
      go_wp2_with fail
      go_roundw
      case rel => exact ⟨i + 1, by first | rfl | exact congrArg (Value.int .i64) w3, by rw [hX.out], ⟨by have := HLT.out; omega⟩, ⟨by first | rfl | trivial⟩⟩
      case measure => first | exact msr1' i xs.length HLT.out | (rw [w3]; exact msr1' i xs.length HLT.out)
    · obtain rfl : i = xs.length := by have := HI.out; omega
      have t2 : decide ((xs.length : Int) < (xs.length : Int)) = false := by simp
      have e := Aside0.mk (show getI (xs.take xs.length) = getI xs by rw [List.take_length])
      generalize getI (xs.take xs.length) = g at *
      go_wp2_with fail
      go_ret
      rw [← e.out]
      exact ⟨rfl, rfl⟩
/-- A number of one word. -/
theorem Num.one {w : World} {A : Option Addr} {c x : Nat} (h : Num w A c [x]) : ∃ ad, A = some ad ∧ ∀ W', Below w.heap.size w W' → W'.cell? ad = some (.int .u64 (x : Int)) := by
  obtain ⟨ad, rfl, _⟩ := h.at_ 0 (by simp)
  refine ⟨ad, rfl, fun W' hb => ?_⟩
  obtain ⟨ad', e, h'⟩ := (h.below hb).at_ 0 (by simp)
  injection e with e
  subst e
  simpa [Addr.add] using h'
set_option maxRecDepth 100000 in
theorem right1 (A : Option Addr) (c x : Nat) (w : World) (h : Num w A c [x]) :
    Calls Tryz.prog 46 #[.pointer none, .slice A 1 c, .int .u64 0] w fun e w' => ∃ v, e = .returned (.tuple #[v, .int .u64 ((x % 2 : Nat) : Int)]) ∧ Res w w' v [x / 2] := by
  obtain ⟨ad, rfl, hcl⟩ := h.one
  have hx : x < 18446744073709551616 := h.w64 x (by simp)
  have hmk := make23_1
  have hand := and_oneN x hx
  have h00 : Go.bits .and .u64 0 1 = 0 := by decide
  have hor : Go.bits .or .u64 ((x : Int) / 2) (IntKind.u64.wrap (0 * 9223372036854775808)) = ((x / 2 : Nat) : Int) := by
    have e := bits_or_u64_nat (x / 2) 0 (by omega) (by omega)
    rw [Nat.or_zero] at e
    exact e
  have hor2 : Go.bits .or .u64 ((x : Int) / 2) 0 = ((x / 2 : Nat) : Int) := hor
  have HX := Aside0.mk hx
  clear h hx
  go_enter Tryz.func46, Tryz.ntmps46
  go_wp2_with fail
  refine (spanT w.heap.size none 0 1 _ (T_none w 0) (by omega)).mono ?_
  rintro e w' ⟨rfl, hT, hS⟩
  have HB := Aside0.mk hS.bel
  have HD := Aside0.mk hcl
  clear hcl hT hS
  go_wp2_with fail
  go_loopw [2, 22] (fun v2 v22 wr => ∃ i : Nat, v22 = .int .i64 (i : Int) ∧ Aside0 ((i = 0 ∧ v2 = .int .u64 0 ∧ wr = w'.alloc (.cells #[.int .u64 0] 23)) ∨ (i = 1 ∧ v2 = .int .u64 ((x % 2 : Nat) : Int) ∧ wr = w'.alloc (.cells #[.int .u64 ((x / 2 : Nat) : Int)] 23)))) (fun _ v22 _ => 1 - (intOf v22).toNat)
  case atStart => exact ⟨0, rfl, ⟨.inl ⟨rfl, rfl, rfl⟩⟩⟩
  case round =>
    obtain ⟨i, rfl, HI⟩ := hrel
    rcases HI.out with ⟨rfl, rfl, rfl⟩ | ⟨rfl, rfl, rfl⟩
    · have hcell : ∀ k, (w'.alloc (.cells #[.int .u64 k] 23)).cell? ad = some (.int .u64 (x : Int)) := fun k => HD.out _ (HB.out.alloc HB.out.size _)
      go_wp2_with fail
      go_roundw
      case rel => exact ⟨1, rfl, ⟨.inr ⟨rfl, rfl, rfl⟩⟩⟩
      case measure => show 1 - 1 < 1 - 0; omega
    · go_wp2_with fail
      go_ret2
      have h := lit_res w' [x / 2] (W64_one (by have := HX.out; omega)) (by simp)
      exact ⟨_, rfl, h.later HB.out⟩
end Go.Proofs.YtjpibgehhgaopaaGreat.Top
