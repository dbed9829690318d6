/- product's divided; Quick by a number of one word. -/
import Derived.Defers
import Derived.Recover
import Derived.Test.YtjpibgehhgaopaaGreatZ10
namespace Go.Proofs.YtjpibgehhgaopaaGreat.Top
open Go.RowKit Go.Proofs.YtjpibgehhgaopaaGreatW.PrintWords Go.Proofs.YtjpibgehhgaopaaGreatW.PrintLast Go.Proofs.YtjpibgehhgaopaaGreat.PTopGenerated
set_option linter.unusedVariables false
set_option linter.unusedSimpArgs false

set_option maxRecDepth 100000 in
theorem mustP (e : Int) (w : World) : Calls Tryz.prog 177 #[.bool true, .int .i64 e] w fun x w' => x = .returned (.tuple #[]) ∧ w' = w := by
  go_enter Tryz.func177, Tryz.ntmps177
  go_wp2_with fail
  go_end0
  exact ⟨rfl, rfl⟩
set_option maxRecDepth 100000 in
theorem askedN (A A2 : Option Addr) (c c2 : Nat) (a m : List Nat) (w : World) (ha : a.length ≤ 300) (hm : Num w A2 c2 m) (hl : m.length ≤ 300) (h0 : val m ≠ 0) :
    Calls Tryz.prog 133 #[.slice A a.length c, .slice A2 m.length c2] w fun e w' => e = .returned (.tuple #[]) ∧ Below w.heap.size w w' := by
  have t1 : decide (((bl (val m) : Nat) : Int) > 0) = true := by rw [decide_eq_true_eq]; have := bl_pos.2 h0; omega
  have HB := Aside0.mk (below_alloc (Below.refl w.heap.size w) (.cells #[.slice A a.length c, .slice A2 m.length c2] 26))
  have hbit := Aside0.mk (bitsN A2 c2 m _ (hm.below HB.out))
  generalize ((bl (val m) : Nat) : Int) = q at *
  clear hm h0
  go_enter Tryz.func133, Tryz.ntmps133
  go_wp2_with fail
  refine (longF _ _ _ _ _ _ _ _ (blk_cell (heap_alloc_new _ _) 0) (blk_cell (heap_alloc_new _ _) 1) ha hl).mono ?_
  rintro e w' ⟨rfl, rfl⟩
  go_wp2_with fail
  refine (mustP _ _).mono ?_
  rintro e w' ⟨rfl, rfl⟩
  go_wp2_with fail
  refine (hbit.out (by omega)).mono ?_
  rintro e w' ⟨rfl, rfl⟩
  go_wp2_with fail
  refine (mustP _ _).mono ?_
  rintro e w' ⟨rfl, rfl⟩
  go_wp2_with fail
  go_end0
  exact ⟨rfl, HB.out⟩
theorem idle176 (a b c : Value) (w : World) : CallsD Tryz.prog 176 #[a, b, c] .returning w fun e u' w' => e = .returned (.tuple #[]) ∧ u' = .returning ∧ w' = w := by
  refine callsD_of_wpS Tryz.func176 rfl fun c₀ cs hu => ?_
  apply wpS_seq
  apply wpS_region
  simp [wpOpsS, go_sem, recoverD, hu, Tryz.ntmps176, Exit.thenS]
  apply wpS_seq
  apply wpS_region
  simp [wpOpsS, go_sem, hu, Tryz.ntmps176, Exit.thenS]
  refine wpS_cond (t := false) (by simp [Act.eval, Array.replicate]) ?_
  simp only [Bool.false_eq_true, if_false]
  refine wpS_of_wp (wp_skip ?_)
  cases c₀
  simp_all [bodyPostS, results, Tryz.results176]
theorem drop_set_ {l : List Nat} {i x : Nat} (h : i < l.length) : (l.set i x).drop i = x :: l.drop (i + 1) := by
  rw [List.drop_set, if_neg (Nat.lt_irrefl _), Nat.sub_self, List.drop_eq_getElem_cons h, List.set_cons_zero]
theorem q1_comb {M v k a q r V : Nat} (hv : M * v + k = V) (hd : M * q + r = k * 18446744073709551616 + a) : M * (q + 18446744073709551616 * v) + r = a + 18446744073709551616 * V := by
  subst hv
  rw [Nat.mul_add, ← Nat.mul_assoc, Nat.mul_comm M 18446744073709551616, Nat.mul_assoc]
  generalize M * v = z at *
  generalize M * q = y at *
  omega
theorem q1_lt {W k x M : Nat} (hk : k < M) (hx : x < W) : k * W + x < W * M := by
  have h2 : (k + 1) * W ≤ M * W := Nat.mul_le_mul_right _ hk
  rw [Nat.mul_comm W, Nat.add_mul, Nat.one_mul] at *
  omega
theorem W64_set {l : List Nat} (h : W64 l) (i : Nat) {x : Nat} (hx : x < 18446744073709551616) : W64 (l.set i x) := fun y hy => by
  rcases List.mem_or_eq_of_mem_set hy with hy | rfl
  · exact h y hy
  · exact hx
/-- One word of the quotient. -/
theorem q1_step {M k j : Nat} {a ql : List Nat} (ha : W64 a) (hw : W64 ql) (hl : ql.length = a.length) (hj : j < a.length) (hM : 0 < M) (hk : k < M) (hv : M * val (ql.drop (j + 1)) + k = val (a.drop (j + 1))) :
    W64 (ql.set j ((k * 18446744073709551616 + a.getD j 0) / M)) ∧ (ql.set j ((k * 18446744073709551616 + a.getD j 0) / M)).length = a.length ∧ (k * 18446744073709551616 + a.getD j 0) % M < M ∧
    M * val ((ql.set j ((k * 18446744073709551616 + a.getD j 0) / M)).drop j) + (k * 18446744073709551616 + a.getD j 0) % M = val (a.drop j) := by
  have hx := getD_w ha j
  have hq : (k * 18446744073709551616 + a.getD j 0) / M < 18446744073709551616 := by
    rw [Nat.div_lt_iff_lt_mul hM]
    exact q1_lt hk hx
  refine ⟨W64_set hw j hq, by rw [List.length_set, hl], Nat.mod_lt _ hM, ?_⟩
  rw [drop_set_ (by omega), val, val_drop_cons a j hj]
  exact q1_comb hv (Nat.div_add_mod _ _)
theorem msr_dn (j : Nat) : (intOf (.int .i64 ((j : Int) - 1)) + 1).toNat < (intOf (.int .i64 (j : Int)) + 1).toNat := by
  show ((j : Int) - 1 + 1).toNat < ((j : Int) + 1).toNat
  omega
theorem word_le (n : Nat) : 18446744073709551616 ≤ 18446744073709551616 ^ (n + 1) := by
  rw [Nat.pow_succ]
  exact Nat.le_mul_of_pos_left _ (Nat.pow_pos (by omega))
theorem Fr.swap {w W : World} {p q : Nat × Obj} (h : Fr w W [p, q]) : Fr w W [q, p] := by
  refine ⟨h.bel, fun x hx => h.ge x ?_, fun x hx => h.has x ?_, ?_⟩
  · simp at hx ⊢; exact hx.symm
  · simp at hx ⊢; exact hx.symm
  · have := h.ne
    simp at this ⊢
    exact fun e => this e.symm
theorem Fr.two (w : World) (o o' : Obj) : Fr w ((w.alloc o).alloc o').drew [(w.heap.size, o), (w.heap.size + 1, o')] := by
  have h := (((Fr.nil w).alloc o).alloc o').drewN 1
  simp only [List.nil_append, List.cons_append, World.size_alloc] at h
  exact h
set_option maxHeartbeats 1000000 in
set_option maxRecDepth 100000 in
theorem quick1_1 (p q : Nat) (A A2 : Option Addr) (c c2 : Nat) (a m : List Nat) (w : World) (ha : Num w A c a) (hm : Num w A2 c2 m) (hla : a.length ≤ 300) (hlm : m.length ≤ 300) (h0 : val m ≠ 0) (h1 : wl (val m) = 1)
    (hp : w.cell? ⟨p, 0, none⟩ = some (.slice A a.length c)) (hq : w.cell? ⟨q, 0, none⟩ = some (.slice A2 m.length c2)) :
    Calls Tryz.prog 132 #[.pointer (some ⟨p, 0, none⟩), .pointer (some ⟨q, 0, none⟩)] w fun e w' => ∃ v1 v2, e = .returned (.tuple #[v1, v2]) ∧ Res w w' v1 (digs a.length (val a / val m)) ∧ Res w w' v2 (digs m.length (val a % val m)) := by
  have HA := Aside0.mk (And.intro ha (And.intro hm (And.intro hp hq)))
  have HL := Aside0.mk (And.intro hla (And.intro hlm (And.intro h0 h1)))
  have hbl : bl (val m) ≤ 64 ∧ 1 ≤ bl (val m) := by unfold wl at h1; omega
  have hb : wrap64 (((bl (val m) : Nat) : Int) + 63) = ((bl (val m) + 63 : Nat) : Int) := wrap64_id (by omega) (by omega)
  have hw1 : ((bl (val m) + 63 : Nat) : Int) / 64 = 1 := by omega
  have mk1 := makeR a.length (by omega)
  have mk2 := makeR m.length (by omega)
  have ask := askedN A A2 c c2 a m w hla hm hlm h0
  have HB := Aside0.mk (bitsN A2 c2 m)
  obtain ⟨bm, hbm⟩ : ∃ bm, bm = bl (val m) := ⟨_, rfl⟩
  rw [← hbm] at hb hw1 HB
  clear ha hm h0 h1 hbm hbl
  have hM0 : m.getD 0 0 = val m ∧ 0 < m.length := by
    obtain ⟨e1, e2⟩ := val_take_wl m HA.out.2.1.w64
    rw [HL.out.2.2.2] at e1 e2
    rcases m with _ | ⟨x, r⟩
    · simp at e2
    · refine ⟨?_, by simp⟩
      rw [← e1]
      simp [val, List.getD]
  have HM := Aside0.mk (show 0 < val m ∧ val m < 18446744073709551616 ∧ m.getD 0 0 = val m ∧ 0 < m.length from ⟨Nat.pos_of_ne_zero HL.out.2.2.1, hM0.1 ▸ getD_w HA.out.2.1.w64 0, hM0⟩)
  clear hM0
  obtain ⟨M, hMe⟩ : ∃ M, M = val m := ⟨_, rfl⟩
  rw [← hMe] at HM ⊢
  have HMe := Aside0.mk hMe
  clear hMe
  go_enter Tryz.func132, Tryz.ntmps132
  go_wp2_with fail
  refine ask.mono ?_
  rintro e w1 ⟨rfl, hb1⟩
  have HB1 := Aside0.mk hb1
  have hp1 := pw_cell_below hb1 hp
  have hq1 := pw_cell_below hb1 hq
  clear hp hq hb1
  go_wp2_with fail
  refine (HB.out w1 (HA.out.2.1.below HB1.out) (by omega)).mono ?_
  rintro e w' ⟨rfl, rfl⟩
  have n1 := World.new_ne _ _ hp1
  have n2 := World.new_ne _ _ hq1
  go_upto_region 3 with (fail)
  go_cut [5, 6] (fun v5 v6 wc => ∃ gq gr, v5 = .slice (some ⟨gq, 0, none⟩) a.length a.length ∧ v6 = .slice (some ⟨gr, 0, none⟩) m.length m.length ∧ Aside0 (Fr w' wc [(gq, rowO (List.replicate a.length 0)), (gr, rowO (List.replicate m.length 0))] ∧ wc.cell? ⟨p, 0, none⟩ = some (.slice A a.length c) ∧ wc.cell? ⟨q, 0, none⟩ = some (.slice A2 m.length c2)))
  case first =>
    go_region_held3 (fun W => W.cell? ⟨p, 0, none⟩ = some (.slice A a.length c) ∧ W.cell? ⟨q, 0, none⟩ = some (.slice A2 m.length c2)) (go_keep) (fail)
    all_goals go_wp2_with fail
    all_goals go_meet
    all_goals first
      | exact ⟨_, _, rfl, rfl, ⟨Fr.two _ _ _, (by assumption : _ ∧ _)⟩⟩
      | exact ⟨_, _, rfl, rfl, ⟨(Fr.two _ _ _).swap, (by assumption : _ ∧ _)⟩⟩
  case rest =>
    obtain ⟨gq, gr, rfl, rfl, HF⟩ := hcut
    have HFr := Aside0.mk HF.out.1
    have t1 : ((((bm + 63 : Nat) : Int) / 64) == 1) = true := by rw [hw1]; rfl
    have t1' : ((((bm : Int) + 63) / 64) == 1) = true := by have := hw1; simp; omega
    have hp2 := HF.out.2.1
    have hq2 := HF.out.2.2
    have w8 : wrap64 ((a.length : Int) - 1) = (a.length : Int) - 1 := wrap64_id (by omega) (by omega)
    clear ask mk1 mk2 HF hb hw1
    go_wp2_with fail
    go_loopw [7, 8] (fun v7 v8 wr => ∃ (i k : Nat) (ql : List Nat), v8 = .int .i64 ((i : Int) - 1) ∧ v7 = .int .u64 (k : Int) ∧ Aside0 (Fr w' wr [(gq, rowO ql), (gr, rowO (List.replicate m.length 0))]) ∧ Aside0 (i ≤ a.length ∧ W64 ql ∧ ql.length = a.length ∧ k < M ∧ M * val (ql.drop i) + k = val (a.drop i))) (fun _ v8 _ => (intOf v8 + 1).toNat)
    case atStart => exact ⟨a.length, 0, List.replicate a.length 0, rfl, rfl, HFr, ⟨Nat.le_refl _, W64_rep _, by simp, HM.out.1, by simp [val]⟩⟩
    case round =>
      obtain ⟨i, k, ql, rfl, rfl, HF, HI⟩ := hrel
      rcases i with _ | j
      · have t2 : decide (((0 : Nat) : Int) - 1 ≥ 0) = false := by decide
        have hlm0 : (0 : Int) < (m.length : Int) := by have := HM.out.2.2.2; omega
        have hr4 := HF.out.rowcell 1 rfl 0 (by have := HM.out.2.2.2; simp; omega)
        have hr5 := HF.out.rowfrozen 1 rfl 0
        go_wp2_with fail
        go_ret2
        have HE := (HF.out.rowset 1 rfl 0 k)
        have hI := HI.out
        simp only [List.drop_zero] at hI
        obtain ⟨i1, i2, i3, i4, i5⟩ := hI
        have hv : val ql = val a / M := by rw [← i5, Nat.add_comm, Nat.add_mul_div_left _ _ HM.out.1, Nat.div_eq_of_lt i4, Nat.zero_add]
        have hk : val a % M = k := by rw [← i5, Nat.mul_add_mod, Nat.mod_eq_of_lt i4]
        have hkw : k < 18446744073709551616 := Nat.lt_trans i4 HM.out.2.1
        have r1 := (HE.res 0 rfl i2 (by omega)).later HB1.out
        have r2 := (HE.res 1 rfl (W64_set (W64_rep _) 0 hkw) (by simp; omega)).later HB1.out
        have d1 : digs a.length (val a / M) = ql := by rw [← hv, ← i3, digs_val ql i2]
        have d2 : digs m.length (val a % M) = (List.replicate m.length 0).set 0 k := by
          rw [hk]
          refine val_inj (digs_w _ _) (W64_set (W64_rep _) 0 hkw) (by simp) ?_
          obtain ⟨n, hn⟩ : ∃ n, m.length = n + 1 := ⟨m.length - 1, by have := HM.out.2.2.2; omega⟩
          rw [val_digs, hn, Nat.mod_eq_of_lt (Nat.lt_of_lt_of_le hkw (word_le n)), List.replicate_succ, List.set_cons_zero, val, val_replicate]
          simp
        rw [d1, d2]
        have l1 : ((List.replicate m.length 0).set 0 k).length = m.length := by simp
        rw [l1] at r2
        rw [i3] at r1
        exact ⟨_, _, rfl, r1, r2⟩
      · have ej : ((j + 1 : Nat) : Int) - 1 = (j : Int) := by omega
        rw [ej]
        have hj : j < a.length := by have := HI.out.1; omega
        have t2 : decide ((j : Int) ≥ 0) = true := by rw [decide_eq_true_eq]; omega
        have w9 : wrap64 ((j : Int) - 1) = (j : Int) - 1 := wrap64_id (by omega) (by omega)
        have hb1 : (j : Int) < (a.length : Int) := by omega
        have hb0 : (0 : Int) ≤ (j : Int) := by omega
        obtain ⟨ad, rfl, hc⟩ := ((HA.out.1.below HB1.out).fr HF.out).at_ j hj
        obtain ⟨ad2, rfl, hc2⟩ := ((HA.out.2.1.below HB1.out).fr HF.out).at_ 0 HM.out.2.2.2
        have hc2' : wr.cell? ad2 = some (.int .u64 (M : Int)) := by rw [← HM.out.2.2.1]; simpa [Addr.add] using hc2
        have hp3 := pw_cell_below HF.out.bel hp1
        have hq3 := pw_cell_below HF.out.bel hq1
        have hq4 := HF.out.rowcell 0 rfl j (by have := HI.out.2.2.1; omega)
        have hq5 := HF.out.rowfrozen 0 rfl j
        have HD := Aside0.mk (div64N k (a.getD j 0) M HI.out.2.2.2.1 (getD_w HA.out.1.w64 j) HM.out.2.1)
        have HS := Aside0.mk (q1_step HA.out.1.w64 HI.out.2.1 HI.out.2.2.1 hj HM.out.1 HI.out.2.2.2.1 HI.out.2.2.2.2)
        generalize (k * 18446744073709551616 + a.getD j 0) / M = qd at *
        generalize (k * 18446744073709551616 + a.getD j 0) % M = rd' at *
        generalize a.getD j 0 = x at *
        generalize ql.getD j 0 = y at *
        have hlm0 : (0 : Int) < (m.length : Int) := by have := HM.out.2.2.2; omega
        have e1 : p ≠ gq := fun e => by have := (HF.out.lt 0 rfl).1; have := World.block_lt_of_cell? _ _ hp1; simp at this; omega
        have e2 : q ≠ gq := fun e => by have := (HF.out.lt 0 rfl).1; have := World.block_lt_of_cell? _ _ hq1; simp at this; omega
        have e3 : (ad.add j).block ≠ gq := fun e => by
          obtain ⟨cur, hcur⟩ := (HA.out.1.below HB1.out).ty ad rfl
          have h1 := (HF.out.lt 0 rfl).1
          have h2 := blk_lt hcur
          rw [addr_block] at e
          omega
        have e4 : ad2.block ≠ gq := fun e => by
          obtain ⟨cur, hcur⟩ := (HA.out.2.1.below HB1.out).ty ad2 rfl
          have h1 := (HF.out.lt 0 rfl).1
          have h2 := blk_lt hcur
          omega
        have hml2 : m ≠ [] := fun e => by rw [e] at hlm0; simp at hlm0
        have hml3 : 0 < m.length := by omega
        clear hc2 hp2 hq2
        go_upto_region 9 with (fail)
        go_region_held3 (fun W => W.cell? ⟨p, 0, none⟩ = some (.slice (some ad) a.length c) ∧ W.cell? ⟨q, 0, none⟩ = some (.slice (some ad2) m.length c2) ∧ W.cell? (ad.add j) = some (.int .u64 (x : Int)) ∧ W.cell? ad2 = some (.int .u64 (M : Int))) (first | go_keep | (refine ⟨(World.cell?_setCell_far _ _ _ _ (fun e => e1 e.symm)).trans hp3, (World.cell?_setCell_far _ _ _ _ (fun e => e2 e.symm)).trans hq3, (World.cell?_setCell_far _ _ _ _ (fun e => e3 e.symm)).trans hc, (World.cell?_setCell_far _ _ _ _ (fun e => e4 e.symm)).trans hc2'⟩)) (first | (go_at_call 134; refine (HD.out _).mono ?_; rintro e w3 ⟨rfl, kk, rfl⟩))
        all_goals go_wp2_with fail
        all_goals go_roundw
        case rel =>
          refine ⟨j, rd', ql.set j qd, by first | rfl | exact congrArg (Value.int .i64) w9, rfl, ⟨?_⟩, ⟨by have := HI.out.1; omega, HS.out.1, HS.out.2.1, HS.out.2.2.1, HS.out.2.2.2⟩⟩
          first
            | exact (HF.out.drewN _).rowset 0 rfl j qd
            | exact ((HF.out.drewN _).rowset 0 rfl j qd).drewN _
        case measure =>
          first | exact msr_dn j | (rw [w9]; exact msr_dn j)
end Go.Proofs.YtjpibgehhgaopaaGreat.Top
/- product's divided, Quick. -/
namespace Go.Proofs.YtjpibgehhgaopaaGreat.Top
open Go.RowKit Go.Proofs.YtjpibgehhgaopaaGreatW.PrintWords Go.Proofs.YtjpibgehhgaopaaGreatW.PrintLast Go.Proofs.YtjpibgehhgaopaaGreat.PTopGenerated
set_option linter.unusedVariables false
set_option linter.unusedSimpArgs false

/-- A row of a call's own stays where an older block is written. -/
theorem own_set_old {W' : World} {v : Value} {r : List Nat} {n : Nat} {base k j : Nat} {u : Value} (h : W'.ownsRow base 23 1 v n (nums .u64 (nz r))) (hk : k < base) : (W'.setCell ⟨k, j, none⟩ u).ownsRow base 23 1 v n (nums .u64 (nz r)) :=
  own_setCell h (fun e => by have := own_base h k e.symm; omega) u
set_option maxHeartbeats 1000000 in
set_option maxRecDepth 100000 in
/-- divided, where what it does throws nothing. -/
theorem dividedN (f : Nat) (lb : Array Value) (w : World) (r1 r2 : List Nat) (he : ∀ args w, (callFunc f args).run Tryz.prog w = .ok (.enter f args) w)
    (h : ∀ W, Below w.heap.size w W → Calls Tryz.prog f lb W fun e w' => ∃ v1 v2, e = .returned (.tuple #[v1, v2]) ∧ Res W w' v1 r1 ∧ Res W w' v2 r2) :
    Calls Tryz.prog 131 #[.func (.func f) #[] lb] w fun e w' => ∃ v1 v2, e = .returned (.tuple #[v1, v2, .int .i64 0]) ∧ Res w w' v1 r1 ∧ Res w w' v2 r2 := by
  have hmf : ∀ (fn : Fn) (first cap : Array Value) (w : World), (Instr.makeFunc fn first cap).run Tryz.prog w = .ok (.func fn first cap) w := fun _ _ _ _ => rfl
  have HF0 := Aside0.mk (((Fr.nil w).alloc (.cells #[.slice none 0 0] 26)).alloc (.cells #[.slice none 0 0] 26) |>.alloc (.cells #[.int .i64 0] 29))
  simp only [World.size_alloc, List.nil_append, List.cons_append] at HF0
  have HC := Aside0.mk (h _ HF0.out.bel)
  clear h
  go_enter_defers Tryz.func131, Tryz.ntmps131
  go_wp2_with fail
  refine HC.out.mono ?_
  rintro e w1 ⟨v1, v2, rfl, h1, h2⟩
  have HF1 := Aside0.mk (HF0.out.mv h1.bel)
  obtain ⟨A1, k1, rfl, _⟩ := h1.num
  obtain ⟨A2, k2, rfl, _⟩ := h2.num
  have HR := Aside0.mk (And.intro h1 h2)
  clear h1 h2 HC HF0
  obtain ⟨s, hs⟩ : ∃ s, s = w.heap.size := ⟨_, rfl⟩
  have f0 := HF1.out.frozen 0 rfl 0
  have f1 := HF1.out.frozen 1 rfl 0
  have f2 := HF1.out.frozen 2 rfl 0
  have c0 : w1.cell? ⟨w.heap.size, 0, none⟩ = some (.slice none 0 0) := HF1.out.cell 0 rfl 0 rfl
  have c1 : w1.cell? ⟨w.heap.size + 1, 0, none⟩ = some (.slice none 0 0) := HF1.out.cell 1 rfl 0 rfl
  have c2 : w1.cell? ⟨w.heap.size + 1 + 1, 0, none⟩ = some (.int .i64 0) := HF1.out.cell 2 rfl 0 rfl
  go_wp2_with fail
  have HF2 := Aside0.mk ((HF1.out.set_ 0 rfl 0 (.slice A1 r1.length k1)).set_ 1 rfl 0 (.slice A2 r2.length k2))
  obtain ⟨w2, hw2⟩ : ∃ w2, w2 = (w1.setCell ⟨w.heap.size, 0, none⟩ (.slice A1 r1.length k1)).setCell ⟨w.heap.size + 1, 0, none⟩ (.slice A2 r2.length k2) := ⟨_, rfl⟩
  rw [← hw2] at HF2 ⊢
  have HW2 := Aside0.mk hw2
  clear hw2 c0 c1 c2 f0 f1 f2
  have g0 : w2.cell? ⟨w.heap.size, 0, none⟩ = some (.slice A1 r1.length k1) := HF2.out.cell 0 rfl 0 rfl
  have g1 : w2.cell? ⟨w.heap.size + 1, 0, none⟩ = some (.slice A2 r2.length k2) := HF2.out.cell 1 rfl 0 rfl
  have g2 : w2.cell? ⟨w.heap.size + 1 + 1, 0, none⟩ = some (.int .i64 0) := HF2.out.cell 2 rfl 0 rfl
  have f0 := HF2.out.frozen 0 rfl 0
  have f1 := HF2.out.frozen 1 rfl 0
  have f2 := HF2.out.frozen 2 rfl 0
  go_region
  go_wp2_with fail
  have HF3 := Aside0.mk (((((HF2.out.set_ 0 rfl 0 (.slice A1 r1.length k1)).set_ 1 rfl 0 (.slice A2 r2.length k2)).set_ 2 rfl 0 (.int .i64 0))).drewN 1)
  have HO := Aside0.mk (And.intro (own_set_old (k := w.heap.size + 1 + 1) (j := 0) (u := .int .i64 0) (own_set_old (k := w.heap.size + 1) (j := 0) (u := .slice A2 r2.length k2) (own_set_old (k := w.heap.size) (j := 0) (u := .slice A1 r1.length k1) (own_set_old (k := w.heap.size + 1) (j := 0) (u := .slice A2 r2.length k2) (own_set_old (k := w.heap.size) (j := 0) (u := .slice A1 r1.length k1) HR.out.1.own (by simp <;> omega)) (by simp <;> omega)) (by simp <;> omega)) (by simp <;> omega)) (by simp <;> omega))
    (own_set_old (k := w.heap.size + 1 + 1) (j := 0) (u := .int .i64 0) (own_set_old (k := w.heap.size + 1) (j := 0) (u := .slice A2 r2.length k2) (own_set_old (k := w.heap.size) (j := 0) (u := .slice A1 r1.length k1) (own_set_old (k := w.heap.size + 1) (j := 0) (u := .slice A2 r2.length k2) (own_set_old (k := w.heap.size) (j := 0) (u := .slice A1 r1.length k1) HR.out.2.own (by simp <;> omega)) (by simp <;> omega)) (by simp <;> omega)) (by simp <;> omega)) (by simp <;> omega)))
  rw [← HW2.out] at HO
  obtain ⟨w3, hw3⟩ : ∃ w3, w3 = (((w2.setCell ⟨w.heap.size, 0, none⟩ (.slice A1 r1.length k1)).setCell ⟨w.heap.size + 1, 0, none⟩ (.slice A2 r2.length k2)).setCell ⟨w.heap.size + 1 + 1, 0, none⟩ (.int .i64 0)) := ⟨_, rfl⟩
  rw [← hw3] at HO
  change Aside0 (Fr w ((((w2.setCell ⟨w.heap.size, 0, none⟩ (.slice A1 r1.length k1)).setCell ⟨w.heap.size + 1, 0, none⟩ (.slice A2 r2.length k2)).setCell ⟨w.heap.size + 1 + 1, 0, none⟩ (.int .i64 0)).drewN 1) _) at HF3
  rw [← hw3] at HF3 ⊢
  have q0 : w3.cell? ⟨w.heap.size, 0, none⟩ = some (.slice A1 r1.length k1) := HF3.out.cell 0 rfl 0 rfl
  have q1 : w3.cell? ⟨w.heap.size + 1, 0, none⟩ = some (.slice A2 r2.length k2) := HF3.out.cell 1 rfl 0 rfl
  have q2 : w3.cell? ⟨w.heap.size + 1 + 1, 0, none⟩ = some (.int .i64 0) := HF3.out.cell 2 rfl 0 rfl
  clear hw3 HF2 g0 g1 g2
  refine leaves_cons (f := 176) (args := #[.pointer (some ⟨w.heap.size, 0, none⟩), .pointer (some ⟨w.heap.size + 1, 0, none⟩), .pointer (some ⟨w.heap.size + 1 + 1, 0, none⟩)]) (by simp) (by simp [go_sem]) ?_
  refine (idle176 _ _ _ _).mono ?_
  rintro e u' w'' ⟨rfl, rfl, rfl⟩
  have HB : Below w.heap.size w w3.drew := HF3.out.bel
  have hfin : Res w w3.drew (.slice A1 r1.length k1) r1 ∧ Res w w3.drew (.slice A2 r2.length k2) r2 :=
    ⟨⟨own_weaken HO.out.1 (by simp <;> omega), HR.out.1.w64, HB⟩, ⟨own_weaken HO.out.2 (by simp <;> omega), HR.out.2.w64, HB⟩⟩
  show Leaves _ _ _ _ _ _ _
  simp [Leaves, settle, results, Tryz.results131, go_sem, q0, q1, q2]
  exact ⟨_, _, ⟨rfl, rfl⟩, hfin⟩
set_option maxHeartbeats 1000000 in
set_option maxRecDepth 100000 in
/-- What Quick answers, where what it does is known. -/
theorem quick_of (A A2 : Option Addr) (c c2 : Nat) (a m : List Nat) (w : World) (ha : Num w A c a) (hm : Num w A2 c2 m) (r1 r2 : List Nat)
    (hq : ∀ (p q : Nat) (W : World), Num W A c a → Num W A2 c2 m → W.cell? ⟨p, 0, none⟩ = some (.slice A a.length c) → W.cell? ⟨q, 0, none⟩ = some (.slice A2 m.length c2) →
      Calls Tryz.prog 132 #[.pointer (some ⟨p, 0, none⟩), .pointer (some ⟨q, 0, none⟩)] W fun e w' => ∃ v1 v2, e = .returned (.tuple #[v1, v2]) ∧ Res W w' v1 r1 ∧ Res W w' v2 r2) :
    Calls Tryz.prog 81 #[.slice A a.length c, .slice A2 m.length c2] w fun e w' => ∃ v1 v2, e = .returned (.tuple #[v1, v2, .int .i64 0]) ∧ Res w w' v1 r1 ∧ Res w w' v2 r2 := by
  have hmf : ∀ (fn : Fn) (first cap : Array Value) (w : World), (Instr.makeFunc fn first cap).run Tryz.prog w = .ok (.func fn first cap) w := fun _ _ _ _ => rfl
  have HF0 := Aside0.mk (((Fr.nil w).alloc (.cells #[.slice A a.length c] 26)).alloc (.cells #[.slice A2 m.length c2] 26))
  simp only [World.size_alloc, List.nil_append, List.cons_append] at HF0
  have HD := Aside0.mk (dividedN 132 #[.pointer (some ⟨w.heap.size, 0, none⟩), .pointer (some ⟨w.heap.size + 1, 0, none⟩)] _ r1 r2 (enters_of Tryz.func132 (by kernel_rfl) rfl) (fun W hb => by
    have hF := HF0.out.mv hb
    exact hq _ _ W (ha.fr hF) (hm.fr hF) (hF.cell 0 rfl 0 rfl) (hF.cell 1 rfl 0 rfl)))
  clear ha hm hq
  go_enter Tryz.func81, Tryz.ntmps81
  go_wp2_with fail
  refine HD.out.mono ?_
  rintro e w1 ⟨v1, v2, rfl, h1, h2⟩
  have HR := Aside0.mk (And.intro (h1.later HF0.out.bel) (h2.later HF0.out.bel))
  clear h1 h2 HD
  go_wp2_with fail
  go_ret3
  exact ⟨v1, v2, rfl, HR.out.1, HR.out.2⟩
/-- Quick by a number of one word. -/
theorem quick1 (A A2 : Option Addr) (c c2 : Nat) (a m : List Nat) (w : World) (ha : Num w A c a) (hm : Num w A2 c2 m) (hla : a.length ≤ 300) (hlm : m.length ≤ 300) (h0 : val m ≠ 0) (h1 : wl (val m) = 1) :
    Calls Tryz.prog 81 #[.slice A a.length c, .slice A2 m.length c2] w fun e w' => ∃ v1 v2, e = .returned (.tuple #[v1, v2, .int .i64 0]) ∧ Res w w' v1 (digs a.length (val a / val m)) ∧ Res w w' v2 (digs m.length (val a % val m)) :=
  quick_of A A2 c c2 a m w ha hm _ _ fun p q W ha hm hp hq => quick1_1 p q A A2 c c2 a m W ha hm hla hlm h0 h1 hp hq
end Go.Proofs.YtjpibgehhgaopaaGreat.Top
