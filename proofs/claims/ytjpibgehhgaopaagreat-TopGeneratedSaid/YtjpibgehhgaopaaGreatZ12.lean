/- mont's power, guarded, Setup, of one word. -/
import Derived.Test.YtjpibgehhgaopaaGreatZ11
namespace Go.Proofs.YtjpibgehhgaopaaGreat.Top
open Go.RowKit Go.Proofs.YtjpibgehhgaopaaGreatW.PrintWords Go.Proofs.YtjpibgehhgaopaaGreatW.PrintLast Go.Proofs.YtjpibgehhgaopaaGreat.PTopGenerated
set_option linter.unusedVariables false
set_option linter.unusedSimpArgs false

set_option maxRecDepth 100000 in
theorem mustM (e : Int) (w : World) : Calls Tryz.prog 85 #[.bool true, .int .i64 e] w fun x w' => x = .returned (.tuple #[]) ∧ w' = w := by
  go_enter Tryz.func85, Tryz.ntmps85
  go_wp2_with fail
  go_end0
  exact ⟨rfl, rfl⟩
theorem idle136 (a : Value) (w : World) : CallsD Tryz.prog 136 #[a] .returning w fun e u' w' => e = .returned (.tuple #[]) ∧ u' = .returning ∧ w' = w := by
  refine callsD_of_wpS Tryz.func136 rfl fun c₀ cs hu => ?_
  apply wpS_seq
  apply wpS_region
  simp [wpOpsS, go_sem, recoverD, hu, Tryz.ntmps136, Exit.thenS]
  apply wpS_seq
  apply wpS_region
  simp [wpOpsS, go_sem, hu, Tryz.ntmps136, Exit.thenS]
  refine wpS_cond (t := false) (by simp [Act.eval, Array.replicate]) ?_
  simp only [Bool.false_eq_true, if_false]
  refine wpS_of_wp (wp_skip ?_)
  cases c₀
  simp_all [bodyPostS, results, Tryz.results136]
set_option maxRecDepth 100000 in
/-- mont's guarded, where what it does throws nothing. -/
theorem guardM (f : Nat) (lb : Array Value) (w : World) (R : World → Prop) (he : ∀ args w, (callFunc f args).run Tryz.prog w = .ok (.enter f args) w)
    (h : Calls Tryz.prog f lb (w.alloc (.cells #[.int .i64 0] 29)) fun e w' => e = .returned (.tuple #[]) ∧ w'.heap[w.heap.size]? = some (.cells #[.int .i64 0] 29 (0, 0)) ∧ R w') :
    Calls Tryz.prog 83 #[.func (.func f) #[] lb] w fun e w' => e = .returned (.int .i64 0) ∧ ∃ w1, w1.heap[w.heap.size]? = some (.cells #[.int .i64 0] 29 (0, 0)) ∧ R w1 ∧ w' = w1.setCell ⟨w.heap.size, 0, none⟩ (.int .i64 0) := by
  have hmf : ∀ (fn : Fn) (first cap : Array Value) (w : World), (Instr.makeFunc fn first cap).run Tryz.prog w = .ok (.func fn first cap) w := fun _ _ _ _ => rfl
  have HC := Aside0.mk h
  clear h
  go_enter_defers Tryz.func83, Tryz.ntmps83
  go_wp2_with fail
  refine HC.out.mono ?_
  rintro e w1 ⟨rfl, h1, h2⟩
  have f0 : w1.frozen? ⟨w.heap.size, 0, none⟩ = false := frozen_of_row w1 _ 0 _ _ h1
  have c0 : w1.cell? ⟨w.heap.size, 0, none⟩ = some (.int .i64 0) := blk_cell h1 0
  have HR := Aside0.mk (And.intro h1 h2)
  clear h1 h2 HC
  go_wp2_with fail
  have q0 : (w1.setCell ⟨w.heap.size, 0, none⟩ (.int .i64 0)).cell? ⟨w.heap.size, 0, none⟩ = some (.int .i64 0) := World.cell?_setCell_same _ _ _ c0
  have HS := Aside0.mk (show ∃ w2, w2.heap[w.heap.size]? = some (.cells #[.int .i64 0] 29 (0, 0)) ∧ R w2 ∧ w1.setCell ⟨w.heap.size, 0, none⟩ (.int .i64 0) = w2.setCell ⟨w.heap.size, 0, none⟩ (.int .i64 0) from ⟨w1, HR.out.1, HR.out.2, rfl⟩)
  generalize w1.setCell ⟨w.heap.size, 0, none⟩ (.int .i64 0) = w2 at *
  refine leaves_cons (f := 136) (args := #[.pointer (some ⟨w.heap.size, 0, none⟩)]) (by simp) (by simp [go_sem]) ?_
  refine (idle136 _ _).mono ?_
  rintro e u' w'' ⟨rfl, rfl, rfl⟩
  show Leaves _ _ _ _ _ _ _
  simp [Leaves, settle, results, Tryz.results83, go_sem, q0]
  exact HS.out
theorem val_shift (k : Nat) : val ((List.replicate (k + 1) 0).set k 1) = 18446744073709551616 ^ k ∧ W64 ((List.replicate (k + 1) 0).set k 1) := by
  refine ⟨?_, W64_set (W64_rep _) k (by omega)⟩
  induction k with
  | zero => rfl
  | succ k ih =>
    rw [List.replicate_succ, List.set_cons_succ, val, ih, Nat.pow_succ, Nat.zero_add, Nat.mul_comm]
theorem wl_one {x : Nat} (h0 : x ≠ 0) (h : x < 18446744073709551616) : wl x = 1 := by
  unfold wl
  have := (bl_spec h0).2.2
  have := bl_le (k := 64) (N := x) (by omega)
  omega
theorem val_one (x : Nat) : val [x] = x := by simp [val]
theorem digs_one {x : Nat} (h : x < 18446744073709551616) : digs 1 x = [x] := by
  simp only [digs]
  rw [Nat.mod_eq_of_lt h]
set_option maxRecDepth 100000 in
theorem power1 (A : Option Addr) (c M k : Nat) (w : World) (h : Num w A c [M]) (h0 : M ≠ 0) (hk : k ≤ 100) :
    Calls Tryz.prog 87 #[.slice A 1 c, .int .i64 (k : Int)] w fun e w' => ∃ v, e = .returned v ∧ Res w w' v [18446744073709551616 ^ k % M] := by
  have hM : M < 18446744073709551616 := h.w64 M (by simp)
  have hmk : ∀ W : World, (Instr.makeSlice 26 (.int .i64 ((k : Int) + 1)) (.int .i64 ((k : Int) + 1))).run Tryz.prog W = .ok (.slice (some ⟨W.heap.size, 0, none⟩) (k + 1) (k + 1)) (W.alloc (rowO (List.replicate (k + 1) 0))) := makeR (k + 1) (by omega)
  have w1 : wrap64 ((k : Int) + 1) = (k : Int) + 1 := wrap64_id (by omega) (by omega)
  have HF := Aside0.mk ((Fr.nil w).alloc (rowO (List.replicate (k + 1) 0)))
  simp only [List.nil_append] at HF
  have g0 := HF.out.rowcell 0 rfl k (by simp)
  have f0 := HF.out.rowfrozen 0 rfl k
  have HF2 := Aside0.mk (HF.out.rowset 0 rfl k 1)
  obtain ⟨hv, hw⟩ := val_shift k
  have hb1 : (0 : Int) ≤ (k : Int) := by omega
  have hb2 : (k : Int) < (k : Int) + 1 := by omega
  have hb3 : (k : Int) < ((k + 1 : Nat) : Int) := by omega
  have HQ := Aside0.mk (quick1 (some ⟨w.heap.size, 0, none⟩) A (k + 1) c ((List.replicate (k + 1) 0).set k 1) [M] _ (by have := HF2.out.num 0 rfl hw (by simp; omega); simpa using this) (h.fr HF2.out) (by simp; omega) (by simp) (by rw [val_one]; exact h0) (by rw [val_one]; exact wl_one h0 hM))
  rw [hv, val_one, List.length_singleton, digs_one (Nat.lt_of_lt_of_le (Nat.mod_lt _ (Nat.pos_of_ne_zero h0)) (Nat.le_of_lt hM)), show ((List.replicate (k + 1) 0).set k 1).length = k + 1 by simp] at HQ
  generalize 18446744073709551616 ^ k % M = r at *
  generalize (List.replicate (k + 1) 0).getD k 0 = y at *
  clear hv hw h
  go_enter Tryz.func87, Tryz.ntmps87
  go_wp2_with fail
  refine HQ.out.mono ?_
  rintro e w2 ⟨v1, v2, rfl, _, h2⟩
  have HR := Aside0.mk (h2.later HF2.out.bel)
  clear h2
  go_wp2_with fail
  go_ret
  exact ⟨v2, rfl, HR.out⟩
/-- One older block turns, all others below stay. -/
structure But (q : Nat) (w w' : World) : Prop where
  os : w'.os = w.os
  tape : w'.tape = w.tape
  output : w'.output = w.output
  size : w.heap.size ≤ w'.heap.size
  block : ∀ k, k < w.heap.size → k ≠ q → w'.heap[k]? = w.heap[k]?
theorem But.of_below {q : Nat} {w w' : World} (h : Below w.heap.size w w') : But q w w' := ⟨h.os, h.tape, h.output, h.size, fun k hk _ => h.block k hk⟩
theorem But.trans {q : Nat} {a b c : World} (h : But q a b) (k : But q b c) : But q a c := ⟨k.os.trans h.os, k.tape.trans h.tape, k.output.trans h.output, Nat.le_trans h.size k.size, fun i hi hq => (k.block i (Nat.lt_of_lt_of_le hi h.size) hq).trans (h.block i hi hq)⟩
theorem But.set_ {q j : Nat} (w : World) (u : Value) : But q w (w.setCell ⟨q, j, none⟩ u) := ⟨rfl, rfl, rfl, by simp, fun k _ hk => Below.heap_setCell _ _ _ k hk⟩
theorem But.kp {q : Nat} {w w' : World} (h : But q w w') (hq : ∀ cur, w.heap[q]? ≠ some (.cells cur 23 (0, 0))) : Kp w w' :=
  ⟨h.size, fun k cur hk => (h.block k (blk_lt hk) (fun e => by subst e; exact hq cur hk)).trans hk⟩
theorem store3 {w : World} {q : Nat} {u0 u1 u2 : Value} (h : w.heap[q]? = some (.cells #[u0, u1, u2] 73 (0, 0))) (a b d : Value) :
    (((w.setCell ⟨q, 0, none⟩ a).setCell ⟨q, 1, none⟩ b).setCell ⟨q, 2, none⟩ d).heap[q]? = some (.cells #[a, b, d] 73 (0, 0)) ∧ But q w (((w.setCell ⟨q, 0, none⟩ a).setCell ⟨q, 1, none⟩ b).setCell ⟨q, 2, none⟩ d) ∧
    Kp w (((w.setCell ⟨q, 0, none⟩ a).setCell ⟨q, 1, none⟩ b).setCell ⟨q, 2, none⟩ d) := by
  have h1 := heap_setCell_same w q 0 _ _ a h
  have h2 := heap_setCell_same _ q 1 _ _ b h1
  have h3 := heap_setCell_same _ q 2 _ _ d h2
  exact ⟨h3, ((But.set_ _ _).trans (But.set_ _ _)).trans (But.set_ _ _), ((Kp.set_ h (by decide) 0 a).trans (Kp.set_ h1 (by decide) 1 b)).trans (Kp.set_ h2 (by decide) 2 d)⟩
def KI (M : Nat) : Int := IntKind.u64.wrap (-(invI (M : Int)))
theorem loopGuard (x : Nat) (h : x ≠ 0) : ((x : Int) == 0) = false := by simp; omega
set_option maxHeartbeats 1000000 in
set_option maxRecDepth 100000 in
/-- Setup's function: the modulus is laid into its box. -/
theorem setup84 (p q : Nat) (A : Option Addr) (c M : Nat) (w : World) (h : Num w A c [M]) (ho : M % 2 = 1) (h1 : 1 < M) (hp : w.cell? ⟨p, 0, none⟩ = some (.slice A 1 c)) (u0 u1 u2 : Value) (hq : w.heap[q]? = some (.cells #[u0, u1, u2] 73 (0, 0))) (hpq : p ≠ q) :
    Calls Tryz.prog 84 #[.pointer (some ⟨p, 0, none⟩), .pointer (some ⟨q, 0, none⟩)] w fun e w' => e = .returned (.tuple #[]) ∧ ∃ A1 c1 A2 c2, But q w w' ∧ Num w' A1 c1 [M] ∧ Num w' A2 c2 [18446744073709551616 ^ 2 % M] ∧ w'.heap[q]? = some (.cells #[.slice A1 1 c1, .int .u64 (KI M), .slice A2 1 c2] 73 (0, 0)) := by
  have hM : M < 18446744073709551616 := h.w64 M (by simp)
  have hcap : 1 ≤ c := h.cap
  have hcapI : (1 : Int) ≤ (c : Int) := by omega
  obtain ⟨ad, rfl, hc⟩ := h.one
  have hc0 := hc w (Below.refl _ _)
  have HC := Aside0.mk hc
  have z1 := loopGuard M (by omega)
  have z2 : decide ((M : Int) > 1) = true := by rw [decide_eq_true_eq]; omega
  have z3 := and_oneN M hM
  rw [ho] at z3
  have HCl := Aside0.mk (cloneN (some ad) c [M])
  have HIn := Aside0.mk (inverseN M hM ho)
  have HPw := Aside0.mk (fun A c w h => power1 A c M 2 w h (by omega) (by omega))
  have H := Aside0.mk (And.intro h (And.intro hp hq))
  clear h hc hq
  go_enter Tryz.func84, Tryz.ntmps84
  go_wp2_with fail
  go_loopw [2] (fun v2 wr => v2 = .int .i64 1 ∧ Aside0 (wr = w)) (fun v2 _ => (intOf v2).toNat)
  case atStart => exact ⟨rfl, ⟨rfl⟩⟩
  case round =>
    obtain ⟨rfl, HW⟩ := hrel
    obtain rfl := HW.out
    go_wp2_with fail
    refine (mustM _ _).mono ?_
    rintro e w' ⟨rfl, rfl⟩
    go_wp2_with fail
    refine (mustM _ _).mono ?_
    rintro e w' ⟨rfl, rfl⟩
    go_wp2_with fail
    refine (mustM _ _).mono ?_
    rintro e w' ⟨rfl, rfl⟩
    have q0 : w'.cell? ⟨q, 0, none⟩ = some u0 := blk_cell H.out.2.2 0
    have q1 : w'.cell? ⟨q, 1, none⟩ = some u1 := blk_cell H.out.2.2 1
    have q2 : w'.cell? ⟨q, 2, none⟩ = some u2 := blk_cell H.out.2.2 2
    have hql := blk_lt H.out.2.2
    have n1 : q ≠ p := fun e => hpq e.symm
    have n2 : q ≠ ad.block := fun e => by
      obtain ⟨cur, hcur⟩ := H.out.1.ty ad rfl
      rw [← e, H.out.2.2] at hcur
      injection hcur with hcur
      injection hcur with _ hcur
      simp at hcur
    go_upto_region 6 with (fail)
    go_cut [] (fun wc => ∃ A1 c1, But q w' wc ∧ Num wc A1 c1 [M] ∧ wc.heap[q]? = some (.cells #[.slice A1 1 c1, .int .u64 (KI M), .slice none 0 0] 73 (0, 0)))
    case first =>
      go_region_held3 (fun W => W.cell? ⟨p, 0, none⟩ = some (.slice (some ad) 1 c) ∧ W.cell? ad = some (.int .u64 (M : Int))) (first | go_keep | (constructor <;> (apply pw_cell_below <;> assumption)))
        (first | (go_at_call 44; refine (HCl.out _ (H.out.1.below (pw_below_drewN (Below.refl _ _) 1)) (by simp)).mono ?_; rintro e w3 ⟨v, rfl, hr⟩; have hb3 := hr.bel; obtain ⟨A1, c1, rfl, hn1⟩ := hr.num; have HN1 := Aside0.mk hn1; have p3 := pw_cell_below hb3 hp; have a3 := pw_cell_below hb3 hc0; have e0 := pw_cell_below hb3 q0; have e1 := pw_cell_below hb3 q1; have e2 := pw_cell_below hb3 q2; have e3 := (hb3.block q hql).trans H.out.2.2; have f0 := frozen_of_row w3 q 0 _ _ e3; have f1 := frozen_of_row w3 q 1 _ _ e3; have f2 := frozen_of_row w3 q 2 _ _ e3; have E3 := Aside0.mk e3; have HB3 := Aside0.mk hb3; clear hn1 e3) | (go_at_call 86; refine (HIn.out _).mono ?_; rintro e w3 ⟨rfl, rfl⟩))
      go_wp2_with fail
      go_meet
      case rel =>
        obtain ⟨t1, t2, t3⟩ := store3 E3.out (.slice A1 1 c1) (.int .u64 (KI M)) (.slice none 0 0)
        have hB0 : But q w' w3 := (But.of_below (pw_below_drewN (Below.refl _ _) 1)).trans (But.of_below HB3.out)
        refine ⟨A1, c1, ?_, ?_, ?_⟩
        · exact (hB0.trans t2).trans (But.of_below (pw_below_drewN (Below.refl _ _) 0))
        · exact (HN1.out.kp t3)
        · exact t1
    case rest =>
      obtain ⟨A1, c1, hB, hN, hQ⟩ := hcut
      have HH := Aside0.mk (And.intro hB (And.intro hN hQ))
      have k0 : wc.cell? ⟨q, 0, none⟩ = some (.slice A1 1 c1) := blk_cell hQ 0
      clear hB hN hQ q0 q1 q2
      go_wp2_with fail
      refine (HPw.out A1 c1 _ HH.out.2.1).mono ?_
      rintro e w5 ⟨v, rfl, hr⟩
      obtain ⟨A2, c2, rfl, hn2⟩ := hr.num
      have e5 := (hr.bel.block q (blk_lt HH.out.2.2)).trans HH.out.2.2
      have HR := Aside0.mk (And.intro hr.bel (And.intro hn2 e5))
      have k2 : w5.cell? ⟨q, 2, none⟩ = some (.slice none 0 0) := blk_cell e5 2
      have f5 := frozen_of_row w5 q 2 _ _ e5
      clear hr hn2 e5
      go_wp2_with fail
      go_end0
      have h6 := heap_setCell_same w5 q 2 _ _ (.slice A2 1 c2) HR.out.2.2
      have hk6 := Kp.set_ HR.out.2.2 (by decide) 2 (.slice A2 1 c2)
      exact ⟨rfl, A1, c1, A2, c2, (HH.out.1.trans (But.of_below HR.out.1)).trans (But.set_ _ _), (HH.out.2.1.below HR.out.1).kp hk6, HR.out.2.1.kp hk6, h6⟩
end Go.Proofs.YtjpibgehhgaopaaGreat.Top
/- mont's Setup, Check, One, of one word. -/
namespace Go.Proofs.YtjpibgehhgaopaaGreat.Top
open Go.RowKit Go.Proofs.YtjpibgehhgaopaaGreatW.PrintWords Go.Proofs.YtjpibgehhgaopaaGreatW.PrintLast Go.Proofs.YtjpibgehhgaopaaGreat.PTopGenerated
set_option linter.unusedVariables false
set_option linter.unusedSimpArgs false

/-- A modulus of one word, as a value. -/
def Md (w : World) (v : Value) (M : Nat) : Prop := ∃ A1 c1 A2 c2, v = .agg #[.slice A1 1 c1, .int .u64 (KI M), .slice A2 1 c2] ∧ Num w A1 c1 [M] ∧ Num w A2 c2 [18446744073709551616 ^ 2 % M]
theorem Md.kp {w w' : World} {v : Value} {M : Nat} (h : Md w v M) (hk : Kp w w') : Md w' v M := by
  obtain ⟨A1, c1, A2, c2, e, h1, h2⟩ := h
  exact ⟨A1, c1, A2, c2, e, h1.kp hk, h2.kp hk⟩
theorem Md.below {w w' : World} {v : Value} {M : Nat} (h : Md w v M) (hb : Below w.heap.size w w') : Md w' v M := h.kp (Kp.of_below hb)
/-- Out of a turn of one block of one's own. -/
theorem But.below {q : Nat} {w w1 w' : World} (h : But q w1 w') (hb : Below w.heap.size w w1) (hq : w.heap.size ≤ q) : Below w.heap.size w w' :=
  ⟨h.os.trans hb.os, h.tape.trans hb.tape, h.output.trans hb.output, Nat.le_trans hb.size h.size, fun k hk => (h.block k (Nat.lt_of_lt_of_le hk hb.size) (by omega)).trans (hb.block k hk)⟩
set_option maxHeartbeats 1000000 in
set_option maxRecDepth 100000 in
theorem setupN (A : Option Addr) (c M : Nat) (w : World) (h : Num w A c [M]) (ho : M % 2 = 1) (h1 : 1 < M) :
    Calls Tryz.prog 43 #[.slice A 1 c] w fun e w' => ∃ v, e = .returned (.tuple #[v, .int .i64 0]) ∧ Md w' v M ∧ Below w.heap.size w w' := by
  have hmf : ∀ (fn : Fn) (first cap : Array Value) (w : World), (Instr.makeFunc fn first cap).run Tryz.prog w = .ok (.func fn first cap) w := fun _ _ _ _ => rfl
  have HF0 := Aside0.mk (((Fr.nil w).alloc (.cells #[.slice A 1 c] 26)).alloc (.cells #[.slice none 0 0, .int .u64 0, .slice none 0 0] 73))
  simp only [World.size_alloc, List.nil_append, List.cons_append] at HF0
  have HF1 := Aside0.mk (HF0.out.alloc (.cells #[.int .i64 0] 29))
  simp only [World.size_alloc, List.nil_append, List.cons_append] at HF1
  have HG := Aside0.mk (guardM 84 #[.pointer (some ⟨w.heap.size, 0, none⟩), .pointer (some ⟨w.heap.size + 1, 0, none⟩)] ((w.alloc (.cells #[.slice A 1 c] 26)).alloc (.cells #[.slice none 0 0, .int .u64 0, .slice none 0 0] 73))
    (fun w' => ∃ A1 c1 A2 c2, But (w.heap.size + 1) (((w.alloc (.cells #[.slice A 1 c] 26)).alloc (.cells #[.slice none 0 0, .int .u64 0, .slice none 0 0] 73)).alloc (.cells #[.int .i64 0] 29)) w' ∧ Num w' A1 c1 [M] ∧ Num w' A2 c2 [18446744073709551616 ^ 2 % M] ∧ w'.heap[w.heap.size + 1]? = some (.cells #[.slice A1 1 c1, .int .u64 (KI M), .slice A2 1 c2] 73 (0, 0)))
    (enters_of Tryz.func84 (by kernel_rfl) rfl)
    ((setup84 w.heap.size (w.heap.size + 1) A c M _ (h.fr HF1.out) ho h1 (HF1.out.cell 0 rfl 0 rfl) _ _ _ (HF1.out.at 1 rfl) (by omega)).mono fun e w' ⟨e1, A1, c1, A2, c2, b1, b2, b3, b4⟩ =>
      ⟨e1, (b1.block _ (by simp) (by simp)).trans (by have := HF1.out.at 2 rfl; simpa using this), A1, c1, A2, c2, b1, b2, b3, b4⟩))
  simp only [World.size_alloc] at HG
  clear h
  go_enter Tryz.func43, Tryz.ntmps43
  go_wp2_with fail
  refine HG.out.mono ?_
  rintro e w1 ⟨rfl, w2, g1, ⟨A1, c1, A2, c2, b1, b2, b3, b4⟩, rfl⟩
  have HB := Aside0.mk (show Below w.heap.size w (w2.setCell ⟨w.heap.size + 1 + 1, 0, none⟩ (.int .i64 0)) from (b1.below HF1.out.bel (by omega)).setCell (by simp; omega) _)
  have hk := Kp.set_ g1 (by decide) 0 (.int .i64 0)
  have hq : (w2.setCell ⟨w.heap.size + 1 + 1, 0, none⟩ (.int .i64 0)).heap[w.heap.size + 1]? = some (.cells #[.slice A1 1 c1, .int .u64 (KI M), .slice A2 1 c2] 73 (0, 0)) := by
    rw [Below.heap_setCell _ _ _ _ (by simp)]
    exact b4
  have HN := Aside0.mk (And.intro (b2.kp hk) (b3.kp hk))
  generalize w2.setCell ⟨w.heap.size + 1 + 1, 0, none⟩ (.int .i64 0) = w3 at *
  have HQ := Aside0.mk hq
  have k0 : w3.cell? ⟨w.heap.size + 1, 0, none⟩ = some (.slice A1 1 c1) := blk_cell hq 0
  have k1 : w3.cell? ⟨w.heap.size + 1, 1, none⟩ = some (.int .u64 (KI M)) := blk_cell hq 1
  have k2 : w3.cell? ⟨w.heap.size + 1, 2, none⟩ = some (.slice A2 1 c2) := blk_cell hq 2
  have f0 := frozen_of_row w3 (w.heap.size + 1) 0 _ _ hq
  have f1 := frozen_of_row w3 (w.heap.size + 1) 1 _ _ hq
  have f2 := frozen_of_row w3 (w.heap.size + 1) 2 _ _ hq
  obtain ⟨kk, hkk⟩ : ∃ kk, kk = KI M := ⟨_, rfl⟩
  rw [← hkk] at k1 HQ
  have HK := Aside0.mk hkk
  clear hkk b1 b2 b3 b4 g1 hk hq HG HF0 HF1
  go_wp2_with fail
  obtain ⟨t1, t2, t3⟩ := store3 HQ.out (.slice A1 1 c1) (.int .u64 kk) (.slice A2 1 c2)
  have HB4 := t2.below HB.out (by omega)
  generalize ((w3.setCell ⟨w.heap.size + 1, 0, none⟩ (.slice A1 1 c1)).setCell ⟨w.heap.size + 1, 1, none⟩ (.int .u64 kk)).setCell ⟨w.heap.size + 1, 2, none⟩ (.slice A2 1 c2) = w4 at *
  have q0 : w4.cell? ⟨w.heap.size + 1, 0, none⟩ = some (.slice A1 1 c1) := blk_cell t1 0
  have q1 : w4.cell? ⟨w.heap.size + 1, 1, none⟩ = some (.int .u64 kk) := blk_cell t1 1
  have q2 : w4.cell? ⟨w.heap.size + 1, 2, none⟩ = some (.slice A2 1 c2) := blk_cell t1 2
  refine bodyPost_ret (v := .tuple #[.agg #[.slice A1 1 c1, .int .u64 kk, .slice A2 1 c2], .int .i64 0]) (by simp [results, Tryz.f43, go_sem, q0, q1, q2]) rfl ?_
  exact ⟨_, rfl, ⟨A1, c1, A2, c2, by rw [HK.out], HN.out.1.kp t3, HN.out.2.kp t3⟩, HB4⟩
set_option maxHeartbeats 1000000 in
set_option maxRecDepth 100000 in
theorem checkN (v : Value) (M : Nat) (w : World) (h : Md w v M) (ho : M % 2 = 1) (h1 : 1 < M) :
    Calls Tryz.prog 246 #[v] w fun e w' => e = .returned (.bool true) ∧ Below w.heap.size w w' := by
  obtain ⟨A1, c1, A2, c2, rfl, hn1, hn2⟩ := h
  have HF0 := Aside0.mk ((Fr.nil w).alloc (.cells #[.slice A1 1 c1, .int .u64 (KI M), .slice A2 1 c2] 73))
  simp only [List.nil_append] at HF0
  have k0 : (w.alloc (.cells #[.slice A1 1 c1, .int .u64 (KI M), .slice A2 1 c2] 73)).cell? ⟨w.heap.size, 0, none⟩ = some (.slice A1 1 c1) := HF0.out.cell 0 rfl 0 rfl
  have k1 := True.intro
  have k2 := True.intro
  have HS := Aside0.mk (setupN A1 c1 M _ (hn1.fr HF0.out) ho h1)
  have HN := Aside0.mk (And.intro hn1 hn2)
  clear hn1 hn2
  go_enter Tryz.func246, Tryz.ntmps246
  go_wp2_with fail
  refine HS.out.mono ?_
  rintro e w1 ⟨v, rfl, ⟨B1, d1, B2, d2, rfl, hm1, hm2⟩, hb⟩
  have HF1 := Aside0.mk ((HF0.out.mv hb).alloc (.cells #[.slice B1 1 d1, .int .u64 (KI M), .slice B2 1 d2] 73))
  simp only [List.nil_append, List.cons_append] at HF1
  have hbx := below_alloc (Below.refl w1.heap.size w1) (.cells #[.slice B1 1 d1, .int .u64 (KI M), .slice B2 1 d2] 73)
  have HM := Aside0.mk (And.intro (hm1.below hbx) (hm2.below hbx))
  have j0 : (w1.alloc (.cells #[.slice B1 1 d1, .int .u64 (KI M), .slice B2 1 d2] 73)).cell? ⟨w.heap.size, 0, none⟩ = some (.slice A1 1 c1) := HF1.out.cell 0 rfl 0 rfl
  have j1 : (w1.alloc (.cells #[.slice B1 1 d1, .int .u64 (KI M), .slice B2 1 d2] 73)).cell? ⟨w.heap.size, 1, none⟩ = some (.int .u64 (KI M)) := HF1.out.cell 0 rfl 1 rfl
  have j2 : (w1.alloc (.cells #[.slice B1 1 d1, .int .u64 (KI M), .slice B2 1 d2] 73)).cell? ⟨w.heap.size, 2, none⟩ = some (.slice A2 1 c2) := HF1.out.cell 0 rfl 2 rfl
  have HE1 := Aside0.mk (fun k => equalN B1 A1 d1 c1 [M] [M] _ ((hm1.below hbx).below (pw_below_drewN (Below.refl _ _) k)) ((HN.out.1.fr HF1.out).below (pw_below_drewN (Below.refl _ _) k)) (by simp) (by simp))
  have HE2 := Aside0.mk (fun k => equalN B2 A2 d2 c2 [18446744073709551616 ^ 2 % M] [18446744073709551616 ^ 2 % M] _ ((hm2.below hbx).below (pw_below_drewN (Below.refl _ _) k)) ((HN.out.2.fr HF1.out).below (pw_below_drewN (Below.refl _ _) k)) (by simp) (by simp))
  have tk : ((KI M) == (KI M)) = true := by simp
  generalize KI M = kk at *
  clear hm1 hm2 hb k0 k1 k2 hbx
  go_wp2_with fail
  refine (HE1.out 0).mono ?_
  rintro e w2 ⟨rfl, k, rfl⟩
  go_wp2_with fail
  refine (HE2.out k).mono ?_
  rintro e w3 ⟨rfl, k', rfl⟩
  go_wp2_with fail
  go_ret
  exact ⟨rfl, (HF1.out.drewN _).bel⟩
set_option maxRecDepth 100000 in
theorem oneN (v : Value) (M : Nat) (w : World) (h : Md w v M) (ho : M % 2 = 1) (h1 : 1 < M) :
    Calls Tryz.prog 233 #[v] w fun e w' => ∃ v', e = .returned v' ∧ Res w w' v' [18446744073709551616 % M] := by
  have HC := Aside0.mk (fun w h => checkN v M w h ho h1)
  have HM := Aside0.mk h
  obtain ⟨A1, c1, A2, c2, rfl, hn1, hn2⟩ := h
  have HF0 := Aside0.mk ((Fr.nil w).alloc (.cells #[.slice A1 1 c1, .int .u64 (KI M), .slice A2 1 c2] 73))
  simp only [List.nil_append] at HF0
  have HN := Aside0.mk hn1
  have hm := Aside0.mk (HC.out _ (HM.out.below HF0.out.bel))
  have HP := Aside0.mk (fun w h => power1 A1 c1 M 1 w h (by omega) (by omega))
  simp only [Nat.pow_one] at HP
  have k0 : (w.alloc (.cells #[.slice A1 1 c1, .int .u64 (KI M), .slice A2 1 c2] 73)).cell? ⟨w.heap.size, 0, none⟩ = some (.slice A1 1 c1) := HF0.out.cell 0 rfl 0 rfl
  generalize 18446744073709551616 % M = r at *
  generalize KI M = kk at *
  clear hn1 hn2
  go_enter Tryz.func233, Tryz.ntmps233
  go_wp2_with fail
  refine hm.out.mono ?_
  rintro e w1 ⟨rfl, hb⟩
  have HF1 := Aside0.mk (HF0.out.mv hb)
  have j0 : w1.cell? ⟨w.heap.size, 0, none⟩ = some (.slice A1 1 c1) := HF1.out.cell 0 rfl 0 rfl
  clear hb k0
  go_wp2_with fail
  refine (HP.out _ (HN.out.fr HF1.out)).mono ?_
  rintro e w2 ⟨v2, rfl, h2⟩
  have H2 := Aside0.mk (h2.later HF1.out.bel)
  clear h2
  go_wp2_with fail
  go_ret
  exact ⟨v2, rfl, H2.out⟩
end Go.Proofs.YtjpibgehhgaopaaGreat.Top
