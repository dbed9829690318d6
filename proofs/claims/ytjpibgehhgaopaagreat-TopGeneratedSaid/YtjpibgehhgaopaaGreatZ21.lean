/- key's panics and what recovers them. -/
import Derived.WalkLawsBesides
import Derived.Laws.Tables
import Derived.Laws.Rows
import Derived.Test.YtjpibgehhgaopaaGreatZ20
namespace Go.Proofs.YtjpibgehhgaopaaGreat.Top
open Go.RowKit Go.Proofs.YtjpibgehhgaopaaGreatW.PrintWords Go.Proofs.YtjpibgehhgaopaaGreatW.PrintLast Go.Proofs.YtjpibgehhgaopaaGreat.PTopGenerated
set_option linter.unusedVariables false
set_option linter.unusedSimpArgs false

set_option maxRecDepth 100000 in
theorem mustKbad (w : World) : Calls Tryz.prog 74 #[.bool false] w fun x w' => x = .panicked [{ v := .iface 95 (.agg #[]), recovered := false }] ∧ w' = w := by
  go_enter Tryz.func74, Tryz.ntmps74
  go_wp2_with fail
  exact ⟨rfl, rfl, rfl⟩
theorem size28 : (Tryz.prog.info? 28).map (·.size) = some 8 := by kernel_rfl
theorem But.row {w : World} {g : Nat} {cs : Array Value} : But g w (w.setRow g cs) := ⟨rfl, rfl, rfl, by simp, fun k _ hk => setRow_other w g k cs hk⟩
theorem assert_same {t : TypeId} {fs : Array Field} (h : Tryz.prog.underlying t = some (.struct fs)) (v : Value) (w : World) : (Instr.typeAssert (.iface t v) 20 t true).run Tryz.prog w = .ok (.tuple #[v, .bool true]) w := by
  simp [Instr.typeAssert, run_underlying h, go_sem, Result.andThen]
/-- A key of noughts. -/
def zeroKey : Array Value := #[.slice none 0 0, .int .u64 0, .slice none 0 0, .slice none 0 0, .slice none 0 0, .slice none 0 0, .slice none 0 0, .slice none 0 0]
theorem key_one (a0 : Value) (a1 : Int) (a2 a3 a4 a5 a6 a7 : Value) (h0 : a0.oneCell' = true) (h2 : a2.oneCell' = true) (h3 : a3.oneCell' = true) (h4 : a4.oneCell' = true) (h5 : a5.oneCell' = true) (h6 : a6.oneCell' = true) (h7 : a7.oneCell' = true) : (#[a0, .int .u64 a1, a2, a3, a4, a5, a6, a7] : Array Value).all (·.oneCell') = true := by
  simp [h0, h2, h3, h4, h5, h6, h7]
  rfl
theorem zero_one : zeroKey.all (·.oneCell') = true := key_one _ _ _ _ _ _ _ _ rfl rfl rfl rfl rfl rfl rfl
set_option maxRecDepth 100000 in
set_option maxHeartbeats 1000000 in
theorem saved39 (p q : Nat) (old : Array Value) (b0 : Value) (w : World) (hp : w.heap[p]? = some (.cells old 28 (0, 0))) (h8 : old.size = 8) (hq : w.heap[q]? = some (.cells #[b0] 29 (0, 0))) (hpq : p ≠ q) :
    CallsD Tryz.prog 39 #[.pointer (some ⟨p, 0, none⟩), .pointer (some ⟨q, 0, none⟩)] (.panicking [{ v := .iface 95 (.agg #[]), recovered := false }]) w fun e u' w' => e = .returned (.tuple #[]) ∧ u' = .panicking [{ v := .iface 95 (.agg #[]), recovered := true }] ∧
      w'.heap[p]? = some (.cells zeroKey 28 (0, 0)) ∧ w'.heap[q]? = some (.cells #[.int .i64 190] 29 (0, 0)) ∧ ∀ B, B ≤ p → B ≤ q → B ≤ w.heap.size → Below B w w' := by
  have hta := assert_same Tryz.underlying95
  have hp1 := blk_alloc hp (.cells #[] 95)
  have hq1 := blk_alloc hq (.cells #[] 95)
  have hp2 := setRow_heap _ p old zeroKey 28 (0, 0) hp1
  have hq2 := (setRow_other (w.alloc (.cells #[] 95)) p q zeroKey (fun e => hpq e.symm)).trans hq1
  have H := Aside0.mk (And.intro hp1 (And.intro hp2 hq2))
  have q0 : ((w.alloc (.cells #[] 95)).setRow p zeroKey).cell? ⟨q, 0, none⟩ = some b0 := blk_cell hq2 0
  have q1 := frozen_of_row _ q 0 _ _ hq2
  clear hp hq hp1 hq1 hp2 hq2
  refine callsD_of_wpS Tryz.func39 rfl fun c₀ cs hu => ?_
  simp only [Tryz.ntmps39, List.size_toArray, List.length_cons, List.length_nil, Nat.reduceAdd, Nat.reduceSub, Array.replicate_succ, Array.replicate_zero, List.push_toArray, List.append_toArray, List.nil_append, List.cons_append]
  apply wpS_seq
  apply wpS_region
  simp [wpOpsS, go_sem, recoverD, hu, Exit.thenS]
  refine wpS_of_wp ?_
  go_wp2_with (refine wpList_store_row rfl 28 (.tmp 0) (.tmp 16) rfl p zeroKey rfl rfl 28 _ H.out.1 size28 h8 zero_one ?_)
  refine ⟨rfl, _, rfl, _, results_none rfl _ _ _, rfl, rfl, ?_, ?_, fun B h1 h2 h3 => ?_⟩
  · rw [Below.heap_setCell _ _ _ _ hpq]
    exact H.out.2.1
  · exact heap_setCell_same _ q 0 _ _ _ H.out.2.2
  · have hb := (Below.refl B w).alloc h3 (.cells #[] 95)
    have hb2 : Below B w ((w.alloc (.cells #[] 95)).setRow p zeroKey) := hb.trans ⟨rfl, rfl, rfl, by simp, fun k hk => setRow_other _ p k zeroKey (by omega)⟩
    exact hb2.setCell h2 _
end Go.Proofs.YtjpibgehhgaopaaGreat.Top
/- key's made, by one word. -/
namespace Go.Proofs.YtjpibgehhgaopaaGreat.Top
open Go.RowKit Go.Proofs.YtjpibgehhgaopaaGreatW.PrintWords Go.Proofs.YtjpibgehhgaopaaGreatW.PrintLast Go.Proofs.YtjpibgehhgaopaaGreat.PTopGenerated
set_option linter.unusedVariables false
set_option linter.unusedSimpArgs false

/-- Numbers in memory, side by side. -/
def NL (W : World) (L : List (Option Addr × Nat × List Nat)) : Prop := ∀ x ∈ L, Num W x.1 x.2.1 x.2.2
theorem NL.nil (W : World) : NL W [] := fun x h => by simp at h
theorem NL.kp {W W' : World} {L : List (Option Addr × Nat × List Nat)} (h : NL W L) (hk : Kp W W') : NL W' L := fun x hx => (h x hx).kp hk
theorem NL.below {W W' : World} {L : List (Option Addr × Nat × List Nat)} (h : NL W L) (hb : Below W.heap.size W W') : NL W' L := h.kp (Kp.of_below hb)
theorem NL.at {W : World} {L : List (Option Addr × Nat × List Nat)} (h : NL W L) (i : Nat) {A : Option Addr} {c : Nat} {a : List Nat} (hi : L[i]? = some (A, c, a)) : Num W A c a := h _ (List.mem_of_getElem? hi)
theorem NL.snoc {W : World} {L : List (Option Addr × Nat × List Nat)} (h : NL W L) {A : Option Addr} {c : Nat} {a : List Nat} (ha : Num W A c a) : NL W (L ++ [(A, c, a)]) := fun x hx => by
  rcases List.mem_append.1 hx with hx | hx
  · exact h x hx
  · rw [List.mem_singleton] at hx; subst hx; exact ha
theorem undoF_lt {e M : Nat} (hM : 0 < M) : undoF e M < M := by
  unfold undoF
  simp only []
  split <;> exact Nat.mod_lt _ hM
theorem undoLw (A A2 : Option Addr) (c c2 e M : Nat) (w : World) (h1 : Num w A c [e]) (h2 : Num w A2 c2 (lw M)) (hM : 1 < M) (hM2 : M < 18446744073709551616 ^ 2) (hg : Nat.gcd e M = 1) :
    Calls Tryz.prog 80 #[.slice A 1 c, .slice A2 (lw M).length c2] w fun e' w' => ∃ v, e' = .returned v ∧ Res w w' v (digs (lw M).length (undoF e M)) := by
  have h := undoN A A2 c c2 e M (lw M).length w h1 (by rw [lw_len]; exact h2) (by rw [lw_len]; omega) (lw_le2 (by omega) hM2) hM (lw_lt M) hg
  exact h
theorem comF_lt {p q : Nat} (hp : 2 ≤ p) (hq : 2 ≤ q) : comF p q < p * q ∧ q - 1 ≤ comF p q := by
  have hg : 0 < Nat.gcd (p - 1) (q - 1) := Nat.gcd_pos_of_pos_left _ (by omega)
  have hd : 0 < (p - 1) / Nat.gcd (p - 1) (q - 1) := Nat.div_pos (Nat.le_of_dvd (by omega) (Nat.gcd_dvd_left _ _)) hg
  refine ⟨?_, by unfold comF; exact Nat.le_mul_of_pos_left _ hd⟩
  unfold comF
  have h1 : (p - 1) / Nat.gcd (p - 1) (q - 1) ≤ p - 1 := Nat.div_le_self _ _
  have h2 := Nat.mul_le_mul_right (q - 1) h1
  have h3 : (p - 1) * (q - 1) < p * q := Nat.mul_lt_mul'' (by omega) (by omega)
  omega
/-- What made asks. -/
structure MadeA (p q e : Nat) : Prop where
  pw : p < 18446744073709551616
  qw : q < 18446744073709551616
  p16 : 65536 ≤ p
  q16 : 65536 ≤ q
  po : p % 2 = 1
  qo : q % 2 = 1
  e3 : 3 ≤ e
  eo : e % 2 = 1
  e32 : e < 4294967296
  co : Nat.gcd e (comF p q) = 1
theorem lw_top {N : Nat} (h : N ≠ 0) : (lw N).getD ((lw N).length - 1) 0 ≠ 0 := by
  have hw : 1 ≤ wl N := by
    have := bl_pos.2 h
    unfold wl
    omega
  have h2 := top_word (lw N) (lw_w N) (by rw [lw_val]; omega)
  rw [lw_val] at h2
  have e : (lw N).length = wl N := by rw [lw_len]; omega
  rw [e]
  intro h0
  rw [h0, bl_zero] at h2
  have := h2.2
  unfold wl at this hw
  omega
theorem lw_low (N : Nat) : (lw N).getD 0 0 = N % 18446744073709551616 := by
  unfold lw
  obtain ⟨k, hk⟩ : ∃ k, max 1 (wl N) = k + 1 := ⟨max 1 (wl N) - 1, by omega⟩
  rw [hk, digs]
  rfl
theorem prod_facts {p q e : Nat} (h : MadeA p q e) : p * q < 18446744073709551616 ^ 2 ∧ p * q ≠ 0 ∧ (p * q) % 2 = 1 ∧ 32 ≤ bl (p * q) ∧ bl (p * q) ≤ 8192 := by
  have h1 : p * q < 18446744073709551616 ^ 2 := by
    rw [Nat.pow_two]
    exact Nat.mul_lt_mul'' h.pw h.qw
  have h2 : 2 ^ 32 ≤ p * q := by
    have := Nat.mul_le_mul h.p16 h.q16
    exact Nat.le_trans (by decide) this
  have h3 := lt_bl h2
  have h4 : bl (p * q) ≤ 128 := bl_le (Nat.lt_of_lt_of_le h1 (by decide))
  refine ⟨h1, ?_, ?_, by omega, by omega⟩
  · intro e0
    rw [e0] at h2
    revert h2
    decide
  · rw [Nat.mul_mod, h.po, h.qo]
/-- What a key is made of. -/
structure KeyN where
  n : Nat
  e : Nat
  d : Nat
  p : Nat
  q : Nat
  dp : Nat
  dq : Nat
  qi : Nat
/-- The key of two primes. -/
def keyF (p q e : Nat) : KeyN :=
  let d := undoF e (comF p q)
  ⟨p * q, e, d, p, q, d % (p - 1), d % (q - 1), undoF (q % p) p⟩
/-- A key's cells. -/
structure KeyC (W : World) (cs : Array Value) (k : KeyN) : Prop where
  has : ∃ n AN cN AD cD AP cP AQ cQ A5 c5 A6 c6 A7 c7, cs = #[.slice AN n cN, .int .u64 (k.e : Int), .slice AD n cD, .slice AP 1 cP, .slice AQ 1 cQ, .slice A5 1 c5, .slice A6 1 c6, .slice A7 1 c7] ∧
    n = (lw k.n).length ∧ Num W AN cN (lw k.n) ∧ Num W AD cD (digs n k.d) ∧ Num W AP cP [k.p] ∧ Num W AQ cQ [k.q] ∧ Num W A5 c5 [k.dp] ∧ Num W A6 c6 [k.dq] ∧ Num W A7 c7 [k.qi]
/-- What made comes to. -/
def MadeP (w : World) (p q e : Nat) (x : Ending) (w' : World) : Prop :=
  (Nat.gcd p q ≠ 1 ∧ x = .panicked [{ v := .iface 95 (.agg #[]), recovered := false }] ∧ Below w.heap.size w w') ∨
  (Nat.gcd p q = 1 ∧ ∃ cs, x = .returned (.agg cs) ∧ KeyC w' cs (keyF p q e) ∧ Below w.heap.size w w')
theorem bits_more {p : Nat} (h : 2 ≤ p) (hw : p < 18446744073709551616) : decide ((bl p : Int) > 1) = true ∧ decide ((bl p : Int) ≤ 8192) = true ∧ decide (1 < bl p) = true ∧ decide (bl p ≤ 8192) = true := by
  have h1 := lt_bl (N := p) (k := 1) h
  have h2 := bl_le64 hw
  exact ⟨by rw [decide_eq_true_eq]; omega, by rw [decide_eq_true_eq]; omega, by rw [decide_eq_true_eq]; omega, by rw [decide_eq_true_eq]; omega⟩
set_option maxHeartbeats 4000000 in
set_option maxRecDepth 100000 in
theorem madeN (A A2 : Option Addr) (c c2 p q e : Nat) (w : World) (h1 : Num w A c [p]) (h2 : Num w A2 c2 [q]) (ha : MadeA p q e) :
    Calls Tryz.prog 40 #[.slice A 1 c, .slice A2 1 c2, .int .u64 (e : Int)] w (MadeP w p q e) := by
  have HA := Aside0.mk ha
  have H := Aside0.mk (And.intro h1 h2)
  have HF0 := Aside0.mk (((Fr.nil w).alloc (.cells zeroKey 28)).alloc (.cells #[.slice A 1 c, .slice A2 1 c2] 26))
  simp only [List.nil_append, List.cons_append, World.size_alloc] at HF0
  have hpb := bits_more (show 2 ≤ p by have := ha.p16; omega) ha.pw
  have hqb := bits_more (show 2 ≤ q by have := ha.q16; omega) ha.qw
  have hap := and_oneN p ha.pw
  have haq := and_oneN q ha.qw
  rw [ha.po] at hap
  rw [ha.qo] at haq
  have HTp := Aside0.mk (And.intro hpb hap)
  have HTq := Aside0.mk (And.intro hqb haq)
  clear h1 h2 ha hpb hqb hap haq
  go_enter Tryz.func40, Tryz.ntmps40
  go_wp2_with fail
  obtain ⟨b6, hb6⟩ : ∃ b6, b6 = w.heap.size := ⟨_, rfl⟩
  obtain ⟨W0, hW0⟩ : ∃ W0, W0 = (w.alloc (.cells zeroKey 28)).alloc (.cells #[.slice A 1 c, .slice A2 1 c2] 26) := ⟨_, rfl⟩
  have hW0' := hW0
  unfold zeroKey at hW0'
  rw [← hW0, ← hb6] at HF0
  rw [← hW0', ← hb6]
  have HB6 := Aside0.mk hb6
  clear hW0 hW0' hb6
  go_loopw [21] (fun v21 wr => ∃ i : Nat, v21 = .int .i64 (i : Int) ∧ Aside0 (i ≤ 2) ∧ Aside0 (wr = W0)) (fun v21 _ => 2 - (intOf v21).toNat)
  case atStart => exact ⟨0, rfl, ⟨by omega⟩, ⟨rfl⟩⟩
  case round =>
    obtain ⟨i, rfl, HI, HW⟩ := hrel
    obtain rfl := HW.out
    have hi2 := HI.out
    obtain rfl | rfl | rfl : i = 0 ∨ i = 1 ∨ i = 2 := by omega
    · have c0 := HF0.out.cell 1 rfl 0 rfl
      have HBt := Aside0.mk (bitsN A c [p] wr (H.out.1.fr HF0.out) (by simp))
      rw [val_one] at HBt
      obtain ⟨ad, rfl, hc⟩ := H.out.1.one
      have hc0 := hc _ HF0.out.bel
      obtain ⟨⟨t1, t2, t3, t4⟩, t5⟩ := HTp.out
      generalize bl p = bp at *
      clear hc hi2
      go_wp2_with fail
      refine HBt.out.mono ?_
      rintro x w' ⟨rfl, rfl⟩
      go_wp2_with fail
      refine HBt.out.mono ?_
      rintro x w' ⟨rfl, rfl⟩
      go_wp2_with fail
      refine (mustK _).mono ?_
      rintro x w' ⟨rfl, rfl⟩
      go_wp2_with fail
      exact ⟨⟨1, rfl, ⟨by omega⟩, ⟨trivial⟩⟩, by decide⟩
    · have c0 := HF0.out.cell 1 rfl 1 rfl
      have HBt := Aside0.mk (bitsN A2 c2 [q] wr (H.out.2.fr HF0.out) (by simp))
      rw [val_one] at HBt
      obtain ⟨ad, rfl, hc⟩ := H.out.2.one
      have hc0 := hc _ HF0.out.bel
      obtain ⟨⟨t1, t2, t3, t4⟩, t5⟩ := HTq.out
      generalize bl q = bp at *
      clear hc hi2
      go_wp2_with fail
      refine HBt.out.mono ?_
      rintro x w' ⟨rfl, rfl⟩
      go_wp2_with fail
      refine HBt.out.mono ?_
      rintro x w' ⟨rfl, rfl⟩
      go_wp2_with fail
      refine (mustK _).mono ?_
      rintro x w' ⟨rfl, rfl⟩
      go_wp2_with fail
      exact ⟨⟨2, rfl, ⟨by omega⟩, ⟨trivial⟩⟩, by decide⟩
    · have HL1 := Aside0.mk (leastL A c 1 [p] wr (H.out.1.fr HF0.out) rfl (by omega) (by omega))
      rw [val_one, lw_one HA.out.pw] at HL1
      have HF1 := Aside0.mk (HF0.out.sub (L' := [(b6, .cells zeroKey 28)]) (.cons_cons _ (.cons _ .slnil)))
      clear hi2 HW HI HF0
      go_wp2_with fail
      refine HL1.out.mono ?_
      rintro x w3 ⟨v3, rfl, hr3⟩
      obtain ⟨A3, c3, rfl, hn3⟩ := hr3.num
      have HF3 := Aside0.mk (HF1.out.mv hr3.bel)
      have HL2 := Aside0.mk (leastL A2 c2 1 [q] w3 (H.out.2.fr HF3.out) rfl (by omega) (by omega))
      rw [val_one, lw_one HA.out.qw] at HL2
      have HN3 := Aside0.mk ((NL.nil w3).snoc hn3)
      clear hr3 hn3 HF1 HL1
      go_wp2_with fail
      refine HL2.out.mono ?_
      rintro x w4 ⟨v4, rfl, hr4⟩
      obtain ⟨A4, c4, rfl, hn4⟩ := hr4.num
      have HF4 := Aside0.mk (HF3.out.mv hr4.bel)
      have HN4 := Aside0.mk ((HN3.out.below hr4.bel).snoc hn4)
      simp only [List.nil_append, List.cons_append] at HN4
      clear hr4 hn4 HF3 HN3 HL2
      go_wp2_with fail
      refine (coprime1 A3 A4 c3 c4 p q _ (HN4.out.at 0 rfl) (HN4.out.at 1 rfl)).mono ?_
      rintro x w5 ⟨rfl, hb5⟩
      have HF5 := Aside0.mk (HF4.out.mv hb5)
      have HN5 := Aside0.mk (HN4.out.below hb5)
      clear hb5 HF4 HN4
      by_cases hg : Nat.gcd p q = 1
      · have HG := Aside0.mk hg
        rw [decide_eq_true hg]
        clear hg
        go_wp2_with fail
        refine (mustK _).mono ?_
        rintro x w' ⟨rfl, rfl⟩
        go_wp2_with fail
        have HPF := Aside0.mk (prod_facts HA.out)
        have HM := Aside0.mk (mulN A3 A4 c3 c4 [p] [q] w' (HN5.out.at 0 rfl) (HN5.out.at 1 rfl) (by simp) (by simp))
        simp only [val_one, List.length_singleton] at HM
        obtain ⟨N, hN⟩ : ∃ N, N = p * q := ⟨_, rfl⟩
        rw [← hN] at HM HPF
        have HNe := Aside0.mk hN
        clear hN
        refine HM.out.mono ?_
        rintro x w6 ⟨v6, rfl, hr6⟩
        obtain ⟨A6, c6, rfl, hn6⟩ := hr6.num
        rw [digs_length]
        have HF6 := Aside0.mk (HF5.out.mv hr6.bel)
        have HN6 := Aside0.mk (HN5.out.below hr6.bel)
        have HL6 := Aside0.mk (leastL A6 c6 (1 + 1) _ w6 hn6 (by simp) (by omega) (by omega))
        rw [val_digs_lt HPF.out.1] at HL6
        clear hr6 hn6 HF5 HN5 HM
        go_wp2_with fail
        refine HL6.out.mono ?_
        rintro x w7 ⟨v7, rfl, hr7⟩
        obtain ⟨AN, cN, rfl, hn7⟩ := hr7.num
        have hb8 := below_alloc (Below.refl _ w7) (.cells #[.slice AN (lw N).length cN, .int .u64 (e : Int), .slice none 0 0, .slice none 0 0, .slice none 0 0, .slice none 0 0, .slice none 0 0, .slice none 0 0] 28)
        have HF8 := Aside0.mk ((HF6.out.mv hr7.bel).alloc (.cells #[.slice AN (lw N).length cN, .int .u64 (e : Int), .slice none 0 0, .slice none 0 0, .slice none 0 0, .slice none 0 0, .slice none 0 0, .slice none 0 0] 28))
        have HN8 := Aside0.mk (((HN6.out.below hr7.bel).snoc hn7).below hb8)
        simp only [List.nil_append, List.cons_append] at HF8 HN8
        obtain ⟨nN, hnN⟩ : ∃ nN, nN = (lw N).length := ⟨_, rfl⟩
        rw [← hnN] at HF8 HN8 ⊢
        have HnN := Aside0.mk hnN
        have HPub := Aside0.mk (publicN AN cN (lw N) e _ (HN8.out.at 2 rfl) (by rw [lw_len]; omega) (by have := lw_le2 (n := 2) (by omega) HPF.out.1; omega) (lw_top HPF.out.2.1) (by rw [lw_low, Nat.mod_mod_of_dvd _ (by decide)]; exact HPF.out.2.2.1) (by rw [lw_val]; exact HPF.out.2.2.2.1) (by rw [lw_val]; exact HPF.out.2.2.2.2) HA.out.e3 HA.out.eo HA.out.e32)
        rw [← hnN] at HPub
        clear hr7 hn7 hb8 HF6 HN6 HL6 hnN
        go_wp2_with fail
        refine HPub.out.mono ?_
        rintro x W8 ⟨rfl, rfl⟩
        go_wp2_with fail
        refine (mustK _).mono ?_
        rintro x W8 ⟨rfl, rfl⟩
        obtain ⟨bk, hbk⟩ : ∃ bk, bk = w7.heap.size := ⟨_, rfl⟩
        obtain ⟨W8, hW8⟩ : ∃ W8, W8 = w7.alloc (.cells #[.slice AN nN cN, .int .u64 (e : Int), .slice none 0 0, .slice none 0 0, .slice none 0 0, .slice none 0 0, .slice none 0 0, .slice none 0 0] 28) := ⟨_, rfl⟩
        rw [← hbk, ← hW8] at HF8
        rw [← hW8] at HN8
        rw [← hbk, ← hW8]
        clear hbk hW8 HPub
        have hp2 : 2 ≤ p := by have := HA.out.p16; omega
        have hq2 : 2 ≤ q := by have := HA.out.q16; omega
        have HCm := Aside0.mk (common1 A3 A4 c3 c4 p q W8 (HN8.out.at 0 rfl) (HN8.out.at 1 rfl) hp2 hq2)
        have HL := Aside0.mk (And.intro (comF_lt hp2 hq2) HA.out.co)
        have HKF := Aside0.mk (show keyF p q e = ⟨p * q, e, undoF e (comF p q), p, q, undoF e (comF p q) % (p - 1), undoF e (comF p q) % (q - 1), undoF (q % p) p⟩ from rfl)
        rw [← HNe.out] at HKF HL
        obtain ⟨L, hL⟩ : ∃ L, L = comF p q := ⟨_, rfl⟩
        rw [← hL] at HCm HL HKF
        clear hL hp2 hq2
        go_wp2_with fail
        refine HCm.out.mono ?_
        rintro x w9 ⟨v9, rfl, hr9⟩
        obtain ⟨AL, cL, rfl, hn9⟩ := hr9.num
        have HF9 := Aside0.mk (HF8.out.mv hr9.bel)
        have HN9 := Aside0.mk ((HN8.out.below hr9.bel).snoc hn9)
        simp only [List.nil_append, List.cons_append] at HN9
        clear hr9 hn9 HF8 HN8 HCm
        go_wp2_with fail
        refine (mustK _).mono ?_
        rintro x W8 ⟨rfl, rfl⟩
        have heW : e < 18446744073709551616 := by have := HA.out.e32; omega
        have hb10 := below_alloc (Below.refl _ W8) (.cells #[.int .u64 (e : Int)] 23)
        have HF10 := Aside0.mk (HF9.out.mv hb10)
        have HN10 := Aside0.mk (HN9.out.below hb10)
        have HM2 := Aside0.mk (show L < 18446744073709551616 ^ 2 from Nat.lt_trans HL.out.1.1 HPF.out.1)
        have HL1 := Aside0.mk (show 1 < L from by have := HL.out.1.2; have := HA.out.q16; omega)
        have HU := Aside0.mk (undoLw (some ⟨W8.heap.size, 0, none⟩) AL 1 cL e L _ (num_of_blk (l := [e]) (heap_alloc_new W8 _) (W64_one heW) (by simp) (by simp)) (HN10.out.at 3 rfl) HL1.out HM2.out HL.out.2)
        clear hb10 HF9 HN9 heW
        go_wp2_with fail
        refine HU.out.mono ?_
        rintro x w11 ⟨v11, rfl, hr11⟩
        obtain ⟨AD, cD, rfl, hn11⟩ := hr11.num
        rw [digs_length]
        have HF11' := Aside0.mk (HF10.out.mv hr11.bel)
        have k11 := HF11'.out.cell 1 rfl 2 rfl
        have f11 := HF11'.out.frozen 1 rfl 2
        have HF11 := Aside0.mk (HF11'.out.set_ 1 rfl 2 (.slice AD (lw L).length cD))
        have HN11 := Aside0.mk (((HN10.out.below hr11.bel).snoc hn11).kp (HF11'.out.kp_set 1 rfl (by decide) 2 (.slice AD (lw L).length cD)))
        simp only [List.nil_append, List.cons_append, List.set, List.setIfInBounds_toArray] at HF11 HN11
        obtain ⟨nL, hnL⟩ : ∃ nL, nL = (lw L).length := ⟨_, rfl⟩
        rw [← hnL] at HF11 HN11 ⊢
        have HnL := Aside0.mk hnL
        obtain ⟨D, hD⟩ : ∃ D, D = undoF e L := ⟨_, rfl⟩
        rw [← hD] at HN11 HKF
        have HD := Aside0.mk (show D < L ∧ D < 18446744073709551616 ^ nL from by
          have h := undoF_lt (e := e) (show 0 < L by have := HL1.out; omega)
          rw [hD, hnL]
          exact ⟨h, Nat.lt_trans h (lw_lt L)⟩)
        clear hr11 hn11 HF10 HN10 HU hnL hD HF11'
        have hp0 : p ≠ 0 := by have := HA.out.p16; omega
        have hqp : q % p < p := Nat.mod_lt _ (Nat.pos_of_ne_zero hp0)
        have hqpw : q % p < 18446744073709551616 := Nat.lt_trans hqp HA.out.pw
        have HQ := Aside0.mk (fun W h1 h2 => quickN A4 A3 c4 c3 [q] [p] W h1 h2 (by simp) (by simp) (by simp) (by rw [val_one]; exact hp0) (by rw [val_one]; have := wl_one_le HA.out.pw; omega))
        simp only [val_one, List.length_singleton] at HQ
        rw [digs_one hqpw] at HQ
        have HLq := Aside0.mk (fun W Ar cr (h : Num W Ar cr [q % p]) => leastL Ar cr 1 [q % p] W h rfl (by omega) (by omega))
        rw [val_one, lw_one hqpw] at HLq
        have hgq : Nat.gcd (q % p) p = 1 := by rw [← Nat.gcd_rec p q]; exact HG.out
        have hqi : undoF (q % p) p < 18446744073709551616 := Nat.lt_trans (undoF_lt (Nat.pos_of_ne_zero hp0)) HA.out.pw
        have HUq := Aside0.mk (fun W Ar cr (h : Num W Ar cr [q % p]) (h2 : Num W A3 c3 [p]) => undoN Ar A3 cr c3 (q % p) p 1 W h (by rw [digs_one HA.out.pw]; exact h2) (by omega) (by omega) (by have := HA.out.p16; omega) (by rw [Nat.pow_one]; exact HA.out.pw) hgq)
        rw [digs_one hqi] at HUq
        generalize undoF (q % p) p = QI at *
        generalize q % p = qp at *
        have HQI := Aside0.mk hqi
        clear hp0 hqp hqpw hgq hqi
        go_wp2_with fail
        refine (HQ.out _ (HN11.out.at 1 rfl) (HN11.out.at 0 rfl)).mono ?_
        rintro x w12 ⟨v12, v13, rfl, hr12, hr13⟩
        obtain ⟨A13, c13, rfl, hn13⟩ := hr13.num
        have HF13 := Aside0.mk (HF11.out.mv hr13.bel)
        have HN13 := Aside0.mk ((HN11.out.below hr13.bel).snoc hn13)
        simp only [List.nil_append, List.cons_append] at HN13
        clear hr12 hr13 hn13 HF11 HN11 HQ k11 f11
        go_wp2_with fail
        refine (HLq.out _ _ _ (HN13.out.at 5 rfl)).mono ?_
        rintro x w14 ⟨v14, rfl, hr14⟩
        obtain ⟨A14, c14, rfl, hn14⟩ := hr14.num
        have HF14 := Aside0.mk (HF13.out.mv hr14.bel)
        have HN14 := Aside0.mk ((HN13.out.below hr14.bel).snoc hn14)
        simp only [List.nil_append, List.cons_append] at HN14
        clear hr14 hn14 HF13 HN13 HLq
        go_wp2_with fail
        refine (HUq.out _ _ _ (HN14.out.at 6 rfl) (HN14.out.at 0 rfl)).mono ?_
        rintro x w15 ⟨v15, rfl, hr15⟩
        obtain ⟨A15, c15, rfl, hn15⟩ := hr15.num
        have HF15 := Aside0.mk (HF14.out.mv hr15.bel)
        have HN15 := Aside0.mk (((HN14.out.below hr15.bel).snoc hn15))
        simp only [List.nil_append, List.cons_append] at HN15
        clear hr15 hn15 HF14 HN14 HUq
        have HM1 := Aside0.mk (fun W h1 h2 => modulo1 AD A3 cD c3 nL D p W h1 (by rw [HnL.out, lw_len]; omega) (by have := lw_le2 (n := 2) (by omega) HM2.out; rw [HnL.out]; omega) HD.out.2 h2 (by have := HA.out.p16; omega))
        have HM3 := Aside0.mk (fun W h1 h2 => modulo1 AD A4 cD c4 nL D q W h1 (by rw [HnL.out, lw_len]; omega) (by have := lw_le2 (n := 2) (by omega) HM2.out; rw [HnL.out]; omega) HD.out.2 h2 (by have := HA.out.q16; omega))
        obtain ⟨DP, hDP⟩ : ∃ DP, DP = D % (p - 1) := ⟨_, rfl⟩
        obtain ⟨DQ, hDQ⟩ : ∃ DQ, DQ = D % (q - 1) := ⟨_, rfl⟩
        rw [← hDP] at HM1 HKF
        rw [← hDQ] at HM3 HKF
        clear hDP hDQ
        have k2 := HF15.out.cell 1 rfl 2 rfl
        go_wp2_with fail
        go_region_held3 (fun W => W.cell? ⟨bk, 2, none⟩ = some (.slice AD nL cD)) (first | go_keep | exact (by assumption)) (first | (go_at_call 82; refine (HM3.out _ (HN16.out.at 4 rfl) (HN16.out.at 1 rfl)).mono ?_; rintro x w17 ⟨v17, rfl, hr17⟩; obtain ⟨A17, c17, rfl, hn17⟩ := hr17.num; have HF17 := Aside0.mk (HF16.out.mv hr17.bel); have HN17 := Aside0.mk ((HN16.out.below hr17.bel).snoc hn17); have k4 := HF17.out.cell 1 rfl 2 rfl; have k5 := HF17.out.cell 1 rfl 5 rfl; have k6 := HF17.out.cell 1 rfl 6 rfl; have f5 := HF17.out.frozen 1 rfl 5; have f6 := HF17.out.frozen 1 rfl 6; have HF18 := Aside0.mk (HF17.out.set_ 1 rfl 5 (.slice A16 1 c16)); have HF19 := Aside0.mk (HF18.out.set_ 1 rfl 6 (.slice A17 1 c17)); have g4 := HF18.out.cell 1 rfl 2 rfl; have g5 := HF19.out.cell 1 rfl 2 rfl; have HN19 := Aside0.mk ((HN17.out.kp (HF17.out.kp_set 1 rfl (by decide) 5 (.slice A16 1 c16))).kp (HF18.out.kp_set 1 rfl (by decide) 6 (.slice A17 1 c17))); clear hr17 hn17) | (go_at_call 82; refine (HM1.out _ ((HN15.out.below (pw_below_drewN (Below.refl _ _) _)).at 4 rfl) ((HN15.out.below (pw_below_drewN (Below.refl _ _) _)).at 0 rfl)).mono ?_; rintro x w16 ⟨v16, rfl, hr16⟩; obtain ⟨A16, c16, rfl, hn16⟩ := hr16.num; have HF16 := Aside0.mk ((HF15.out.drewN _).mv hr16.bel); have HN16 := Aside0.mk (((HN15.out.below (pw_below_drewN (Below.refl _ _) _)).below hr16.bel).snoc hn16); have k3 := HF16.out.cell 1 rfl 2 rfl; clear hr16 hn16))
        simp only [List.nil_append, List.cons_append, List.set, List.setIfInBounds_toArray] at HF19 HN19
        clear HF18 HF17 HN17 HF16 HN16 HF15 HN15 k2 k3 k4 k5 k6 f5 f6 g4 g5 HM1 HM3
        obtain ⟨w19, hw19⟩ : ∃ w19, w19 = (w17.setCell ⟨bk, 5, none⟩ (.slice A16 1 c16)).setCell ⟨bk, 6, none⟩ (.slice A17 1 c17) := ⟨_, rfl⟩
        rw [← hw19] at HF19 HN19
        rw [← hw19]
        clear hw19
        -- TAIL
        have HR1 := Aside0.mk (fun W B d y (h : Num W B d [y]) => resizeN B d [y] 1 W h (by rw [val_one]; exact wl_one_le (h.w64 y (by simp))) (by omega))
        have HR2 := Aside0.mk (fun W B d y (h : Num W B d [y]) => ((HR1.out W B d y h).mono (R' := fun e w' => ∃ v, e = .returned (.tuple #[v, .int .i64 0]) ∧ Res W w' v [y]) (by rintro e w' ⟨v, h1, h2⟩; refine ⟨v, h1, ?_⟩; rw [val_one, digs_one (h.w64 y (by simp))] at h2; exact h2)))
        clear HR1
        go_wp2_with fail
        refine (HR2.out _ _ _ _ (HN19.out.at 0 rfl)).mono ?_
        rintro x w20 ⟨v20, rfl, hr20⟩
        obtain ⟨A20, c20, rfl, hn20⟩ := hr20.num
        have HF20' := Aside0.mk (HF19.out.mv hr20.bel)
        have k20 := HF20'.out.cell 1 rfl 3 rfl
        have f20 := HF20'.out.frozen 1 rfl 3
        have HF20 := Aside0.mk (HF20'.out.set_ 1 rfl 3 (.slice A20 1 c20))
        have HN20 := Aside0.mk (((HN19.out.below hr20.bel).snoc hn20).kp (HF20'.out.kp_set 1 rfl (by decide) 3 (.slice A20 1 c20)))
        simp only [List.nil_append, List.cons_append, List.set, List.setIfInBounds_toArray, digs_length] at HF20 HN20
        clear hr20 hn20 HF20' HF19 HN19
        go_wp2_with fail
        refine (HR2.out _ _ _ _ (HN20.out.at 1 rfl)).mono ?_
        rintro x w21 ⟨v21, rfl, hr21⟩
        obtain ⟨A21, c21, rfl, hn21⟩ := hr21.num
        have HF21' := Aside0.mk (HF20.out.mv hr21.bel)
        have k21 := HF21'.out.cell 1 rfl 4 rfl
        have f21 := HF21'.out.frozen 1 rfl 4
        have HF21 := Aside0.mk (HF21'.out.set_ 1 rfl 4 (.slice A21 1 c21))
        have HN21 := Aside0.mk (((HN20.out.below hr21.bel).snoc hn21).kp (HF21'.out.kp_set 1 rfl (by decide) 4 (.slice A21 1 c21)))
        simp only [List.nil_append, List.cons_append, List.set, List.setIfInBounds_toArray, digs_length] at HF21 HN21
        clear hr21 hn21 HF21' HF20 HN20
        go_wp2_with fail
        refine (HR2.out _ _ _ _ (HN21.out.at 7 rfl)).mono ?_
        rintro x w22 ⟨v22, rfl, hr22⟩
        obtain ⟨A22, c22, rfl, hn22⟩ := hr22.num
        have HF22' := Aside0.mk (HF21.out.mv hr22.bel)
        have k22 := HF22'.out.cell 1 rfl 7 rfl
        have f22 := HF22'.out.frozen 1 rfl 7
        have HF22 := Aside0.mk (HF22'.out.set_ 1 rfl 7 (.slice A22 1 c22))
        have HN22 := Aside0.mk (((HN21.out.below hr22.bel).snoc hn22).kp (HF22'.out.kp_set 1 rfl (by decide) 7 (.slice A22 1 c22)))
        simp only [List.nil_append, List.cons_append, List.set, List.setIfInBounds_toArray, digs_length] at HF22 HN22
        clear hr22 hn22 HF22' HF21 HN21
        have HRD := Aside0.mk (fun W (h : Num W AD cD (digs nL D)) => resizeN AD cD (digs nL D) nN W h (by rw [val_digs_lt HD.out.2, HnN.out]; exact wl_le (Nat.lt_trans (Nat.lt_trans HD.out.1 HL.out.1.1) (lw_lt N))) (by have := lw_le2 (n := 2) (by omega) HPF.out.1; rw [HnN.out]; omega))
        simp only [digs_length, val_digs_lt HD.out.2] at HRD
        have j0 := HF22.out.cell 1 rfl 0 rfl
        have j2 := HF22.out.cell 1 rfl 2 rfl
        go_wp2_with fail
        refine (HRD.out _ (HN22.out.at 4 rfl)).mono ?_
        rintro x w23 ⟨v23, rfl, hr23⟩
        obtain ⟨A23, c23, rfl, hn23⟩ := hr23.num
        have HF23' := Aside0.mk (HF22.out.mv hr23.bel)
        have k23 := HF23'.out.cell 1 rfl 2 rfl
        have f23 := HF23'.out.frozen 1 rfl 2
        have HF23 := Aside0.mk (HF23'.out.set_ 1 rfl 2 (.slice A23 nN c23))
        have HN23 := Aside0.mk (((HN22.out.below hr23.bel).snoc hn23).kp (HF23'.out.kp_set 1 rfl (by decide) 2 (.slice A23 nN c23)))
        simp only [List.nil_append, List.cons_append, List.set, List.setIfInBounds_toArray, digs_length] at HF23 HN23
        clear hr23 hn23 HF23' HF22 HN22
        go_wp2_with (first | (refine wpList_load_row rfl 28 (.tmp 9) rfl bk rfl 28 _ (0, 0) _ (HF23.out.at 1 rfl) Tryz.underlying28 rfl size28 ?_; have tokL : True := trivial) | (refine wpList_store_row rfl 28 (.tmp 6) (.tmp 140) rfl b6 _ rfl rfl 28 _ (HF23.out.at 0 rfl) size28 rfl (key_one _ _ _ _ _ _ _ _ rfl rfl rfl rfl rfl rfl rfl) ?_))
        have hold := HF23.out.at 0 rfl
        have hrow := setRow_heap _ b6 _ #[.slice AN nN cN, .int .u64 (e : Int), .slice A23 nN c23, .slice A20 1 c20, .slice A21 1 c21, .slice A16 1 c16, .slice A17 1 c17, .slice A22 1 c22] 28 (0, 0) hold
        have hbel := HF23.out.bel
        have hge := (HF23.out.lt 0 rfl).1
        have hN := HN23.out
        generalize w23.setCell ⟨bk, 2, none⟩ (.slice A23 nN c23) = wZ at *
        refine bodyPost_ret (v := .agg #[.slice AN nN cN, .int .u64 (e : Int), .slice A23 nN c23, .slice A20 1 c20, .slice A21 1 c21, .slice A16 1 c16, .slice A17 1 c17, .slice A22 1 c22]) (results_cell_row rfl _ _ b6 28 _ (0, 0) _ rfl hrow Tryz.underlying28 rfl size28) rfl ?_
        have hk : Kp wZ (wZ.setRow b6 #[.slice AN nN cN, .int .u64 (e : Int), .slice A23 nN c23, .slice A20 1 c20, .slice A21 1 c21, .slice A16 1 c16, .slice A17 1 c17, .slice A22 1 c22]) := Kp.turn But.row.grown (fun cur h => by rw [hold] at h; injection h with h; injection h with _ h; exact absurd h (by decide))
        have hN2 := hN.kp hk
        refine .inr ⟨HG.out, _, rfl, ?_, hbel.trans ⟨rfl, rfl, rfl, by simp, fun k hk => setRow_other _ b6 k _ (by omega)⟩⟩
        rw [HKF.out]
        exact ⟨nN, AN, cN, A23, c23, A20, c20, A21, c21, A16, c16, A17, c17, A22, c22, rfl, HnN.out, hN2.at 2 rfl, hN2.at 13 rfl, hN2.at 10 rfl, hN2.at 11 rfl, hN2.at 8 rfl, hN2.at 9 rfl, hN2.at 12 rfl⟩
      · have HG := Aside0.mk hg
        rw [decide_eq_false hg]
        clear hg
        go_wp2_with fail
        refine (mustKbad _).mono ?_
        rintro x w' ⟨rfl, rfl⟩
        go_wp2_with fail
        exact ⟨rfl, .inl ⟨HG.out, rfl, HF5.out.bel⟩⟩
end Go.Proofs.YtjpibgehhgaopaaGreat.Top
