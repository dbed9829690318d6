/- key's Of, by one word. -/
import Derived.Test.YtjpibgehhgaopaaGreatZ21
namespace Go.Proofs.YtjpibgehhgaopaaGreat.Top
open Go.RowKit Go.Proofs.YtjpibgehhgaopaaGreatW.PrintWords Go.Proofs.YtjpibgehhgaopaaGreatW.PrintLast Go.Proofs.YtjpibgehhgaopaaGreat.PTopGenerated
set_option linter.unusedVariables false
set_option linter.unusedSimpArgs false

theorem idle39 (a b : Value) (w : World) : CallsD Tryz.prog 39 #[a, b] .returning w fun e u' w' => e = .returned (.tuple #[]) ∧ u' = .returning ∧ w' = w := by
  refine callsD_of_wpS Tryz.func39 rfl fun c₀ cs hu => ?_
  apply wpS_seq
  apply wpS_region
  simp [wpOpsS, go_sem, recoverD, hu, Tryz.ntmps39, Exit.thenS]
  apply wpS_seq
  apply wpS_region
  simp [wpOpsS, go_sem, hu, Tryz.ntmps39, Exit.thenS]
  refine wpS_cond (t := false) (by simp [Act.eval, Array.replicate]) ?_
  simp only [Bool.false_eq_true, if_false]
  refine wpS_of_wp (wp_skip ?_)
  cases c₀
  simp_all [bodyPostS, results, Tryz.results39]
/-- What Of comes to. -/
def OfP (w : World) (p q e : Nat) (x : Ending) (w' : World) : Prop :=
  (Nat.gcd p q ≠ 1 ∧ x = .returned (.tuple #[.agg zeroKey, .int .i64 190]) ∧ Below w.heap.size w w') ∨
  (Nat.gcd p q = 1 ∧ ∃ cs, x = .returned (.tuple #[.agg cs, .int .i64 0]) ∧ KeyC w' cs (keyF p q e) ∧ Below w.heap.size w w')
theorem results_key {tmps : Array Value} {w : World} {b6 b7 : Nat} {cs : Array Value} {x : Value} (h8 : cs.size = 8) (h6 : tmps.getD 6 undef = .pointer (some ⟨b6, 0, none⟩)) (h7 : tmps.getD 7 undef = .pointer (some ⟨b7, 0, none⟩))
    (hk : w.heap[b6]? = some (.cells cs 28 (0, 0))) (hx : w.heap[b7]? = some (.cells #[x] 29 (0, 0))) : (results Tryz.f21 tmps).run Tryz.prog w = .ok (.tuple #[.agg cs, x]) w := by
  have h6' : tmps[6]?.getD undef = .pointer (some ⟨b6, 0, none⟩) := by simpa using h6
  have h7' : tmps[7]?.getD undef = .pointer (some ⟨b7, 0, none⟩) := by simpa using h7
  have hr := run_loadVar_row (P := Tryz.prog) w b6 28 28 cs (0, 0) _ hk Tryz.underlying28 rfl (by rw [h8]; exact size28)
  have hc : w.cell? ⟨b7, 0, none⟩ = some x := blk_cell hx 0
  have hr2 : (loadVar 29 ⟨b7, 0, none⟩).run Tryz.prog w = .ok x w := by simp [go_sem, hc]
  simp [results, Tryz.f21, h6', h7', asAddr, hr, hr2]
theorem KeyC.cells {W : World} {cs : Array Value} {k : KeyN} (h : KeyC W cs k) : cs.size = 8 ∧ cs.all (·.oneCell') = true := by
  obtain ⟨n, AN, cN, AD, cD, AP, cP, AQ, cQ, A5, c5, A6, c6, A7, c7, rfl, _⟩ := h.has
  exact ⟨rfl, key_one _ _ _ _ _ _ _ _ rfl rfl rfl rfl rfl rfl rfl⟩
theorem KeyC.kp {W W' : World} {cs : Array Value} {k : KeyN} (h : KeyC W cs k) (hk : Kp W W') : KeyC W' cs k := by
  obtain ⟨n, AN, cN, AD, cD, AP, cP, AQ, cQ, A5, c5, A6, c6, A7, c7, e, hn, h1, h2, h3, h4, h5, h6, h7⟩ := h.has
  exact ⟨n, AN, cN, AD, cD, AP, cP, AQ, cQ, A5, c5, A6, c6, A7, c7, e, hn, h1.kp hk, h2.kp hk, h3.kp hk, h4.kp hk, h5.kp hk, h6.kp hk, h7.kp hk⟩
theorem Fr.row {w W : World} {L : List (Nat × Obj)} (h : Fr w W L) (i : Nat) {k : Nat} {cs : Array Value} {t : TypeId} (hi : L[i]? = some (k, .cells cs t (0, 0))) (cs' : Array Value) : Fr w (W.setRow k cs') (L.set i (k, .cells cs' t (0, 0))) :=
  h.turn i hi _ But.row.grown (setRow_heap _ _ _ _ _ _ (h.at i hi))
theorem Kp.row {W : World} {k : Nat} {cs : Array Value} {t : TypeId} (hk : W.heap[k]? = some (.cells cs t (0, 0))) (ht : t ≠ 23) (cs' : Array Value) : Kp W (W.setRow k cs') :=
  Kp.turn But.row.grown (fun cur h => by rw [hk] at h; injection h with h; injection h with _ h; exact ht h)
set_option maxHeartbeats 1000000 in
set_option maxRecDepth 100000 in
theorem ofK (A A2 : Option Addr) (c c2 p q e : Nat) (w : World) (h1 : Num w A c [p]) (h2 : Num w A2 c2 [q]) (ha : MadeA p q e) :
    Calls Tryz.prog 21 #[.slice A 1 c, .slice A2 1 c2, .int .u64 (e : Int)] w (OfP w p q e) := by
  have HF0 := Aside0.mk (((Fr.nil w).alloc (.cells zeroKey 28)).alloc (.cells #[.int .i64 0] 29))
  simp only [List.nil_append, List.cons_append, World.size_alloc] at HF0
  have HM := Aside0.mk (madeN A A2 c c2 p q e _ (h1.fr HF0.out) (h2.fr HF0.out) ha)
  have hmf : ∀ (fn : Fn) (first cap : Array Value) (w : World), (Instr.makeFunc fn first cap).run Tryz.prog w = .ok (.func fn first cap) w := fun _ _ _ _ => rfl
  clear h1 h2 ha
  go_enter_defers Tryz.func21, Tryz.ntmps21
  go_wp2_with fail
  refine HM.out.mono ?_
  intro x w1 hx
  rcases hx with ⟨hg, rfl, hb⟩ | ⟨hg, cs, rfl, hk, hb⟩
  · have HF1 := Aside0.mk (HF0.out.mv hb)
    have HG := Aside0.mk hg
    clear hb hg HM HF0
    go_wp2_with fail
    refine leaves_cons (f := 39) (args := #[.pointer (some ⟨w.heap.size, 0, none⟩), .pointer (some ⟨w.heap.size + 1, 0, none⟩)]) (by simp) (by simp [go_sem]) ?_
    refine (saved39 _ _ zeroKey _ _ (HF1.out.at 0 rfl) rfl (HF1.out.at 1 rfl) (by omega)).mono ?_
    rintro e u' w'' ⟨rfl, rfl, g1, g2, g3⟩
    exact ⟨_, results_key rfl rfl rfl g1 g2, .inl ⟨HG.out, rfl, HF1.out.bel.trans (g3 _ (Nat.le_refl _) (by omega) HF1.out.bel.size)⟩⟩
  · have HF1 := Aside0.mk (HF0.out.mv hb)
    obtain ⟨h8, h1⟩ := hk.cells
    have HC := Aside0.mk (And.intro h8 h1)
    have HF2 := Aside0.mk (HF1.out.row 0 rfl cs)
    have HG := Aside0.mk (And.intro hg (hk.kp (Kp.row (HF1.out.at 0 rfl) (by decide) cs)))
    have q7 := HF2.out.cell 1 rfl 0 rfl
    have f7 := HF2.out.frozen 1 rfl 0
    clear hb hg HM HF0 hk h8 h1
    go_wp2_with (refine wpList_store_row rfl 28 (.tmp 6) (.tmp 12) rfl _ cs rfl rfl 28 _ (HF1.out.at 0 rfl) (by rw [HC.out.1]; exact size28) HC.out.1.symm HC.out.2 ?_)
    refine leaves_cons (f := 39) (args := #[.pointer (some ⟨w.heap.size, 0, none⟩), .pointer (some ⟨w.heap.size + 1, 0, none⟩)]) (by simp) (by simp [go_sem]) ?_
    refine (idle39 _ _ _).mono ?_
    rintro e u' w'' ⟨rfl, rfl, rfl⟩
    have HF3 := HF2.out.set_ 1 rfl 0 (.int .i64 0)
    exact ⟨_, results_key HC.out.1 rfl rfl (HF3.at 0 rfl) (HF3.at 1 rfl), .inr ⟨HG.out.1, cs, rfl, HG.out.2.kp (HF2.out.kp_set 1 rfl (by decide) 0 _), HF3.bel⟩⟩
end Go.Proofs.YtjpibgehhgaopaaGreat.Top
/- key's alike, Check. -/
namespace Go.Proofs.YtjpibgehhgaopaaGreat.Top
open Go.RowKit Go.Proofs.YtjpibgehhgaopaaGreatW.PrintWords Go.Proofs.YtjpibgehhgaopaaGreatW.PrintLast Go.Proofs.YtjpibgehhgaopaaGreat.PTopGenerated
set_option linter.unusedVariables false
set_option linter.unusedSimpArgs false

/-- A pair of cells that are numbers, the same ones. -/
def PairS (w : World) (g i : Nat) : Prop := ∃ A c B d n a, n = a.length ∧ w.cell? ⟨g, i, none⟩ = some (.slice A n c) ∧ w.cell? ⟨g, i + 1, none⟩ = some (.slice B n d) ∧ Num w A c a ∧ Num w B d a ∧ n ≤ 1000
theorem PairS.drewN {w : World} {g i : Nat} (h : PairS w g i) (k : Nat) : PairS (w.drewN k) g i := by
  obtain ⟨A, c, B, d, n, a, h1, h2, h3, h4, h5, h6⟩ := h
  exact ⟨A, c, B, d, n, a, h1, h2, h3, h4.below (pw_below_drewN (Below.refl _ _) k), h5.below (pw_below_drewN (Below.refl _ _) k), h6⟩
theorem msr_two {i : Nat} (h : i < 14) : 14 - (intOf (.int .i64 ((i : Int) + 2))).toNat < 14 - (intOf (.int .i64 (i : Int))).toNat := by
  show 14 - ((i : Int) + 2).toNat < 14 - (i : Int).toNat
  omega
set_option maxHeartbeats 1000000 in
set_option maxRecDepth 100000 in
theorem alikeT (g : Nat) (w : World) (h : ∀ j, j < 7 → PairS w g (2 * j)) :
    Calls Tryz.prog 22 #[.slice (some ⟨g, 0, none⟩) 14 14] w fun e w' => e = .returned (.bool true) ∧ ∃ k, w' = w.drewN k := by
  have H := Aside0.mk h
  clear h
  go_enter Tryz.func22, Tryz.ntmps22
  go_wp2_with fail
  go_loopw [3] (fun v3 wr => ∃ i : Nat, v3 = .int .i64 (i : Int) ∧ Aside0 (i ≤ 14 ∧ i % 2 = 0) ∧ Aside0 (∃ k, wr = w.drewN k)) (fun v3 _ => 14 - (intOf v3).toNat)
  case atStart => exact ⟨0, rfl, ⟨by omega, by omega⟩, ⟨⟨0, rfl⟩⟩⟩
  case round =>
    obtain ⟨i, rfl, HI, HW⟩ := hrel
    obtain ⟨k, hk⟩ := HW.out
    have hi14 := HI.out.1
    by_cases hi : i = 14
    · subst hi
      have HK := Aside0.mk hk
      clear hk
      have t1 : decide (((14 : Nat) : Int) + 1 < 14) = false := by decide
      go_wp2_with fail
      go_ret
      exact ⟨rfl, k, HK.out⟩
    · have hlt : i + 1 < 14 := by have := HI.out.2; omega
      have t1 : decide ((i : Int) + 1 < 14) = true := by rw [decide_eq_true_eq]; omega
      have hp := (H.out (i / 2) (by omega)).drewN k
      rw [show 2 * (i / 2) = i by have := HI.out.2; omega, ← hk] at hp
      obtain ⟨A, c, B, d, n, a, hn, h2, h3, h4, h5, h6⟩ := hp
      have HE := Aside0.mk (fun k' => equalN A B c d a a _ (h4.below (pw_below_drewN (Below.refl _ _) k')) (h5.below (pw_below_drewN (Below.refl _ _) k')) (by omega) (by omega))
      rw [← hn, decide_eq_true rfl] at HE
      have HK := Aside0.mk hk
      have HM := Aside0.mk (msr_two (show i < 14 by omega))
      have HI2 := Aside0.mk (show i + 2 ≤ 14 ∧ (i + 2) % 2 = 0 by have := HI.out.2; omega)
      clear hk hn h4 h5 h6 hi
      have n6 : ((i : Int) + 1).toNat = i + 1 := by omega
      have b1 : (i : Int) < 14 := by omega
      have b2 : (i : Int) + 1 < 14 := by omega
      have b0 : (0 : Int) ≤ (i : Int) + 1 := by omega
      have w6 : IntKind.i64.wrap ((i : Int) + 1) = (i : Int) + 1 := (i64_w _).trans (wrap64_id (by omega) (by omega))
      have w9 : wrap64 ((i : Int) + 2) = (i : Int) + 2 := wrap64_id (by omega) (by omega)
      go_wp2_with fail
      go_region_held3 (fun W => W.cell? ⟨g, i, none⟩ = some (.slice A n c) ∧ W.cell? ⟨g, i + 1, none⟩ = some (.slice B n d)) (go_keep) (first | (go_at_call 41; refine (HE.out _).mono ?_; rintro e w3 ⟨rfl, kk, rfl⟩))
      all_goals go_wp2_with fail
      all_goals exact ⟨⟨i + 2, rfl, HI2, ⟨⟨k + (1 + kk), by rw [HK.out, World.drewN_drewN]⟩⟩⟩, HM.out⟩
set_option maxHeartbeats 1000000 in
set_option maxRecDepth 100000 in
theorem checkK (cs : Array Value) (p q e : Nat) (w : World) (hk : KeyC w cs (keyF p q e)) (ha : MadeA p q e) (hg : Nat.gcd p q = 1) :
    Calls Tryz.prog 9 #[.agg cs] w fun x w' => x = .returned (.int .i64 0) ∧ Below w.heap.size w w' := by
  obtain ⟨n, AN, cN, AD, cD, AP, cP, AQ, cQ, A5, c5, A6, c6, A7, c7, rfl, hn, h1, h2, h3, h4, h5, h6, h7⟩ := hk.has
  have HF0 := Aside0.mk ((Fr.nil w).alloc (.cells #[.slice AN n cN, .int .u64 ((keyF p q e).e : Int), .slice AD n cD, .slice AP 1 cP, .slice AQ 1 cQ, .slice A5 1 c5, .slice A6 1 c6, .slice A7 1 c7] 28))
  simp only [List.nil_append] at HF0
  have HO := Aside0.mk (ofK AP AQ cP cQ p q e _ (h3.fr HF0.out) (h4.fr HF0.out) ha)
  have HN := Aside0.mk (And.intro (And.intro h1 (And.intro h2 (And.intro h3 (And.intro h4 (And.intro h5 (And.intro h6 h7)))))) (And.intro hn hg))
  rw [show (keyF p q e).e = e from rfl] at HF0 ⊢
  clear h1 h2 h3 h4 h5 h6 h7 hk hn
  have k3 := HF0.out.cell 0 rfl 3 rfl
  have k4 := HF0.out.cell 0 rfl 4 rfl
  have k1 := HF0.out.cell 0 rfl 1 rfl
  go_enter Tryz.func9, Tryz.ntmps9
  go_wp2_with fail
  refine HO.out.mono ?_
  intro x w1 hx
  rcases hx with ⟨hg2, _⟩ | ⟨_, cs2, rfl, hk2, hb⟩
  · exact absurd hg hg2
  · obtain ⟨n2, BN, dN, BD, dD, BP, dP, BQ, dQ, B5, d5, B6, d6, B7, d7, rfl, hn2, g1, g2, g3, g4, g5, g6, g7⟩ := hk2.has
    obtain rfl : n2 = n := by rw [hn2, HN.out.2.1]
    have HNN := Aside0.mk (And.intro g1 (And.intro g2 (And.intro g3 (And.intro g4 (And.intro g5 (And.intro g6 g7))))))
    have HL := Aside0.mk hn2
    clear g1 g2 g3 g4 g5 g6 g7 hk2 hn2 hg
    rw [show (keyF p q e).e = e from rfl]
    have HF1 := Aside0.mk ((HF0.out.mv hb).alloc (.cells #[.slice BN n2 dN, .int .u64 (e : Int), .slice BD n2 dD, .slice BP 1 dP, .slice BQ 1 dQ, .slice B5 1 d5, .slice B6 1 d6, .slice B7 1 d7] 28))
    simp only [List.nil_append, List.cons_append] at HF1
    have HF2 := Aside0.mk (HF1.out.alloc (.cells #[.slice BN n2 dN, .slice AN n2 cN, .slice BD n2 dD, .slice AD n2 cD, .slice BP 1 dP, .slice AP 1 cP, .slice BQ 1 dQ, .slice AQ 1 cQ, .slice B5 1 d5, .slice A5 1 c5, .slice B6 1 d6, .slice A6 1 c6, .slice B7 1 d7, .slice A7 1 c7] 26))
    simp only [List.nil_append, List.cons_append, World.size_alloc] at HF2
    have q0 := HF1.out.cell 0 rfl 0 rfl
    have x0 := HF1.out.cell 1 rfl 0 rfl
    have q2 := HF1.out.cell 0 rfl 2 rfl
    have x2 := HF1.out.cell 1 rfl 2 rfl
    have q3 := HF1.out.cell 0 rfl 3 rfl
    have x3 := HF1.out.cell 1 rfl 3 rfl
    have q4 := HF1.out.cell 0 rfl 4 rfl
    have x4 := HF1.out.cell 1 rfl 4 rfl
    have q5 := HF1.out.cell 0 rfl 5 rfl
    have x5 := HF1.out.cell 1 rfl 5 rfl
    have q6 := HF1.out.cell 0 rfl 6 rfl
    have x6 := HF1.out.cell 1 rfl 6 rfl
    have q7 := HF1.out.cell 0 rfl 7 rfl
    have x7 := HF1.out.cell 1 rfl 7 rfl
    have hbA := HF2.out.bel
    have hbB := below_alloc (below_alloc (Below.refl _ w1) (.cells #[.slice BN n2 dN, .int .u64 (e : Int), .slice BD n2 dD, .slice BP 1 dP, .slice BQ 1 dQ, .slice B5 1 d5, .slice B6 1 d6, .slice B7 1 d7] 28)) (.cells #[.slice BN n2 dN, .slice AN n2 cN, .slice BD n2 dD, .slice AD n2 cD, .slice BP 1 dP, .slice AP 1 cP, .slice BQ 1 dQ, .slice AQ 1 cQ, .slice B5 1 d5, .slice A5 1 c5, .slice B6 1 d6, .slice A6 1 c6, .slice B7 1 d7, .slice A7 1 c7] 26)
    have HP := Aside0.mk (And.intro hbA hbB)
    clear hbA hbB
    clear hb k1 k3 k4 HF0 HO
    have hn100 : n2 ≤ 2 := by
      rw [HL.out]
      exact lw_le2 (n := 2) (by omega) (prod_facts ha).1
    go_wp2_with fail
    refine (alikeT _ _ ?_).mono ?_
    · have hrow := HF2.out.at 2 rfl
      obtain ⟨hbA, hbB⟩ := HP.out
      intro j hj
      have hm : ∀ {A : Option Addr} {c : Nat} {a : List Nat}, Num w A c a → Num _ A c a := fun h => h.below hbA
      have hm2 : ∀ {A : Option Addr} {c : Nat} {a : List Nat}, Num w1 A c a → Num _ A c a := fun h => h.below hbB
      obtain ⟨h1, h2, h3, h4, h5, h6, h7⟩ := HN.out.1
      obtain ⟨g1, g2, g3, g4, g5, g6, g7⟩ := HNN.out
      rcases j with _ | _ | _ | _ | _ | _ | _ | j
      · exact ⟨_, _, _, _, _, _, HL.out, blk_cell hrow 0, blk_cell hrow 1, hm2 g1, hm h1, by omega⟩
      · exact ⟨_, _, _, _, _, _, (digs_length _ _).symm, blk_cell hrow 2, blk_cell hrow 3, hm2 g2, hm h2, by omega⟩
      · exact ⟨_, _, _, _, 1, [_], rfl, blk_cell hrow 4, blk_cell hrow 5, hm2 g3, hm h3, by omega⟩
      · exact ⟨_, _, _, _, 1, [_], rfl, blk_cell hrow 6, blk_cell hrow 7, hm2 g4, hm h4, by omega⟩
      · exact ⟨_, _, _, _, 1, [_], rfl, blk_cell hrow 8, blk_cell hrow 9, hm2 g5, hm h5, by omega⟩
      · exact ⟨_, _, _, _, 1, [_], rfl, blk_cell hrow 10, blk_cell hrow 11, hm2 g6, hm h6, by omega⟩
      · exact ⟨_, _, _, _, 1, [_], rfl, blk_cell hrow 12, blk_cell hrow 13, hm2 g7, hm h7, by omega⟩
      · omega
    · rintro x w3 ⟨rfl, kk, rfl⟩
      go_wp2_with fail
      go_ret
      exact ⟨rfl, (HF2.out.drewN kk).bel⟩
end Go.Proofs.YtjpibgehhgaopaaGreat.Top
/- slices' Clone of bytes; the script's New, Left, spend. -/
namespace Go.Proofs.YtjpibgehhgaopaaGreat.Top
open Go.RowKit Go.Proofs.YtjpibgehhgaopaaGreatW.PrintWords Go.Proofs.YtjpibgehhgaopaaGreatW.PrintLast Go.Proofs.YtjpibgehhgaopaaGreat.PTopGenerated
set_option linter.unusedVariables false
set_option linter.unusedSimpArgs false

theorem info5' : (Tryz.prog.info? 5).map (fun i => (i.zero, i.size, i.bytes)) = some (some (.int .u8 0), 1, 1) := by kernel_rfl
/-- slices.Clone of bytes. -/
theorem cloneB (A : Option Addr) (c n : Nat) (xs : List Int) (w : World) (hr : ReadsInt w .u8 A n xs) (hl : n ≤ 1000000) :
    Calls Tryz.prog 31 #[.slice A n c] w fun x w' => ∃ v, x = .returned v ∧ w'.ownsRow w.heap.size 5 1 v xs.length (nums .u8 xs) ∧ Below w.heap.size w w' := by
  obtain rfl := hr.1
  rcases A with _ | ad
  · have hq := fun W => Lib.run_eql_slice_nil (P := Tryz.prog) W 22 5 none 0 c 0 0 Tryz.underlying22
    have h0 : xs = [] := by
      rcases Nat.eq_zero_or_pos xs.length with h | h
      · exact List.eq_nil_of_length_eq_zero h
      · obtain ⟨_, e, _⟩ := hr.2.2 h
        cases e
    subst h0
    clear hr
    go_enter Tryz.func31, Tryz.ntmps31
    go_wp2
    go_ret
    exact ⟨_, rfl, own_nil _ _ _ _, Below.refl _ _⟩
  · have hq := fun W => Lib.run_eql_slice_nil (P := Tryz.prog) W 22 5 (some ad) xs.length c 0 0 Tryz.underlying22
    have HL := Aside0.mk (show (([] : List Int).length + xs.length) * 1 ≤ 140737488355328 by simp; omega)
    have HO := Aside0.mk (show (w.alloc (.cells #[] 5)).ownsRow w.heap.size 5 1 (.slice (some ⟨w.heap.size, 0, none⟩) 0 0) ([] : List Int).length (nums .u8 []) from World.ownsRow_made w #[] 0 (Nat.le_refl _) (by unfold maxLen; omega) (by simp))
    have HR := Aside0.mk (hr.below (below_alloc (Below.refl w.heap.size w) (.cells #[] 5)))
    have HB := Aside0.mk (below_alloc (Below.refl w.heap.size w) (.cells #[] 5))
    clear hr hl
    go_enter Tryz.func31, Tryz.ntmps31
    go_wp2_with (at_builtin; refine print_append_row (w0 := w) w.heap.size rfl (.tmp 5) (.tmp 6) 22 5 .u8 1 rfl Tryz.underlying22 info5' (by decide) (.slice (some ⟨w.heap.size, 0, none⟩) 0 0) [] xs (some ad) xs.length c rfl rfl HO.out HR.out HB.out (by simp) HL.out ?_; intro v1 w1 hR1 hB1 hg1 hat1; have HR1 := Aside0.mk hR1; have HB1 := Aside0.mk hB1; clear hR1 hB1 hg1 hat1)
    go_ret
    exact ⟨_, rfl, HR1.out, HB1.out⟩
/-- A script's block: its bytes' slice, its place. -/
abbrev scB (A : Option Addr) (n c : Nat) (i : Int) : Obj := .cells #[.slice A n c, .int .i64 i] 84
/-- A script in memory: its bytes, its place. -/
structure Scr (w : World) (sb : Nat) (bs : List Int) (i : Nat) : Prop where
  has : ∃ A c, w.heap[sb]? = some (scB A bs.length c (i : Int)) ∧ ReadsInt w .u8 A bs.length bs ∧ bs.length ≤ c ∧ (∀ ad, A = some ad → ∃ cur, w.heap[ad.block]? = some (.cells cur 5 (0, 0)))
  le : i ≤ bs.length
  len : bs.length ≤ 100000
  byt : ∀ j : Nat, Byt (rd bs (j : Int))
/-- What holds bytes and scripts stays. -/
structure Kb (w w' : World) : Prop where
  size : w.heap.size ≤ w'.heap.size
  keep : ∀ (k : Nat) (cur : Array Value) (t : TypeId), t = 5 ∨ t = 84 → w.heap[k]? = some (.cells cur t (0, 0)) → w'.heap[k]? = some (.cells cur t (0, 0))
theorem Kb.of_below {w w' : World} (h : Below w.heap.size w w') : Kb w w' := ⟨h.size, fun k cur t _ hk => (h.block k (blk_lt hk)).trans hk⟩
theorem Kb.trans {a b c : World} (h : Kb a b) (k : Kb b c) : Kb a c := ⟨Nat.le_trans h.size k.size, fun i cur t ht hi => k.keep i cur t ht (h.keep i cur t ht hi)⟩
theorem reads_bytes {w w' : World} {A : Option Addr} {n : Nat} {bs : List Int} (h : ReadsInt w .u8 A n bs) (ht : ∀ ad, A = some ad → ∃ cur, w.heap[ad.block]? = some (.cells cur 5 (0, 0))) (hk : ∀ (k : Nat) (cur : Array Value), w.heap[k]? = some (.cells cur 5 (0, 0)) → w'.heap[k]? = some (.cells cur 5 (0, 0))) : ReadsInt w' .u8 A n bs := by
  refine ⟨h.1, h.2.1, fun hp => ?_⟩
  obtain ⟨ad, e, hc⟩ := h.2.2 hp
  obtain ⟨cur, hb⟩ := ht ad e
  refine ⟨ad, e, fun j hj => ?_⟩
  rw [World.cell?_of_block (w := w)]
  · exact hc j hj
  · rw [addr_block, hb]; exact hk _ _ hb
theorem Scr.kb {w w' : World} {sb : Nat} {bs : List Int} {i : Nat} (h : Scr w sb bs i) (hk : Kb w w') : Scr w' sb bs i := by
  obtain ⟨A, c, h1, h2, h3, h4⟩ := h.has
  refine ⟨⟨A, c, hk.keep _ _ 84 (.inr rfl) h1, reads_bytes h2 h4 (fun k cur hb => hk.keep k cur 5 (.inl rfl) hb), h3, fun ad e => ?_⟩, h.le, h.len, h.byt⟩
  obtain ⟨cur, hb⟩ := h4 ad e
  exact ⟨cur, hk.keep _ _ 5 (.inl rfl) hb⟩
theorem Scr.below {w w' : World} {sb : Nat} {bs : List Int} {i : Nat} (h : Scr w sb bs i) (hb : Below w.heap.size w w') : Scr w' sb bs i := h.kb (Kb.of_below hb)
/-- The place turns. -/
theorem Scr.move {w : World} {sb : Nat} {bs : List Int} {i j : Nat} (h : Scr w sb bs i) (hj : j ≤ bs.length) : Scr (w.setCell ⟨sb, 1, none⟩ (.int .i64 (j : Int))) sb bs j ∧ But sb w (w.setCell ⟨sb, 1, none⟩ (.int .i64 (j : Int))) := by
  obtain ⟨A, c, h1, h2, h3, h4⟩ := h.has
  have hs := heap_setCell_same w sb 1 _ _ (.int .i64 (j : Int)) h1
  have hk : ∀ (k : Nat) (cur : Array Value), w.heap[k]? = some (.cells cur 5 (0, 0)) → (w.setCell ⟨sb, 1, none⟩ (.int .i64 (j : Int))).heap[k]? = some (.cells cur 5 (0, 0)) := fun k cur hc => by
    rw [Below.heap_setCell]
    · exact hc
    · rintro rfl
      rw [h1] at hc
      injection hc with hc
      injection hc with _ hc
      exact absurd hc (by decide)
  refine ⟨⟨⟨A, c, hs, reads_bytes h2 h4 hk, h3, fun ad e => ?_⟩, hj, h.len, h.byt⟩, But.set_ _ _⟩
  obtain ⟨cur, hb⟩ := h4 ad e
  exact ⟨cur, hk _ _ hb⟩
theorem newS (A : Option Addr) (c : Nat) (bs : List Int) (w : World) (hr : ReadsInt w .u8 A bs.length bs) (hl : bs.length ≤ 100000) (hb : ∀ j : Nat, Byt (rd bs (j : Int))) :
    Calls Tryz.prog 11 #[.slice A bs.length c] w fun x w' => ∃ sb, x = .returned (.pointer (some ⟨sb, 0, none⟩)) ∧ w.heap.size ≤ sb ∧ Scr w' sb bs 0 ∧ Below w.heap.size w w' := by
  have HR := Aside0.mk (And.intro hr hb)
  clear hr hb
  have hu84 := Tryz.underlying84
  go_enter Tryz.func11, Tryz.ntmps11
  go_wp2_with fail
  refine (cloneB A c bs.length bs _ HR.out.1 (by omega)).mono ?_
  rintro e w1 ⟨v, rfl, hO, hb⟩
  have HO := Aside0.mk hO
  have HB := Aside0.mk hb
  obtain ⟨A1, c1, rfl, hr1⟩ := own_reads hO
  have HR1 := Aside0.mk hr1
  clear hO hb hr1
  go_wp2_with fail
  go_ret
  have hb2 := below_alloc (Below.refl w1.heap.size w1) (scB A1 bs.length c1 0)
  refine ⟨w1.heap.size, rfl, HB.out.size, ⟨⟨A1, c1, heap_alloc_new w1 _, HR1.out.below hb2, own_cap HO.out, fun ad e => ?_⟩, Nat.zero_le _, by omega, HR.out.2⟩, HB.out.trans (hb2.mono HB.out.size)⟩
  subst e
  rcases HO.out.2 with ⟨h1, _⟩ | ⟨g, cap, cur, h1, _, hg, _⟩
  · cases h1
  · injection h1 with h1
    injection h1 with h1
    subst h1
    exact ⟨cur, (hb2.block _ (blk_lt hg)).trans hg⟩
theorem leftS (sb : Nat) (bs : List Int) (i : Nat) (w : World) (h : Scr w sb bs i) :
    Calls Tryz.prog 89 #[.pointer (some ⟨sb, 0, none⟩)] w fun x w' => x = .returned (.int .i64 ((bs.length : Int) - (i : Int))) ∧ ∃ k, w' = w.drewN k := by
  obtain ⟨A, c, hb, _⟩ := h.has
  have hl := h.len
  have hle := h.le
  have h0 : w.cell? ⟨sb, 0, none⟩ = some (.slice A bs.length c) := blk_cell hb 0
  have h1 : w.cell? ⟨sb, 1, none⟩ = some (.int .i64 (i : Int)) := blk_cell hb 1
  have hw : wrap64 ((bs.length : Int) - (i : Int)) = (bs.length : Int) - (i : Int) := wrap64_id (by omega) (by omega)
  clear hb h
  have hu84 := Tryz.underlying84
  go_enter Tryz.func89, Tryz.ntmps89
  go_wp2_with fail
  go_quiet (fail)
  go_wp2_with fail
  go_ret
  exact ⟨rfl, _, rfl⟩
theorem spendS (sb : Nat) (bs : List Int) (i : Nat) (w : World) (h : Scr w sb bs i) :
    Calls Tryz.prog 90 #[.pointer (some ⟨sb, 0, none⟩)] w fun x w' => x = .returned (.tuple #[]) ∧ Scr w' sb bs bs.length ∧ But sb w w' := by
  obtain ⟨A, c, hb, _⟩ := h.has
  have h0 : w.cell? ⟨sb, 0, none⟩ = some (.slice A bs.length c) := blk_cell hb 0
  have h1 : w.cell? ⟨sb, 1, none⟩ = some (.int .i64 (i : Int)) := blk_cell hb 1
  have f1 := frozen_of_row w sb 1 _ _ hb
  have HM := Aside0.mk (h.move (Nat.le_refl _))
  clear hb h
  have hu84 := Tryz.underlying84
  go_enter Tryz.func90, Tryz.ntmps90
  go_wp2_with fail
  go_end0
  exact ⟨rfl, HM.out.1, HM.out.2⟩
end Go.Proofs.YtjpibgehhgaopaaGreat.Top
