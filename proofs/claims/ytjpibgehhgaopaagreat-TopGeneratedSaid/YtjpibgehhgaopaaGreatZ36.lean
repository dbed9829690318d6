/- group: must, size, Check, setup, of the group of 23. -/
import Derived.Laws.Tables
import Derived.Test.YtjpibgehhgaopaaGreatThV
namespace Go.Proofs.YtjpibgehhgaopaaGreat.Top
open Go.RowKit Go.Proofs.YtjpibgehhgaopaaGreatW.PrintWords Go.Proofs.YtjpibgehhgaopaaGreatW.PrintLast Go.Proofs.YtjpibgehhgaopaaGreat.PTopGenerated
set_option linter.unusedVariables false
set_option linter.unusedSimpArgs false

set_option maxRecDepth 100000 in
theorem mustG (e : Int) (w : World) : Calls Tryz.prog 122 #[.bool true, .int .i64 e] w fun x w' => x = .returned (.tuple #[]) ∧ w' = w := by
  go_enter Tryz.func122, Tryz.ntmps122
  go_wp2_with fail
  go_end0
  exact ⟨rfl, rfl⟩
theorem bl23 : bl (val [23]) = 5 := by decide +kernel
set_option maxRecDepth 100000 in
theorem sizeG (A : Option Addr) (c : Nat) (w : World) (h : Num w A c [23]) :
    Calls Tryz.prog 123 #[.agg #[.slice A 1 c]] w fun x w' => x = .returned (.int .i64 1) ∧ Below w.heap.size w w' := by
  have HB := Aside0.mk (below_alloc (Below.refl w.heap.size w) (.cells #[.slice A 1 c] 34))
  have HN := Aside0.mk (bitsN A c [23] _ (h.below HB.out) (by simp))
  rw [bl23] at HN
  clear h
  go_enter Tryz.func123, Tryz.ntmps123
  go_wp2_with fail
  refine HN.out.mono ?_
  rintro e w' ⟨rfl, rfl⟩
  go_wp2_with fail
  go_ret
  exact ⟨rfl, HB.out⟩
theorem one3 (A1 A2 : Option Addr) (n1 c1 n2 c2 : Nat) (k : Int) : (#[.slice A1 n1 c1, .int .u64 k, .slice A2 n2 c2] : Array Value).all (·.oneCell') = true := by simp [Value.oneCell']
theorem litNum (w : World) (x : Nat) (hx : x < 18446744073709551616) : Num (w.alloc (.cells #[.int .u64 (x : Int)] 23)) (some ⟨w.heap.size, 0, none⟩) 1 [x] :=
  (own_num (lit_res w [x] (W64_one hx) (by simp)).own (W64_one hx)).2
set_option maxRecDepth 100000 in
set_option maxHeartbeats 1000000 in
theorem checkG (A : Option Addr) (c : Nat) (w : World) (h : Num w A c [23]) :
    Calls Tryz.prog 207 #[.agg #[.slice A 1 c]] w fun x w' => x = .returned (.int .i64 0) ∧ Below w.heap.size w w' := by
  have HB := Aside0.mk (below_alloc (Below.refl w.heap.size w) (.cells #[.slice A 1 c] 34))
  have HN := Aside0.mk (bitsN A c [23] _ (h.below HB.out) (by simp))
  rw [bl23] at HN
  have HH := Aside0.mk (h.below HB.out)
  obtain ⟨ad, rfl, hc⟩ := (h.below HB.out).oneK
  have hc1 := hc _ (Kp.refl _)
  have t1 : Go.bits .and .u64 23 7 = 7 := by decide +kernel
  have HB2 := Aside0.mk (below_alloc HB.out (.cells #[.int .u64 23] 23))
  have HC := Aside0.mk (compareN (some ad) (some ⟨w.heap.size + 1, 0, none⟩) c 1 [23] [23] _ (HH.out.below (below_alloc (Below.refl _ _) (.cells #[.int .u64 23] 23))) (by have := litNum (w.alloc (.cells #[.slice (some ad) 1 c] 34)) 23 (by omega); simpa using this) (by simp) (by simp))
  rw [show cmpI (val [23]) (val [23]) = 0 by decide] at HC
  clear h hc HH
  go_enter Tryz.func207, Tryz.ntmps207
  go_wp2_with fail
  refine HN.out.mono ?_
  rintro e w' ⟨rfl, rfl⟩
  go_wp2_with fail
  refine HC.out.mono ?_
  rintro e w' ⟨rfl, rfl⟩
  go_wp2_with fail
  go_ret
  exact ⟨rfl, HB2.out⟩
set_option maxRecDepth 100000 in
set_option maxHeartbeats 1000000 in
theorem setupG (A : Option Addr) (c : Nat) (w : World) (h : Num w A c [23]) :
    Calls Tryz.prog 170 #[.agg #[.slice A 1 c]] w fun x w' => ∃ v, x = .returned v ∧ Md w' v 23 ∧ Below w.heap.size w w' := by
  have HF0 := Aside0.mk (((Fr.nil w).alloc (.cells #[.slice A 1 c] 34)).alloc (.cells #[.slice none 0 0, .int .u64 0, .slice none 0 0] 73))
  simp only [World.size_alloc, List.nil_append, List.cons_append] at HF0
  have HC := Aside0.mk (checkG A c _ (h.fr HF0.out))
  have k0 : ((w.alloc (.cells #[.slice A 1 c] 34)).alloc (.cells #[.slice none 0 0, .int .u64 0, .slice none 0 0] 73)).cell? ⟨w.heap.size, 0, none⟩ = some (.slice A 1 c) := HF0.out.cell 0 rfl 0 rfl
  have HH := Aside0.mk h
  clear h
  go_enter Tryz.func170, Tryz.ntmps170
  go_wp2_with fail
  refine HC.out.mono ?_
  rintro e w1 ⟨rfl, hb⟩
  have HF1 := Aside0.mk (HF0.out.mv hb)
  clear hb HF0 k0
  go_wp2_with fail
  refine (mustG _ _).mono ?_
  rintro e w' ⟨rfl, rfl⟩
  have k0 := HF1.out.cell 0 rfl 0 rfl
  have HS := Aside0.mk (setupN A c 23 _ (HH.out.fr HF1.out) (by omega) (by omega))
  go_wp2_with fail
  refine HS.out.mono ?_
  rintro e w2 ⟨v, rfl, hm, hb⟩
  have HF2 := Aside0.mk (HF1.out.mv hb)
  have HM := Aside0.mk hm
  clear hm hb
  obtain ⟨A1, c1, A2, c2, rfl, _, _⟩ := HM.out
  have HF3 := Aside0.mk (HF2.out.alloc (.cells #[.slice A1 1 c1, .int .u64 (KI 23), .slice A2 1 c2] 73))
  simp only [World.size_alloc, List.nil_append, List.cons_append] at HF3
  have HM3 := Aside0.mk (HM.out.below (below_alloc (Below.refl _ _) (.cells #[.slice A1 1 c1, .int .u64 (KI 23), .slice A2 1 c2] 73)))
  go_wp2_with fail
  refine (mustG _ _).mono ?_
  rintro e w' ⟨rfl, rfl⟩
  have hold := HF3.out.at 1 rfl
  have HF4 := Aside0.mk (HF3.out.row 1 rfl #[.slice A1 1 c1, .int .u64 (KI 23), .slice A2 1 c2])
  have HM4 := Aside0.mk (HM3.out.kp (Kp.row hold (by decide) #[.slice A1 1 c1, .int .u64 (KI 23), .slice A2 1 c2]))
  go_wp2_with (refine wpList_store_row rfl 73 (.tmp 2) (.tmp 19) rfl (w.heap.size + 1) #[.slice A1 1 c1, .int .u64 (KI 23), .slice A2 1 c2] rfl rfl 73 _ hold size73 rfl (one3 _ _ _ _ _ _ _) ?_)
  refine bodyPost_ret (results_cell_row rfl _ _ (w.heap.size + 1) 73 _ (0, 0) _ rfl (HF4.out.at 1 rfl) Tryz.underlying73 rfl size73) rfl ?_
  exact ⟨_, rfl, HM4.out, HF4.out.bel⟩
end Go.Proofs.YtjpibgehhgaopaaGreat.Top
/- power's powers: the sixteen first powers, in Montgomery's form; with a trace, or none. -/
namespace Go.Proofs.YtjpibgehhgaopaaGreat.Top
open Go.RowKit Go.Proofs.YtjpibgehhgaopaaGreatW.PrintWords Go.Proofs.YtjpibgehhgaopaaGreatW.PrintLast Go.Proofs.YtjpibgehhgaopaaGreat.PTopGenerated
set_option linter.unusedVariables false
set_option linter.unusedSimpArgs false

theorem T.grow {w w1 : World} {B n : Nat} {t : Option Nat} {o : Option Nat} (h : T w B t n) (hg : w.grownBy w1 o) (ho : ∀ k, o = some k → ∃ cur, w.heap[k]? = some (.cells cur 26 (0, 0))) : T w1 B t n := by
  obtain ⟨hB, v, l, h1, h2⟩ := h
  refine ⟨Nat.le_trans hB hg.size, v, l, ?_, h2⟩
  rcases t with _ | tb
  · exact h1
  · refine TrO.other (t' := none) (v' := .slice none 0 0) (row := o) h1 ⟨hg.os, hg.tape, hg.output, hg.size, fun k hk _ hr => hg.block k hk hr⟩ ?_ ?_
    · intro tb' e
      injection e with e
      subst e
      refine ⟨by simp, fun e => ?_⟩
      obtain ⟨cur, hc⟩ := ho _ e
      rw [h1.2.1] at hc
      injection hc with hc
      injection hc with _ hc
      exact absurd hc (by decide)
    · intro k hk
      refine ⟨by simp, fun e => ?_⟩
      obtain ⟨cur, hc⟩ := ho _ e
      obtain ⟨inner, hown⟩ := Kd.R_own h1.2.2
      obtain ⟨cur', hc'⟩ := own_typed hown k hk
      rw [hc] at hc'
      injection hc' with hc'
      injection hc' with _ hc'
      exact absurd hc' (by decide)
theorem St.grow {w0 w w1 : World} {B : Nat} {o : Option Nat} (h : St B none w0 w) (hB : B ≤ w0.heap.size) (hg : w.grownBy w1 o) (ho : ∀ k, o = some k → w0.heap.size ≤ k) : St B none w0 w1 :=
  ⟨⟨hg.os.trans h.bel.os, hg.tape.trans h.bel.tape, hg.output.trans h.bel.output, Nat.le_trans h.bel.size hg.size, fun k hk => (hg.block k (by have := h.bel.size; omega) (fun e => by have := ho k e.symm; omega)).trans (h.bel.block k hk)⟩,
    fun k o' hk h1 h2 h3 => (hg.block k (by have := h.bel.size; have := blk_lt hk; omega) (fun e => by have := ho k e.symm; have := blk_lt hk; omega)).trans (h.stay k o' hk h1 h2 h3)⟩
/-- The powers. -/
def powF (M a : Nat) : Nat → Nat
  | 0 => 18446744073709551616 % M
  | j + 1 => prodW M (powF M a j) (prodW M a (18446744073709551616 ^ 2 % M))
/-- Numbers of one word, side by side. -/
structure Rw (base : Nat) (W : World) (v : Value) (k : Nat) (f : Nat → Nat) : Prop where
  has : ∃ xs : List (Option Addr × Nat × Nat), xs.length = k ∧ W.ownsRow base 26 1 v k (encs encN xs) ∧ ∀ j, j < k → ∃ A c, xs[j]? = some (A, 1, c) ∧ Num W A c [f j]
theorem Rw.st {base B k : Nat} {W W' : World} {v : Value} {f : Nat → Nat} (h : Rw base W v k f) (hs : St B none W W') : Rw base W' v k f := by
  obtain ⟨xs, h1, h2, h3⟩ := h.has
  refine ⟨xs, h1, own_st h2 hs (by decide) (fun _ _ => by simp), fun j hj => ?_⟩
  obtain ⟨A, c, h4, h5⟩ := h3 j hj
  exact ⟨A, c, h4, h5.st hs⟩
theorem Rw.below {base k : Nat} {W W' : World} {v : Value} {f : Nat → Nat} (h : Rw base W v k f) (hb : Below W.heap.size W W') : Rw base W' v k f := h.st (St.of_below (Nat.le_refl _) hb)
theorem Rw.at {base k : Nat} {W : World} {v : Value} {f : Nat → Nat} (h : Rw base W v k f) (j : Nat) (hj : j < k) : ∃ g c A c', v = .slice (some ⟨g, 0, none⟩) k c ∧ base ≤ g ∧ W.cell? ⟨g, j, none⟩ = some (.slice A 1 c') ∧ Num W A c' [f j] := by
  obtain ⟨xs, h1, h2, h3⟩ := h.has
  obtain ⟨g, cap, rfl, hgb, hgl⟩ := h2.form (by omega)
  obtain ⟨A, c, h4, h5⟩ := h3 j hj
  have h6 := (own_at_of (d := (none, 0, 0)) h2 (j : Int) (by omega) (by omega)).1
  rw [Int.toNat_natCast] at h6
  refine ⟨g, cap, A, c, rfl, hgb, ?_, h5⟩
  rw [h6]
  simp [rdOf, h4, encN]
theorem prodW_lt (M a b : Nat) : prodW M a b < 18446744073709551616 := by
  unfold prodW
  simp only []
  split <;> exact Nat.mod_lt _ (by omega)
theorem Rw.weak {base b k : Nat} {W : World} {v : Value} {f : Nat → Nat} (h : Rw base W v k f) (hb : b ≤ base) : Rw b W v k f := by
  obtain ⟨xs, h1, h2, h3⟩ := h.has
  exact ⟨xs, h1, own_weaken h2 hb, h3⟩
/-- Product, its answer as a slice. -/
theorem productS (B : Nat) (t : Option Nat) (n : Nat) (M a b : Nat) (v : Value) (Aa Ab : Option Addr) (ca cb : Nat) (w : World) (hT : T w B t n) (hn : n ≤ 900000000) (hM : Md w v M) (h0 : 0 < M) (ha : Num w Aa ca [a]) (hb : Num w Ab cb [b]) (hBw : B ≤ w.heap.size) :
    Calls Tryz.prog 93 #[ptrV t, v, .slice Aa 1 ca, .slice Ab 1 cb] w fun e w' => ∃ A c, e = .returned (.slice A 1 c) ∧ Num w' A c [prodW M a b] ∧ St B none w w' ∧ T w' B t (n + 3) := by
  refine (productT B t n M a b v Aa Ab ca cb w hT hn hM h0 ha hb hBw).mono ?_
  rintro e w' ⟨v', rfl, o, s, t'⟩
  obtain ⟨A, c, rfl⟩ := own_slice o
  exact ⟨A, c, rfl, (own_num o (W64_one (prodW_lt M a b))).2, s, t'⟩
theorem Rw.one {base : Nat} {W : World} {A : Option Addr} {c : Nat} {f : Nat → Nat} (hb : base ≤ W.heap.size) (h : Num W A c [f 0]) : Rw base (W.alloc (.cells #[.slice A 1 c] 26)) (.slice (some ⟨W.heap.size, 0, none⟩) 1 1) 1 f := by
  refine ⟨[(A, 1, c)], rfl, own_lit_of (enc := encN) W base 26 [(A, 1, c)] hb (by simp), fun j hj => ?_⟩
  obtain rfl : j = 0 := by omega
  exact ⟨A, c, rfl, h.below (below_alloc (Below.refl _ _) _)⟩
theorem rw_snoc {base k : Nat} {W W' : World} {v' : Value} {xs : List (Option Addr × Nat × Nat)} {X : Option Addr} {d : Nat} {f : Nat → Nat} (h1 : xs.length = k) (h3 : ∀ j, j < k → ∃ A c, xs[j]? = some (A, 1, c) ∧ Num W A c [f j]) (hn : Num W X d [f k]) (hk : Kp W W')
    (ho : W'.ownsRow base 26 1 v' (k + 1) (encs encN xs ++ [.slice X 1 d])) : Rw base W' v' (k + 1) f := by
  subst h1
  refine ⟨xs ++ [(X, 1, d)], by simp, by simpa [encs, encN] using ho, fun j hj => ?_⟩
  by_cases h : j < xs.length
  · obtain ⟨A, c, h4, h5⟩ := h3 j h
    exact ⟨A, c, by rw [List.getElem?_append_left h]; exact h4, h5.kp hk⟩
  · obtain rfl : j = xs.length := by omega
    exact ⟨X, d, by simp, hn.kp hk⟩
theorem pow_bytes {m i : Nat} (h : m = i + 1 ∧ i ≤ 15) : (m + 1) * 24 ≤ 140737488355328 := by omega
theorem one_slice (X : Option Addr) (n d : Nat) : ∀ u ∈ [Value.slice X n d], u.oneCell' = true := by
  intro u hu
  rw [List.mem_singleton] at hu
  subst hu
  rfl
set_option maxHeartbeats 2000000 in
set_option maxRecDepth 100000 in
theorem powersN (B : Nat) (t : Option Nat) (n M a : Nat) (v : Value) (Aa : Option Addr) (ca : Nat) (w : World) (hT : T w B t n) (hn : n ≤ 800000000) (hM : Md w v M) (h1 : 1 < M) (ho : M % 2 = 1) (ha : Num w Aa ca [a]) (hBw : B ≤ w.heap.size) :
    Calls Tryz.prog 208 #[ptrV t, v, .slice Aa 1 ca] w fun e w' => ∃ A c, e = .returned (.slice A 16 c) ∧ Rw w.heap.size w' (.slice A 16 c) 16 (powF M a) ∧ St B none w w' ∧ T w' B t (n + 48) := by
  have HM := Aside0.mk hM
  obtain ⟨A1, c1, A2, c2, rfl, hm1, hm2⟩ := hM
  obtain ⟨kk, hkk⟩ : ∃ kk, kk = KI M := ⟨_, rfl⟩
  rw [← hkk] at HM ⊢
  obtain ⟨mo, hmo⟩ : ∃ mo, mo = Obj.cells #[.slice A1 1 c1, .int .u64 kk, .slice A2 1 c2] 73 (0, 0) := ⟨_, rfl⟩
  have HP := Aside0.mk (fun (W : World) (m x y : Nat) (Ax Ay : Option Addr) (cx cy : Nat) (hS : St B none w W) (hT : T W B t m) (hm : m ≤ 900000000) hx hy => productS B t m M x y (.agg #[.slice A1 1 c1, .int .u64 kk, .slice A2 1 c2]) Ax Ay cx cy W hT hm (HM.out.kp hS.kp) (by omega) hx hy (by have := hS.size; omega))
  have HO := Aside0.mk (fun (W : World) (hS : St B none w W) => oneN (.agg #[.slice A1 1 c1, .int .u64 kk, .slice A2 1 c2]) M W (HM.out.kp hS.kp) ho h1)
  have hb0 := below_alloc (Below.refl w.heap.size w) mo
  have HS0 := Aside0.mk (St.of_below (x := none) hBw hb0)
  have HN0 := Aside0.mk (And.intro (ha.below hb0) (And.intro (hm2.below hb0) (hT.below hb0)))
  have hbx : (w.alloc mo).heap[w.heap.size]? = some mo := heap_alloc_new _ _
  have HBX := Aside0.mk (show ∀ W' : World, St B none (w.alloc mo) W' → W'.cell? ⟨w.heap.size, 0, none⟩ = some (.slice A1 1 c1) ∧ W'.cell? ⟨w.heap.size, 1, none⟩ = some (.int .u64 kk) ∧ W'.cell? ⟨w.heap.size, 2, none⟩ = some (.slice A2 1 c2) from fun W' hs => by
    have := hs.stay _ _ hbx (by simp) (by rw [hmo]; intro cur e; injection e with _ e; simp at e) (by rw [hmo]; intro cur e; injection e with _ e; simp at e)
    rw [hmo] at this
    exact ⟨blk_cell this 0, blk_cell this 1, blk_cell this 2⟩)
  obtain ⟨m0, m1, m2⟩ := HBX.out _ (St.refl B none _)
  have HBw := Aside0.mk hBw
  rw [hmo] at m0 m1 m2 HS0 HN0 HBX
  clear hm1 hm2 hkk hb0 hbx hmo hT ha hBw
  go_enter Tryz.func208, Tryz.ntmps208
  go_wp2_with fail
  refine (HP.out _ n a _ _ _ _ _ HS0.out HN0.out.2.2 (by omega) HN0.out.1 HN0.out.2.1).mono ?_
  rintro e w1 ⟨X1, d1, rfl, o1, s1, t1⟩
  have HX1 := Aside0.mk o1
  have HS1 := Aside0.mk (And.intro s1 t1)
  obtain ⟨k0, k1, k2⟩ := HBX.out _ s1
  clear o1 s1 t1 m0 m1 m2
  go_wp2_with fail
  refine (HO.out _ (HS0.out.trans HS1.out.1)).mono ?_
  rintro e w2 ⟨v2, rfl, hr2⟩
  obtain ⟨X2, d2, rfl, hn2⟩ := hr2.num
  have hb2 := hr2.bel.alloc hr2.bel.size (.cells #[.slice X2 1 d2] 26)
  have HL0 := Aside0.mk (show Num (w2.alloc (.cells #[.slice X2 1 d2] 26)) X1 d1 [prodW M a (18446744073709551616 ^ 2 % M)] ∧ Rw (w.heap.size + 1) (w2.alloc (.cells #[.slice X2 1 d2] 26)) (.slice (some ⟨w2.heap.size, 0, none⟩) 1 1) 1 (powF M a) ∧ St B none (w.alloc (.cells #[.slice A1 1 c1, .int .u64 kk, .slice A2 1 c2] 73)) (w2.alloc (.cells #[.slice X2 1 d2] 26)) ∧ T (w2.alloc (.cells #[.slice X2 1 d2] 26)) B t (n + 3) from
    ⟨HX1.out.below hb2, Rw.one (by have := HS0.out.size; have := HS1.out.1.size; have := hr2.bel.size; simp at *; omega) hn2, HS1.out.1.trans (St.of_below HS1.out.2.size hb2), HS1.out.2.below hb2⟩)
  obtain ⟨xx, hxx⟩ : ∃ xx, xx = prodW M a (18446744073709551616 ^ 2 % M) := ⟨_, rfl⟩
  rw [← hxx] at HL0
  have HXX := Aside0.mk hxx
  clear hr2 hn2 hb2 k0 k1 k2 HX1 hxx
  go_wp2_with fail
  go_loopw [8, 18] (fun v8 v18 wr => ∃ (i m : Nat) (A : Option Addr) (c : Nat), v18 = .int .i64 (i : Int) ∧ v8 = .slice A m c ∧ Aside0 (m = i + 1 ∧ i ≤ 15) ∧ Aside0 (Num wr X1 d1 [xx] ∧ Rw (w.heap.size + 1) wr (.slice A m c) m (powF M a) ∧ St B none (w.alloc (.cells #[.slice A1 1 c1, .int .u64 kk, .slice A2 1 c2] 73)) wr ∧ T wr B t (n + 3 + 3 * i))) (fun _ v18 _ => 15 - (intOf v18).toNat)
  case atStart => exact ⟨0, 1, _, _, rfl, rfl, ⟨rfl, by omega⟩, HL0⟩
  case round =>
    obtain ⟨i, m, A, c, rfl, rfl, HI, HJ⟩ := hrel
    by_cases hlt : i < 15
    · have HLT := Aside0.mk hlt
      have t1 : decide ((i : Int) < 15) = true := by rw [decide_eq_true_eq]; omega
      have t2 : decide (i < 15) = true := by rw [decide_eq_true_eq]; exact hlt
      have w3 : wrap64 ((i : Int) + 1) = ((i + 1 : Nat) : Int) := wrap64_id (by omega) (by omega)
      obtain ⟨g, c', Ai, ci, hv, hge, hcell, hnum⟩ := HJ.out.2.1.at i (by have := HI.out.1; omega)
      injection hv with hv1 hv2 hv3
      subst hv1
      subst hv3
      have HN := Aside0.mk hnum
      have HG := Aside0.mk hge
      obtain ⟨k0, k1, k2⟩ := HBX.out _ HJ.out.2.2.1
      have w4 : wrap64 ((m : Int) - 1) = (i : Int) := by rw [wrap64_id (by have := HI.out; omega) (by have := HI.out; omega)]; have := HI.out; omega
      have hw5 : IntKind.i64.wrap ((m : Int) - 1) = (i : Int) := by rw [i64_w]; exact w4
      have b1 : (0 : Int) ≤ (i : Int) := by omega
      have b2 : (i : Int) < (m : Int) := by have := HI.out; omega
      have HPC := Aside0.mk (HP.out wr.drew (n + 3 + 3 * i) (powF M a i) xx _ _ _ _ (HS0.out.trans (HJ.out.2.2.1.trans (St.of_below HJ.out.2.2.2.size (pw_below_drewN (Below.refl _ _) 1)))) (HJ.out.2.2.2.below (pw_below_drewN (Below.refl _ _) 1)) (by omega) (HN.out.below (pw_below_drewN (Below.refl _ _) 1)) (HJ.out.1.below (pw_below_drewN (Below.refl _ _) 1)))
      have HD := Aside0.mk (St.of_below (B := B) (x := none) HJ.out.2.2.2.size (pw_below_drewN (Below.refl _ wr) 1))
      clear hnum hge hv2
      go_wp2_with fail
      -- BEGIN P5
      refine start_ (n := 14) (S := fun w' => w'.cell? ⟨w.heap.size, 0, none⟩ = some (.slice A1 1 c1) ∧ w'.cell? ⟨w.heap.size, 1, none⟩ = some (.int .u64 kk) ∧ w'.cell? ⟨w.heap.size, 2, none⟩ = some (.slice A2 1 c2) ∧ w'.cell? ⟨g, i, none⟩ = some (.slice Ai 1 ci)) (ds := [10, 11, 12]) #[false, false, false, false, false, false, false, false, false, false, false, false, false, false] (by kernel_rfl) rfl rfl ⟨k0, k1, k2, hcell⟩ (fun hHeld => ?_)
      refine pure_ (i := 0) (N := some 20) (v := ?_) (a' := ?_) #[true, false, false, false, false, false, false, false, false, false, false, false, false, false] rfl rfl (by kernel_rfl) (fun _ _ _ h => h) (Or.inl ⟨by rfl, ?_⟩) ?_ ?_
      rotate_left
      · intro w'
        go_simp
        with_reducible rfl
      rotate_left
      · simp only [Act.put, List.setIfInBounds_toArray, List.set_cons_zero, List.set_cons_succ, i64_w, i32_w]
        rfl
      refine pure_ (i := 1) (N := some 21) (v := ?_) (a' := ?_) #[true, true, false, false, false, false, false, false, false, false, false, false, false, false] rfl rfl (by kernel_rfl) (fun _ _ _ h => h) (Or.inl ⟨by rfl, ?_⟩) ?_ ?_
      rotate_left
      · intro w'
        go_simp
        with_reducible rfl
      rotate_left
      · simp only [Act.put, List.setIfInBounds_toArray, List.set_cons_zero, List.set_cons_succ, i64_w, i32_w]
        rfl
      refine pure_ (i := 3) (N := some 23) (v := ?_) (a' := ?_) #[true, true, false, true, false, false, false, false, false, false, false, false, false, false] rfl rfl (by kernel_rfl) (fun _ _ _ h => h) (Or.inl ⟨by rfl, ?_⟩) ?_ ?_
      rotate_left
      · intro w'
        go_simp
        with_reducible rfl
      rotate_left
      · simp only [Act.put, List.setIfInBounds_toArray, List.set_cons_zero, List.set_cons_succ, i64_w, i32_w]
        rfl
      refine pure_ (i := 4) (N := some 24) (v := ?_) (a' := ?_) #[true, true, false, true, true, false, false, false, false, false, false, false, false, false] rfl rfl (by kernel_rfl) (fun _ _ _ h => h) (Or.inl ⟨by rfl, ?_⟩) ?_ ?_
      rotate_left
      · intro w'
        go_simp
        with_reducible rfl
      rotate_left
      · simp only [Act.put, List.setIfInBounds_toArray, List.set_cons_zero, List.set_cons_succ, i64_w, i32_w]
        rfl
      refine pure_ (i := 5) (N := some 25) (v := ?_) (a' := ?_) #[true, true, false, true, true, true, false, false, false, false, false, false, false, false] rfl rfl (by kernel_rfl) (fun _ _ _ h => h) (Or.inl ⟨by rfl, ?_⟩) ?_ ?_
      rotate_left
      · intro w'
        go_simp
        with_reducible rfl
      rotate_left
      · simp only [Act.put, List.setIfInBounds_toArray, List.set_cons_zero, List.set_cons_succ, i64_w, i32_w]
        rfl
      refine pure_ (i := 6) (N := some 26) (v := ?_) (a' := ?_) #[true, true, false, true, true, true, true, false, false, false, false, false, false, false] rfl rfl (by kernel_rfl) (fun _ _ _ h => h) (Or.inl ⟨by rfl, ?_⟩) ?_ ?_
      rotate_left
      · intro w'
        go_simp
        with_reducible rfl
      rotate_left
      · simp only [Act.put, List.setIfInBounds_toArray, List.set_cons_zero, List.set_cons_succ, i64_w, i32_w]
        rfl
      refine pure_ (i := 7) (N := some 27) (v := ?_) (a' := ?_) #[true, true, false, true, true, true, true, true, false, false, false, false, false, false] rfl rfl (by kernel_rfl) (fun _ _ _ h => h) (Or.inl ⟨by rfl, ?_⟩) ?_ ?_
      rotate_left
      · intro w'
        go_simp
        with_reducible rfl
      rotate_left
      · simp only [Act.put, List.setIfInBounds_toArray, List.set_cons_zero, List.set_cons_succ, i64_w, i32_w]
        rfl
      refine pure_ (i := 9) (N := some 29) (v := ?_) (a' := ?_) #[true, true, false, true, true, true, true, true, false, true, false, false, false, false] rfl rfl (by kernel_rfl) (fun _ _ _ h => h) (Or.inl ⟨by rfl, ?_⟩) ?_ ?_
      rotate_left
      · intro w'
        go_simp
        with_reducible rfl
      rotate_left
      · simp only [Act.put, List.setIfInBounds_toArray, List.set_cons_zero, List.set_cons_succ, i64_w, i32_w]
        rfl
      refine take_ (i := 2) (N := some 22) (v := ?_) (a' := ?_) #[true, true, true, true, true, true, true, true, false, true, false, false, false, false] rfl rfl (by kernel_rfl) (fun _ _ _ h => h) (Or.inl ⟨by rfl, ?_⟩) hHeld ?_ ?_
      rotate_left
      · rintro w' ⟨s0, s1, s2, s3⟩
        go_simp
        with_reducible rfl
      rotate_left
      · simp only [Act.put, List.setIfInBounds_toArray, List.set_cons_zero, List.set_cons_succ, i64_w, i32_w]
        rfl
      refine take_ (i := 8) (N := some 28) (v := ?_) (a' := ?_) #[true, true, true, true, true, true, true, true, true, true, false, false, false, false] rfl rfl (by kernel_rfl) (fun _ _ _ h => h) (Or.inl ⟨by rfl, ?_⟩) hHeld ?_ ?_
      rotate_left
      · rintro w' ⟨s0, s1, s2, s3⟩
        go_simp
        with_reducible rfl
      rotate_left
      · simp only [Act.put, List.setIfInBounds_toArray, List.set_cons_zero, List.set_cons_succ, i64_w, i32_w]
        rfl
      refine last_ (i := 10) (N := some 30) #[true, true, true, true, true, true, true, true, true, true, true, false, false, false] rfl rfl (by kernel_rfl) (by decide) (fun K hK => ?_)
      refine goes_ Tryz.func93 (by kernel_rfl) rfl #[ptrV t, .agg #[.slice A1 1 c1, .int .u64 kk, .slice A2 1 c2], .slice Ai 1 ci, .slice X1 1 d1] (by rfl) rfl rfl (by simp only [List.map_toArray, List.map_cons, List.map_nil]; rfl) ?_
      with_reducible refine (HPC.out).mono ?_
      rintro e w5 ⟨X5, d5, rfl, o5, s5, t5⟩
      have H5 := Aside0.mk (And.intro o5 (And.intro s5 t5))
      obtain ⟨xs, hx1, hx2, hx3⟩ := ((HJ.out.2.1.st HD.out).st s5).has
      have H7 := Aside0.mk (And.intro hx1 (And.intro hx2 hx3))
      have HLN := Aside0.mk (pow_bytes HI.out)
      have HBR := Aside0.mk (Below.refl (w.heap.size + 1) w5)
      have HSZ := Aside0.mk (show w.heap.size + 1 ≤ w5.heap.size from by have h1 := HJ.out.2.2.1.size; have h2 : wr.heap.size ≤ w5.heap.size := s5.size; rw [World.size_alloc] at h1; omega)
      clear o5 s5 t5 hx1 hx2 hx3
      refine ⟨_, rfl, ?_⟩
      refine hK.out _ _ ?_
      clear hK K
      refine norm_ (a' := ?_) ?_ ?_
      rotate_left
      · show Act.put _ (some 30) _ = _
        simp only [Act.put, List.setIfInBounds_toArray, List.set_cons_zero, List.set_cons_succ, i64_w, i32_w]
        rfl
      refine last_ (i := 11) (N := some 31) #[true, true, true, true, true, true, true, true, true, true, true, true, false, false] rfl rfl (by kernel_rfl) (by decide) (fun K hK => ?_)
      refine value_ (w1 := ?_) (v := ?_) (by rfl) rfl ?_ ?_
      rotate_left 2
      · go_simp
        constructor
        · rfl
        · rfl
      refine hK.out _ _ ?_
      clear hK K
      refine norm_ (a' := ?_) ?_ ?_
      rotate_left
      · show Act.put _ (some 31) _ = _
        simp only [Act.put, List.setIfInBounds_toArray, List.set_cons_zero, List.set_cons_succ, i64_w, i32_w]
        rfl
      refine last_ (i := 12) (N := some 32) #[true, true, true, true, true, true, true, true, true, true, true, true, true, false] rfl rfl (by kernel_rfl) (by decide) (fun K hK => ?_)
      refine step_append_cells (w0 := w5) (w.heap.size + 1) (by rfl) (.tmp 20) (.tmp 31) 45 26 (.slice none 0 0) 1 24 rfl Tryz.underlying45 info26' rfl (by decide) (by decide) (.slice (some ⟨g, 0, none⟩) m _) m _ [.slice X5 1 d5] rfl rfl rfl (one_slice _ _ _) H7.out.2.1 HBR.out HSZ.out HLN.out ?_
      intro v6 w6 ho6 hb6 hg6 _
      have H6 := Aside0.mk (And.intro ho6 hg6)
      clear ho6 hb6 hg6
      refine hK.out _ _ ?_
      clear hK K
      refine norm_ (a' := ?_) ?_ ?_
      rotate_left
      · show Act.put _ (some 32) _ = _
        simp only [Act.put, List.setIfInBounds_toArray, List.set_cons_zero, List.set_cons_succ, i64_w, i32_w]
        rfl
      refine pure_ (i := 13) (N := some 8) (v := ?_) (a' := ?_) #[true, true, true, true, true, true, true, true, true, true, true, true, true, true] rfl rfl (by kernel_rfl) (fun _ _ _ h => h) (Or.inl ⟨by rfl, ?_⟩) ?_ ?_
      rotate_left
      · intro w'
        go_simp
        with_reducible rfl
      rotate_left
      · simp only [Act.put, List.setIfInBounds_toArray, List.set_cons_zero, List.set_cons_succ, i64_w, i32_w]
        rfl
      refine done_ (by kernel_rfl) ?_
      -- END P5
      clear k0 k1 k2 hcell
      obtain ⟨A6, c6, rfl⟩ := own_slice H6.out.1
      go_wp2_with fail
      go_roundw
      case rel =>
        refine ⟨i + 1, m + 1, A6, c6, by first | rfl | exact congrArg (Value.int .i64) w3, rfl, ⟨by have := HI.out; omega, by have := HLT.out; omega⟩, ?_⟩
        have hgty : ∀ k, (Value.slice (some ⟨g, 0, none⟩) m c).ownBlock = some k → ∃ cur, w5.heap[k]? = some (.cells cur 26 (0, 0)) := fun k hk => own_typed H7.out.2.1 k hk
        have hkp := Kp.grown H6.out.2 hgty
        have hst := St.grow (w0 := w.alloc (.cells #[.slice A1 1 c1, .int .u64 kk, .slice A2 1 c2] 73)) (HJ.out.2.2.1.trans (HD.out.trans H5.out.2.1)) (by have := HBw.out; simp; omega) H6.out.2 (fun k hk => by
          have hk' : g = k := Option.some.inj hk
          have := HG.out
          simp
          omega)
        refine ⟨((HJ.out.1.st HD.out).st H5.out.2.1).kp hkp, rw_snoc H7.out.1 H7.out.2.2 ?_ hkp H6.out.1, hst, (H5.out.2.2.grow H6.out.2 hgty).more (by omega)⟩
        have he := HI.out.1
        subst he
        show Num w5 X5 d5 [prodW M (powF M a i) (prodW M a (18446744073709551616 ^ 2 % M))]
        rw [← HXX.out]
        exact H5.out.1
      case measure => first | exact msr1' i 15 HLT.out | (rw [w3]; exact msr1' i 15 HLT.out)
    · obtain rfl : i = 15 := by have := HI.out; omega
      obtain rfl : m = 16 := HI.out.1
      have t1 : decide (((15 : Nat) : Int) < 15) = false := by decide
      go_wp2_with fail
      go_ret
      exact ⟨_, _, rfl, HJ.out.2.1.weak (by omega), HS0.out.trans HJ.out.2.2.1, HJ.out.2.2.2⟩
end Go.Proofs.YtjpibgehhgaopaaGreat.Top
