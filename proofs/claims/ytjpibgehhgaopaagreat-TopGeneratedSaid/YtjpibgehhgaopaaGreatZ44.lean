/- The law's small agreement. -/
import Derived.Test.YtjpibgehhgaopaaGreatTjD
namespace Go.Proofs.YtjpibgehhgaopaaGreat.Top
open Go.RowKit Go.Proofs.YtjpibgehhgaopaaGreatW.PrintWords Go.Proofs.YtjpibgehhgaopaaGreatW.PrintLast Go.Proofs.YtjpibgehhgaopaaGreat.PTopGenerated
set_option linter.unusedVariables false
set_option linter.unusedSimpArgs false

/-- What Do answers of the small agreement. -/
def AwQ (pb : Option Addr × Nat × Nat) (h : Bool) (p0 : Option Addr × Nat × Nat) (x1 : Int) (p2 p3 p4 p5 p6 p7 : Option Addr × Nat × Nat) (x : Int) (W : World) : Prop :=
  x = 0 ∧ ∃ g, pb = (some ⟨g, 0, none⟩, 1, 1) ∧ W.heap[g]? = some (.cells #[.int .u8 16] 5 (0, 0))
theorem awDo (w : World) (Ag Ax Ay : Option Addr) (cg cx cy : Nat) (ha : Agr w Ag Ax Ay cg cx cy) :
    Calls Tryz.prog 5 #[.agg #[.int .i64 10, .slice none 0 0, .int .u64 0, .slice none 0 0, .slice none 0 0, .slice none 0 0, .slice none 0 0, .slice none 0 0, .slice none 0 0, .int .i64 0, .slice none 0 0, .slice Ay 1 cy, .slice none 0 0, .slice Ax 1 cx, .int .i64 0, .int .i64 0, .int .i64 0, .slice Ag 1 cg, .int .i64 0, .slice none 0 0]] w
      fun en w' => ∃ (g : Nat) (h : Bool) (p0 : Option Addr × Nat × Nat) (x1 : Int) (p2 p3 p4 p5 p6 p7 : Option Addr × Nat × Nat) (mm ss : Int), en = .returned (.agg #[.slice (some ⟨g, 0, none⟩) 1 1, .bool h, .slice p0.1 p0.2.1 p0.2.2, .int .u64 x1, .slice p2.1 p2.2.1 p2.2.2, .slice p3.1 p3.2.1 p3.2.2, .slice p4.1 p4.2.1 p4.2.2, .slice p5.1 p5.2.1 p5.2.2, .slice p6.1 p6.2.1 p6.2.2, .slice p7.1 p7.2.1 p7.2.2, .int .i64 0, .int .i64 mm, .int .u64 ss]) ∧
        Below w.heap.size w w' ∧ w'.heap[g]? = some (.cells #[.int .u8 16] 5 (0, 0)) := by
  refine (doG w 10 0 0 0 (Ay, 1, cy) (Ag, 1, cg) Ax 1 cx [3] ha.x rfl (by simp) (byt_one (by unfold Byt; omega)) AwQ ?_ ?_).mono ?_
  · rintro pb h p0 x1 p2 p3 p4 p5 p6 p7 x W W' _ hk ⟨h1, g, h2, h3⟩
    exact ⟨h1, g, h2, hk.keep _ _ 5 (.inl rfl) h3⟩
  · intro W pt tb sb hb hsb hpt hobj hT _
    refine (doneA w.heap.size pt tb sb 0 0 0 Ag Ax Ay cg cx cy W hobj hT (ha.below hb)).mono ?_
    rintro en W' ⟨g, rfl, hg, hs, ht⟩
    refine ⟨(some ⟨g, 0, none⟩, 1, 1), false, (none, 0, 0), 0, (none, 0, 0), (none, 0, 0), (none, 0, 0), (none, 0, 0), (none, 0, 0), (none, 0, 0), 0, rfl, hb.trans hs.bel, ⟨hs.size, fun k cur t ht' hk => hs.stay k _ hk (by simp) ?_ ?_⟩, ?_, rfl, g, rfl, hg⟩
    · intro cur' e
      injection e with _ e
      subst e
      simp at ht'
    · intro cur' e
      injection e with _ e
      subst e
      simp at ht'
    · obtain ⟨v, m, s, h⟩ := ht.cells
      exact ⟨v, m, s, h⟩
  · rintro en w' ⟨pb, h, p0, x1, p2, p3, p4, p5, p6, p7, x, mm, ss, rfl, hb, rfl, g, rfl, hg⟩
    exact ⟨g, h, p0, x1, p2, p3, p4, p5, p6, p7, mm, ss, rfl, hb, hg⟩
theorem byte_reads (w : World) (x : Int) : ReadsInt (w.alloc (.cells #[.int .u8 x] 5)) .u8 (some ⟨w.heap.size, 0, none⟩) 1 [x] :=
  ⟨rfl, by decide, fun _ => ⟨_, rfl, fun i hi => by
    obtain rfl : i = 0 := by omega
    exact blk_cell (heap_alloc_new _ _) 0⟩⟩
set_option maxRecDepth 100000 in
set_option maxHeartbeats 4000000 in
theorem awakeT (w : World) : Calls Tryz.prog 4 #[] w fun en w' => en = .returned (.bool true) ∧ Below w.heap.size w w' := by
  have hb1 := below_alloc (Below.refl w.heap.size w) (.cells #[.int .u64 23] 23)
  have hg1 := litNum w 23 (by omega)
  have hb2 := below_alloc (Below.refl (w.alloc (.cells #[.int .u64 23] 23)).heap.size (w.alloc (.cells #[.int .u64 23] 23))) (.cells #[.int .u8 3] 5)
  have hx2 := byte_reads (w.alloc (.cells #[.int .u64 23] 23)) 3
  have hb3 := below_alloc (Below.refl ((w.alloc (.cells #[.int .u64 23] 23)).alloc (.cells #[.int .u8 3] 5)).heap.size ((w.alloc (.cells #[.int .u64 23] 23)).alloc (.cells #[.int .u8 3] 5))) (.cells #[.int .u8 9] 5)
  have hy3 := byte_reads ((w.alloc (.cells #[.int .u64 23] 23)).alloc (.cells #[.int .u8 3] 5)) 9
  have HB := Aside0.mk (below_alloc (below_alloc hb1 (.cells #[.int .u8 3] 5)) (.cells #[.int .u8 9] 5))
  have hA : Agr (((w.alloc (.cells #[.int .u64 23] 23)).alloc (.cells #[.int .u8 3] 5)).alloc (.cells #[.int .u8 9] 5)) (some ⟨w.heap.size, 0, none⟩) (some ⟨w.heap.size + 1, 0, none⟩) (some ⟨w.heap.size + 1 + 1, 0, none⟩) 1 1 1 := by
    refine ⟨(hg1.below hb2).below hb3, ?_, ?_, Nat.le_refl _, ?_, Nat.le_refl _⟩
    · have := hx2.below hb3
      rwa [World.size_alloc] at this
    · rintro ad e
      injection e with e
      subst e
      refine ⟨#[.int .u8 3], ?_⟩
      have h2 := heap_alloc_new (w.alloc (.cells #[.int .u64 23] 23)) (.cells #[.int .u8 3] 5)
      rw [World.size_alloc] at h2
      exact blk_alloc h2 _
    · have := hy3
      rwa [World.size_alloc, World.size_alloc] at this
  have HDo := Aside0.mk (awDo _ _ _ _ _ _ _ hA)
  clear hb1 hg1 hb2 hx2 hb3 hy3 hA
  go_enter Tryz.func4, Tryz.ntmps4
  go_wp2_with fail
  refine HDo.out.mono ?_
  rintro en w2 ⟨g, h, p0, x1, p2, p3, p4, p5, p6, p7, mm, ss, rfl, hb, hg⟩
  have hu31 := Tryz.underlying31
  have h1 := heap_alloc_new w2 (.cells #[.slice (some ⟨g, 0, none⟩) 1 1, .bool h, .slice p0.1 p0.2.1 p0.2.2, .int .u64 x1, .slice p2.1 p2.2.1 p2.2.2, .slice p3.1 p3.2.1 p3.2.2, .slice p4.1 p4.2.1 p4.2.2, .slice p5.1 p5.2.1 p5.2.2, .slice p6.1 p6.2.1 p6.2.2, .slice p7.1 p7.2.1 p7.2.2, .int .i64 0, .int .i64 mm, .int .u64 ss] 31)
  have q0 : (w2.alloc (.cells #[.slice (some ⟨g, 0, none⟩) 1 1, .bool h, .slice p0.1 p0.2.1 p0.2.2, .int .u64 x1, .slice p2.1 p2.2.1 p2.2.2, .slice p3.1 p3.2.1 p3.2.2, .slice p4.1 p4.2.1 p4.2.2, .slice p5.1 p5.2.1 p5.2.2, .slice p6.1 p6.2.1 p6.2.2, .slice p7.1 p7.2.1 p7.2.2, .int .i64 0, .int .i64 mm, .int .u64 ss] 31)).cell? ⟨w2.heap.size, 0, none⟩ = some (.slice (some ⟨g, 0, none⟩) 1 1) := blk_cell h1 0
  have q10 : (w2.alloc (.cells #[.slice (some ⟨g, 0, none⟩) 1 1, .bool h, .slice p0.1 p0.2.1 p0.2.2, .int .u64 x1, .slice p2.1 p2.2.1 p2.2.2, .slice p3.1 p3.2.1 p3.2.2, .slice p4.1 p4.2.1 p4.2.2, .slice p5.1 p5.2.1 p5.2.2, .slice p6.1 p6.2.1 p6.2.2, .slice p7.1 p7.2.1 p7.2.2, .int .i64 0, .int .i64 mm, .int .u64 ss] 31)).cell? ⟨w2.heap.size, 10, none⟩ = some (.int .i64 0) := blk_cell h1 10
  have qg : (w2.alloc (.cells #[.slice (some ⟨g, 0, none⟩) 1 1, .bool h, .slice p0.1 p0.2.1 p0.2.2, .int .u64 x1, .slice p2.1 p2.2.1 p2.2.2, .slice p3.1 p3.2.1 p3.2.2, .slice p4.1 p4.2.1 p4.2.2, .slice p5.1 p5.2.1 p5.2.2, .slice p6.1 p6.2.1 p6.2.2, .slice p7.1 p7.2.1 p7.2.2, .int .i64 0, .int .i64 mm, .int .u64 ss] 31)).cell? ⟨g, 0, none⟩ = some (.int .u8 16) := blk_cell (blk_alloc hg _) 0
  have HE := Aside0.mk (below_alloc ((HB.out).trans (hb.mono HB.out.size)) (.cells #[.slice (some ⟨g, 0, none⟩) 1 1, .bool h, .slice p0.1 p0.2.1 p0.2.2, .int .u64 x1, .slice p2.1 p2.2.1 p2.2.2, .slice p3.1 p3.2.1 p3.2.2, .slice p4.1 p4.2.1 p4.2.2, .slice p5.1 p5.2.1 p5.2.2, .slice p6.1 p6.2.1 p6.2.2, .slice p7.1 p7.2.1 p7.2.2, .int .i64 0, .int .i64 mm, .int .u64 ss] 31))
  clear h1 hb hg HDo
  go_wp2_with fail
  go_ret
  exact ⟨rfl, HE.out⟩
end Go.Proofs.YtjpibgehhgaopaaGreat.Top
/- rsa's Do of a task that makes a key. -/
namespace Go.Proofs.YtjpibgehhgaopaaGreat.Top
open Go.RowKit Go.Proofs.YtjpibgehhgaopaaGreatW.PrintWords Go.Proofs.YtjpibgehhgaopaaGreatW.PrintLast Go.Proofs.YtjpibgehhgaopaaGreat.PTopGenerated
set_option linter.unusedVariables false
set_option linter.unusedSimpArgs false

/-- Parameters that fail. -/
def BadP (b k : Int) (e : Nat) : Prop := decide (b < 32) = true ∨ decide (b > 8192) = true ∨ (b.tmod 128 != 0) = true ∨ decide ((e : Int) < 3) = true ∨ (Go.bits .and .u64 (e : Int) 1 == 0) = true ∨ decide ((e : Int) / 4294967296 > 0) = true ∨ decide (k < 1) = true ∨ decide (k > 100) = true
/-- Parameters that are right. -/
def GoodP (b k : Int) (e : Nat) : Prop := b = 128 ∧ 3 ≤ e ∧ e % 2 = 1 ∧ e < 4294967296 ∧ 1 ≤ k ∧ k ≤ 100
theorem param_cases (b k : Int) (e : Nat) (hb : b ≤ 128) (he : e < 18446744073709551616) : BadP b k e ∨ GoodP b k e := by
  unfold BadP GoodP
  rw [and_oneN e he]
  by_cases h1 : b < 32
  · exact .inl (.inl (decide_eq_true h1))
  by_cases h2 : b = 128
  · subst h2
    by_cases h3 : (e : Int) < 3
    · exact .inl (.inr (.inr (.inr (.inl (decide_eq_true h3)))))
    by_cases h4 : e % 2 = 1
    · by_cases h5 : (e : Int) / 4294967296 > 0
      · exact .inl (.inr (.inr (.inr (.inr (.inr (.inl (decide_eq_true h5)))))))
      by_cases h6 : k < 1
      · exact .inl (.inr (.inr (.inr (.inr (.inr (.inr (.inl (decide_eq_true h6))))))))
      by_cases h7 : k > 100
      · exact .inl (.inr (.inr (.inr (.inr (.inr (.inr (.inr (decide_eq_true h7))))))))
      exact .inr ⟨rfl, by omega, h4, by omega, by omega, by omega⟩
    · refine .inl (.inr (.inr (.inr (.inr (.inl ?_)))))
      rw [show e % 2 = 0 by omega]
      rfl
  · refine .inl (.inr (.inr (.inl ?_)))
    simp only [bne_iff_ne, ne_eq]
    intro h
    have := Int.tmod_eq_emod_of_nonneg (a := b) (b := 128) (by omega)
    omega
/-- What Do answers of a key to be made: its key, its error. -/
def GenQ (e k : Nat) (bits rounds : Int) (ws : List Nat) (cs : Array Value) (x : Int) (W : World) : Prop :=
  (BadP bits rounds e ∧ cs = zeroKey ∧ x = 1) ∨ (GoodP bits rounds e ∧ rounds = (k : Int) ∧ ((pairW e k ws = none ∧ cs = zeroKey ∧ x = 150) ∨ (∃ p q r, pairW e k ws = some (p, q, r) ∧ ((Nat.gcd p q ≠ 1 ∧ cs = zeroKey ∧ x = 190) ∨ (Nat.gcd p q = 1 ∧ x = 0 ∧ KeyC W cs (keyF p q e))))))
theorem keyC_shape {W : World} {cs : Array Value} {k : KeyN} (h : KeyC W cs k) : ∃ (p0 : Option Addr × Nat × Nat) (x1 : Int) (p2 p3 p4 p5 p6 p7 : Option Addr × Nat × Nat), cs = #[.slice p0.1 p0.2.1 p0.2.2, .int .u64 x1, .slice p2.1 p2.2.1 p2.2.2, .slice p3.1 p3.2.1 p3.2.2, .slice p4.1 p4.2.1 p4.2.2, .slice p5.1 p5.2.1 p5.2.2, .slice p6.1 p6.2.1 p6.2.2, .slice p7.1 p7.2.1 p7.2.2] := by
  obtain ⟨n, AN, cN, AD, cD, AP, cP, AQ, cQ, A5, c5, A6, c6, A7, c7, e, _⟩ := h.has
  exact ⟨(AN, n, cN), (k.e : Int), (AD, n, cD), (AP, 1, cP), (AQ, 1, cQ), (A5, 1, c5), (A6, 1, c6), (A7, 1, c7), e⟩
theorem zero_shape : ∃ (p0 : Option Addr × Nat × Nat) (x1 : Int) (p2 p3 p4 p5 p6 p7 : Option Addr × Nat × Nat), zeroKey = #[.slice p0.1 p0.2.1 p0.2.2, .int .u64 x1, .slice p2.1 p2.2.1 p2.2.2, .slice p3.1 p3.2.1 p3.2.2, .slice p4.1 p4.2.1 p4.2.2, .slice p5.1 p5.2.1 p5.2.2, .slice p6.1 p6.2.1 p6.2.2, .slice p7.1 p7.2.1 p7.2.2] := ⟨(none, 0, 0), 0, (none, 0, 0), (none, 0, 0), (none, 0, 0), (none, 0, 0), (none, 0, 0), (none, 0, 0), rfl⟩
theorem But.of_below' {sb : Nat} {w w' : World} (h : Below w.heap.size w w') : But sb w w' := But.of_below h
theorem gen9 (e : Nat) (bits rounds : Int) (ws : List Nat) (W : World) (sb : Nat) (hs : SW W sb ws) (he : e < 18446744073709551616) (hb : bits ≤ 128) :
    Calls Tryz.prog 37 #[.pointer (some ⟨sb, 0, none⟩), .int .i64 bits, .int .u64 (e : Int), .int .i64 rounds] W fun en W' => ∃ (p0 : Option Addr × Nat × Nat) (x1 : Int) (p2 p3 p4 p5 p6 p7 : Option Addr × Nat × Nat) (x : Int), en = .returned (.tuple #[.agg #[.slice p0.1 p0.2.1 p0.2.2, .int .u64 x1, .slice p2.1 p2.2.1 p2.2.2, .slice p3.1 p3.2.1 p3.2.2, .slice p4.1 p4.2.1 p4.2.2, .slice p5.1 p5.2.1 p5.2.2, .slice p6.1 p6.2.1 p6.2.2, .slice p7.1 p7.2.1 p7.2.2], .int .i64 x]) ∧ But sb W W' ∧ GenQ e rounds.toNat bits rounds ws #[.slice p0.1 p0.2.1 p0.2.2, .int .u64 x1, .slice p2.1 p2.2.1 p2.2.2, .slice p3.1 p3.2.1 p3.2.2, .slice p4.1 p4.2.1 p4.2.2, .slice p5.1 p5.2.1 p5.2.2, .slice p6.1 p6.2.1 p6.2.2, .slice p7.1 p7.2.1 p7.2.2] x W' := by
  rcases param_cases bits rounds e hb he with hp | hp
  · refine (genFail W sb bits rounds e hp).mono ?_
    rintro en W' ⟨rfl, h2⟩
    obtain ⟨p0, x1, p2, p3, p4, p5, p6, p7, hz⟩ := zero_shape
    refine ⟨p0, x1, p2, p3, p4, p5, p6, p7, 1, by rw [hz], But.of_below h2, .inl ⟨hp, hz.symm, rfl⟩⟩
  · have hp' := hp
    obtain ⟨rfl, he3, heo, he2, hk1, hk⟩ := hp
    obtain ⟨k, rfl⟩ : ∃ k : Nat, rounds = (k : Int) := ⟨rounds.toNat, by omega⟩
    rw [Int.toNat_natCast]
    refine (genN W sb e k ws hs hs.words he3 heo he2 (by omega) (by omega)).mono ?_
    rintro en W' (⟨h1, rfl, h3, h4⟩ | ⟨p, q, r, h1, h3, h4, ⟨hg, rfl⟩ | ⟨hg, cs, rfl, hk⟩⟩)
    · obtain ⟨p0, x1, p2, p3, p4, p5, p6, p7, hz⟩ := zero_shape
      exact ⟨p0, x1, p2, p3, p4, p5, p6, p7, 150, by rw [hz], h4, .inr ⟨hp', rfl, .inl ⟨h1, hz.symm, rfl⟩⟩⟩
    · obtain ⟨p0, x1, p2, p3, p4, p5, p6, p7, hz⟩ := zero_shape
      exact ⟨p0, x1, p2, p3, p4, p5, p6, p7, 190, by rw [hz], h4, .inr ⟨hp', rfl, .inr ⟨p, q, r, h1, .inl ⟨hg, hz.symm, rfl⟩⟩⟩⟩
    · obtain ⟨p0, x1, p2, p3, p4, p5, p6, p7, hz⟩ := keyC_shape hk
      subst hz
      exact ⟨p0, x1, p2, p3, p4, p5, p6, p7, 0, rfl, h4, .inr ⟨hp', rfl, .inr ⟨p, q, r, h1, .inr ⟨hg, rfl, hk⟩⟩⟩⟩
theorem GenQ.kp {e k : Nat} {bits rounds : Int} {ws : List Nat} {cs : Array Value} {x : Int} {W W' : World} (h : GenQ e k bits rounds ws cs x W) (hk : Kp W W') : GenQ e k bits rounds ws cs x W' := by
  rcases h with h | ⟨h1, h2, h | ⟨p, q, r, h3, h | ⟨h4, h5, h6⟩⟩⟩
  · exact .inl h
  · exact .inr ⟨h1, h2, .inl h⟩
  · exact .inr ⟨h1, h2, .inr ⟨p, q, r, h3, .inl h⟩⟩
  · exact .inr ⟨h1, h2, .inr ⟨p, q, r, h3, .inr ⟨h4, h5, h6.kp hk⟩⟩⟩
/-- Do, of a key to be made. -/
theorem do9 (w : World) (e : Nat) (bits rounds : Int) (A : Option Addr) (n c : Nat) (bs : List Int) (hr : ReadsInt w .u8 A n bs) (hn : n = bs.length) (hl : bs.length ≤ 100000) (hby : ∀ j : Nat, Byt (rd bs (j : Int))) (he : e < 18446744073709551616) (hb : bits ≤ 128) :
    Calls Tryz.prog 5 #[.agg #[.int .i64 9, .slice none 0 0, .int .u64 (e : Int), .slice none 0 0, .slice none 0 0, .slice none 0 0, .slice none 0 0, .slice none 0 0, .slice none 0 0, .int .i64 0, .slice none 0 0, .slice none 0 0, .slice none 0 0, .slice A n c, .int .i64 0, .int .i64 bits, .int .i64 rounds, .slice none 0 0, .int .i64 0, .slice none 0 0]] w
      fun en w' => ∃ (pb : Option Addr × Nat × Nat) (h : Bool) (p0 : Option Addr × Nat × Nat) (x1 : Int) (p2 p3 p4 p5 p6 p7 : Option Addr × Nat × Nat) (x mm ss : Int), en = .returned (.agg #[.slice pb.1 pb.2.1 pb.2.2, .bool h, .slice p0.1 p0.2.1 p0.2.2, .int .u64 x1, .slice p2.1 p2.2.1 p2.2.2, .slice p3.1 p3.2.1 p3.2.2, .slice p4.1 p4.2.1 p4.2.2, .slice p5.1 p5.2.1 p5.2.2, .slice p6.1 p6.2.1 p6.2.2, .slice p7.1 p7.2.1 p7.2.2, .int .i64 x, .int .i64 mm, .int .u64 ss]) ∧ Below w.heap.size w w' ∧ GenQ e rounds.toNat bits rounds (wordsOf bs) #[.slice p0.1 p0.2.1 p0.2.2, .int .u64 x1, .slice p2.1 p2.2.1 p2.2.2, .slice p3.1 p3.2.1 p3.2.2, .slice p4.1 p4.2.1 p4.2.2, .slice p5.1 p5.2.1 p5.2.2, .slice p6.1 p6.2.1 p6.2.2, .slice p7.1 p7.2.1 p7.2.2] x w' := by
  refine (doG w 9 (e : Int) bits rounds (none, 0, 0) (none, 0, 0) A n c bs hr hn hl hby (fun pb h p0 x1 p2 p3 p4 p5 p6 p7 x W => GenQ e rounds.toNat bits rounds (wordsOf bs) #[.slice p0.1 p0.2.1 p0.2.2, .int .u64 x1, .slice p2.1 p2.2.1 p2.2.2, .slice p3.1 p3.2.1 p3.2.2, .slice p4.1 p4.2.1 p4.2.2, .slice p5.1 p5.2.1 p5.2.2, .slice p6.1 p6.2.1 p6.2.2, .slice p7.1 p7.2.1 p7.2.2] x W) ?_ ?_)
  · intro pb h p0 x1 p2 p3 p4 p5 p6 p7 x W W' hk _ hq
    exact hq.kp hk
  · intro W pt tb sb hbl hsb hpt hobj hT hsc
    have hsw : SW W sb (wordsOf bs) := ⟨bs, 0, hsc, by rw [List.drop_zero]⟩
    refine (doneK pt tb sb (e : Int) bits rounds A n c W (by omega) hobj hsw.lt (fun cs x W => GenQ e rounds.toNat bits rounds (wordsOf bs) cs x W) (fun cs x W W' hk _ hq => hq.kp hk) (fun W' hb' => gen9 e bits rounds (wordsOf bs) W' sb (hsw.below hb') he hb)).mono ?_
    rintro en W' ⟨p0, x1, p2, p3, p4, p5, p6, p7, x, rfl, hbt, hq⟩
    obtain ⟨A0, c0, hsb', _⟩ := hsc.has
    refine ⟨(none, 0, 0), false, p0, x1, p2, p3, p4, p5, p6, p7, x, rfl, hbt.below hbl hsb, ⟨hbt.size, fun k cur t ht hk => (hbt.block k (blk_lt hk) ?_).trans hk⟩, ?_, hq⟩
    · rintro rfl
      rw [hsb'] at hk
      injection hk with hk
      injection hk with _ hk
      subst hk
      simp at ht
    · obtain ⟨v, m, s, h⟩ := hT.cells
      refine ⟨v, m, s, (hbt.block tb (blk_lt h) ?_).trans h⟩
      rintro rfl
      rw [hsb'] at h
      injection h with h
      injection h with _ h
      exact absurd h (by decide)
end Go.Proofs.YtjpibgehhgaopaaGreat.Top
