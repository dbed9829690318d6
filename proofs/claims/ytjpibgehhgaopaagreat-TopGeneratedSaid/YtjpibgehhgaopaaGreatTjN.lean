/- The walk of TopGenerated. -/
import Derived.Test.YtjpibgehhgaopaaGreatTjM
namespace Go.Proofs.YtjpibgehhgaopaaGreat.Top
open Go.RowKit Go.Proofs.YtjpibgehhgaopaaGreatW.PrintWords Go.Proofs.YtjpibgehhgaopaaGreatW.PrintLast Go.Proofs.YtjpibgehhgaopaaGreat.PTopGenerated
set_option linter.unusedVariables false
set_option linter.unusedSimpArgs false

theorem triple_nil {p : Option Addr × Nat × Nat} (h : p.1 = none ∧ p.2.1 = 0 ∧ p.2.2 = 0) : p = (none, 0, 0) := by
  obtain ⟨a, b, c⟩ := p
  obtain ⟨h1, h2, h3⟩ := h
  simp at h1 h2 h3
  rw [h1, h2, h3]
theorem zero_parts {x1 : Int} {p0 p2 p3 p4 p5 p6 p7 : Option Addr × Nat × Nat} (h : (#[.slice p0.1 p0.2.1 p0.2.2, .int .u64 x1, .slice p2.1 p2.2.1 p2.2.2, .slice p3.1 p3.2.1 p3.2.2, .slice p4.1 p4.2.1 p4.2.2, .slice p5.1 p5.2.1 p5.2.2, .slice p6.1 p6.2.1 p6.2.2, .slice p7.1 p7.2.1 p7.2.2] : Array Value) = zeroKey) : p0 = (none, 0, 0) ∧ x1 = 0 ∧ p2 = (none, 0, 0) ∧ p3 = (none, 0, 0) ∧ p4 = (none, 0, 0) ∧ p5 = (none, 0, 0) ∧ p6 = (none, 0, 0) ∧ p7 = (none, 0, 0) := by
  simp [zeroKey] at h
  obtain ⟨h0, h1, h2, h3, h4, h5, h6, h7⟩ := h
  exact ⟨triple_nil h0, h1, triple_nil h2, triple_nil h3, triple_nil h4, triple_nil h5, triple_nil h6, triple_nil h7⟩
theorem keyC_parts {W : World} {x1 : Int} {p0 p2 p3 p4 p5 p6 p7 : Option Addr × Nat × Nat} {k : KeyN} (h : KeyC W #[.slice p0.1 p0.2.1 p0.2.2, .int .u64 x1, .slice p2.1 p2.2.1 p2.2.2, .slice p3.1 p3.2.1 p3.2.2, .slice p4.1 p4.2.1 p4.2.2, .slice p5.1 p5.2.1 p5.2.2, .slice p6.1 p6.2.1 p6.2.2, .slice p7.1 p7.2.1 p7.2.2] k) : p0.2.1 = (lw k.n).length ∧ Num W p0.1 p0.2.2 (lw k.n) ∧ p3.2.1 = 1 ∧ Num W p3.1 p3.2.2 [k.p] ∧ p4.2.1 = 1 ∧ Num W p4.1 p4.2.2 [k.q] := by
  obtain ⟨n, AN, cN, AD, cD, AP, cP, AQ, cQ, A5, c5, A6, c6, A7, c7, e1, hl, a1, a2, a3, a4, a5, a6, a7⟩ := h.has
  simp at e1
  obtain ⟨⟨r1, r2, r3⟩, _, _, ⟨t1, t2, t3⟩, ⟨u1, u2, u3⟩, _⟩ := e1
  exact ⟨by rw [r2, hl], by rw [r1, r3]; exact a1, t2, by rw [t1, t3]; exact a3, u2, by rw [u1, u3]; exact a4⟩
theorem reads_take {w : World} {A : Option Addr} {bs : List Int} (h : ReadsInt w .u8 A bs.length bs) (k : Nat) (hk : k ≤ bs.length) : ReadsInt w .u8 A k (bs.take k) := by
  refine ⟨by rw [List.length_take]; omega, by have := h.2.1; omega, fun hp => ?_⟩
  obtain ⟨ad, e, hc⟩ := h.2.2 (by omega)
  refine ⟨ad, e, fun i hi => ?_⟩
  rw [hc i (by omega)]
  simp [List.getD_eq_getElem?_getD, List.getElem?_take, hi]
theorem byt_take {bs : List Int} (h : ∀ j : Nat, Byt (rd bs (j : Int))) (k : Nat) : ∀ j : Nat, Byt (rd (bs.take k) (j : Int)) := by
  intro j
  have hj := h j
  unfold rd at hj ⊢
  rw [Int.toNat_natCast, List.getD_eq_getElem?_getD] at hj ⊢
  rw [List.getElem?_take]
  split
  · exact hj
  · unfold Byt
    simp
theorem byt_nil : ∀ j : Nat, Byt (rd [] (j : Int)) := by
  intro j
  unfold rd Byt
  simp
theorem reads_nil (w : World) : ReadsInt w .u8 none 0 [] := ⟨rfl, by decide, fun h => by omega⟩
set_option maxHeartbeats 4000000 in
set_option maxRecDepth 100000 in
/-- Where the law asks nothing. -/
theorem topSkip (A : Option Addr) (c n : Nat) (w : World) (bits rounds cut e : Int) (h : (n : Int) > 3000 ∨ bits > 128 ∨ cut < 0 ∨ cut > (n : Int)) :
    Calls Tryz.prog 3 #[.slice A n c, .int .i64 bits, .int .u64 e, .int .i64 rounds, .int .i64 cut] w fun x w' => x = .returned (.bool true) ∧ Below w.heap.size w w' := by
  by_cases h1 : (n : Int) > 3000
  · have t1 : decide ((n : Int) > 3000) = true := decide_eq_true h1
    clear h h1
    go_enter Tryz.func3, Tryz.ntmps3
    go_wp2_with fail
    refine (awakeT w).mono ?_
    rintro x w1 ⟨rfl, hb⟩
    have HB := Aside0.mk hb
    go_wp2_with fail
    go_ret
    exact ⟨rfl, HB.out⟩
  have t1 : decide ((n : Int) > 3000) = false := decide_eq_false h1
  by_cases h2 : bits > 128
  · have t2 : decide (bits > 128) = true := decide_eq_true h2
    clear h h1 h2
    go_enter Tryz.func3, Tryz.ntmps3
    go_wp2_with fail
    refine (awakeT w).mono ?_
    rintro x w1 ⟨rfl, hb⟩
    have HB := Aside0.mk hb
    go_wp2_with fail
    go_ret
    exact ⟨rfl, HB.out⟩
  have t2 : decide (bits > 128) = false := decide_eq_false h2
  by_cases h3 : cut < 0
  · have t3 : decide (cut < 0) = true := decide_eq_true h3
    clear h h1 h2 h3
    go_enter Tryz.func3, Tryz.ntmps3
    go_wp2_with fail
    refine (awakeT w).mono ?_
    rintro x w1 ⟨rfl, hb⟩
    have HB := Aside0.mk hb
    go_wp2_with fail
    go_ret
    exact ⟨rfl, HB.out⟩
  have t3 : decide (cut < 0) = false := decide_eq_false h3
  have t4 : decide (cut > (n : Int)) = true := decide_eq_true (by omega)
  clear h h1 h2 h3
  go_enter Tryz.func3, Tryz.ntmps3
  go_wp2_with fail
  refine (awakeT w).mono ?_
  rintro x w1 ⟨rfl, hb⟩
  have HB := Aside0.mk hb
  go_wp2_with fail
  go_ret
  exact ⟨rfl, HB.out⟩
set_option maxHeartbeats 8000000 in
set_option maxRecDepth 100000 in
theorem topMain (A : Option Addr) (c n : Nat) (bs : List Int) (w : World) (bits rounds : Int) (e cut : Nat) (hn : n = bs.length) (hr : ReadsInt w .u8 A n bs) (hcap : n ≤ c) (hby : ∀ j : Nat, Byt (rd bs (j : Int))) (he : e < 18446744073709551616) (hl : n ≤ 3000) (hb : bits ≤ 128) (hc : cut ≤ n) :
    Calls Tryz.prog 3 #[.slice A n c, .int .i64 bits, .int .u64 (e : Int), .int .i64 rounds, .int .i64 (cut : Int)] w fun x w' => x = .returned (.bool true) ∧ Below w.heap.size w w' := by
  have t1 : decide ((n : Int) > 3000) = false := by rw [decide_eq_false_iff_not]; omega
  have t2 : decide (bits > 128) = false := by rw [decide_eq_false_iff_not]; omega
  have t3 : decide ((cut : Int) < 0) = false := by rw [decide_eq_false_iff_not]; omega
  have t4 : decide ((cut : Int) > (n : Int)) = false := by rw [decide_eq_false_iff_not]; omega
  have t1' : decide (3000 < n) = false := by rw [decide_eq_false_iff_not]; omega
  have t4' : decide (n < cut) = false := by rw [decide_eq_false_iff_not]; omega
  have H := Aside0.mk (And.intro hr (And.intro hby (And.intro he (And.intro hl (And.intro hb hc)))))
  have s1 : (0 : Int) ≤ (cut : Int) := by omega
  have s2 : (cut : Int) ≤ (c : Int) := by omega
  have s3 : (cut : Int) ≤ (n : Int) := by omega
  have s2' : cut ≤ c := by omega
  have s3' : cut ≤ n := by omega
  have HC := Aside0.mk hcap
  have HN := Aside0.mk hn
  clear hr hby he hl hb hc hcap hn
  go_enter Tryz.func3, Tryz.ntmps3
  go_wp2_with fail
  refine (awakeT w).mono ?_
  rintro x w1 ⟨rfl, hb1⟩
  have HB1 := Aside0.mk hb1
  have HD := Aside0.mk (do9 w1 e bits rounds A n c bs (H.out.1.below hb1) HN.out (by have := H.out.2.2.2.1; have := HN.out; omega) H.out.2.1 H.out.2.2.1 H.out.2.2.2.2.1)
  clear hb1
  go_wp2_with fail
  refine HD.out.mono ?_
  rintro en w2 ⟨pb, h, p0, x1, p2, p3, p4, p5, p6, p7, x, mm, ss, rfl, hb2, hq⟩
  have hu31 := Tryz.underlying31
  have hu28 := Tryz.underlying28
  have HF2 := Aside0.mk (((Fr.nil w).mv (HB1.out.trans (hb2.mono HB1.out.size))).alloc (.cells #[.slice pb.1 pb.2.1 pb.2.2, .bool h, .slice p0.1 p0.2.1 p0.2.2, .int .u64 x1, .slice p2.1 p2.2.1 p2.2.2, .slice p3.1 p3.2.1 p3.2.2, .slice p4.1 p4.2.1 p4.2.2, .slice p5.1 p5.2.1 p5.2.2, .slice p6.1 p6.2.1 p6.2.2, .slice p7.1 p7.2.1 p7.2.2, .int .i64 x, .int .i64 mm, .int .u64 ss] 31))
  simp only [List.nil_append] at HF2
  have hba := below_alloc (Below.refl w2.heap.size w2) (.cells #[.slice pb.1 pb.2.1 pb.2.2, .bool h, .slice p0.1 p0.2.1 p0.2.2, .int .u64 x1, .slice p2.1 p2.2.1 p2.2.2, .slice p3.1 p3.2.1 p3.2.2, .slice p4.1 p4.2.1 p4.2.2, .slice p5.1 p5.2.1 p5.2.2, .slice p6.1 p6.2.1 p6.2.2, .slice p7.1 p7.2.1 p7.2.2, .int .i64 x, .int .i64 mm, .int .u64 ss] 31)
  have HQ := Aside0.mk (hq.kp (Kp.of_below hba))
  have a2 : (w2.alloc (.cells #[.slice pb.1 pb.2.1 pb.2.2, .bool h, .slice p0.1 p0.2.1 p0.2.2, .int .u64 x1, .slice p2.1 p2.2.1 p2.2.2, .slice p3.1 p3.2.1 p3.2.2, .slice p4.1 p4.2.1 p4.2.2, .slice p5.1 p5.2.1 p5.2.2, .slice p6.1 p6.2.1 p6.2.2, .slice p7.1 p7.2.1 p7.2.2, .int .i64 x, .int .i64 mm, .int .u64 ss] 31)).cell? ⟨w2.heap.size, 2, none⟩ = some (.slice p0.1 p0.2.1 p0.2.2) := blk_cell (HF2.out.at 0 rfl) 2
  have a3 : (w2.alloc (.cells #[.slice pb.1 pb.2.1 pb.2.2, .bool h, .slice p0.1 p0.2.1 p0.2.2, .int .u64 x1, .slice p2.1 p2.2.1 p2.2.2, .slice p3.1 p3.2.1 p3.2.2, .slice p4.1 p4.2.1 p4.2.2, .slice p5.1 p5.2.1 p5.2.2, .slice p6.1 p6.2.1 p6.2.2, .slice p7.1 p7.2.1 p7.2.2, .int .i64 x, .int .i64 mm, .int .u64 ss] 31)).cell? ⟨w2.heap.size, 3, none⟩ = some (.int .u64 x1) := blk_cell (HF2.out.at 0 rfl) 3
  have a4 : (w2.alloc (.cells #[.slice pb.1 pb.2.1 pb.2.2, .bool h, .slice p0.1 p0.2.1 p0.2.2, .int .u64 x1, .slice p2.1 p2.2.1 p2.2.2, .slice p3.1 p3.2.1 p3.2.2, .slice p4.1 p4.2.1 p4.2.2, .slice p5.1 p5.2.1 p5.2.2, .slice p6.1 p6.2.1 p6.2.2, .slice p7.1 p7.2.1 p7.2.2, .int .i64 x, .int .i64 mm, .int .u64 ss] 31)).cell? ⟨w2.heap.size, 4, none⟩ = some (.slice p2.1 p2.2.1 p2.2.2) := blk_cell (HF2.out.at 0 rfl) 4
  have a5 : (w2.alloc (.cells #[.slice pb.1 pb.2.1 pb.2.2, .bool h, .slice p0.1 p0.2.1 p0.2.2, .int .u64 x1, .slice p2.1 p2.2.1 p2.2.2, .slice p3.1 p3.2.1 p3.2.2, .slice p4.1 p4.2.1 p4.2.2, .slice p5.1 p5.2.1 p5.2.2, .slice p6.1 p6.2.1 p6.2.2, .slice p7.1 p7.2.1 p7.2.2, .int .i64 x, .int .i64 mm, .int .u64 ss] 31)).cell? ⟨w2.heap.size, 5, none⟩ = some (.slice p3.1 p3.2.1 p3.2.2) := blk_cell (HF2.out.at 0 rfl) 5
  have a6 : (w2.alloc (.cells #[.slice pb.1 pb.2.1 pb.2.2, .bool h, .slice p0.1 p0.2.1 p0.2.2, .int .u64 x1, .slice p2.1 p2.2.1 p2.2.2, .slice p3.1 p3.2.1 p3.2.2, .slice p4.1 p4.2.1 p4.2.2, .slice p5.1 p5.2.1 p5.2.2, .slice p6.1 p6.2.1 p6.2.2, .slice p7.1 p7.2.1 p7.2.2, .int .i64 x, .int .i64 mm, .int .u64 ss] 31)).cell? ⟨w2.heap.size, 6, none⟩ = some (.slice p4.1 p4.2.1 p4.2.2) := blk_cell (HF2.out.at 0 rfl) 6
  have a7 : (w2.alloc (.cells #[.slice pb.1 pb.2.1 pb.2.2, .bool h, .slice p0.1 p0.2.1 p0.2.2, .int .u64 x1, .slice p2.1 p2.2.1 p2.2.2, .slice p3.1 p3.2.1 p3.2.2, .slice p4.1 p4.2.1 p4.2.2, .slice p5.1 p5.2.1 p5.2.2, .slice p6.1 p6.2.1 p6.2.2, .slice p7.1 p7.2.1 p7.2.2, .int .i64 x, .int .i64 mm, .int .u64 ss] 31)).cell? ⟨w2.heap.size, 7, none⟩ = some (.slice p5.1 p5.2.1 p5.2.2) := blk_cell (HF2.out.at 0 rfl) 7
  have a8 : (w2.alloc (.cells #[.slice pb.1 pb.2.1 pb.2.2, .bool h, .slice p0.1 p0.2.1 p0.2.2, .int .u64 x1, .slice p2.1 p2.2.1 p2.2.2, .slice p3.1 p3.2.1 p3.2.2, .slice p4.1 p4.2.1 p4.2.2, .slice p5.1 p5.2.1 p5.2.2, .slice p6.1 p6.2.1 p6.2.2, .slice p7.1 p7.2.1 p7.2.2, .int .i64 x, .int .i64 mm, .int .u64 ss] 31)).cell? ⟨w2.heap.size, 8, none⟩ = some (.slice p6.1 p6.2.1 p6.2.2) := blk_cell (HF2.out.at 0 rfl) 8
  have a9 : (w2.alloc (.cells #[.slice pb.1 pb.2.1 pb.2.2, .bool h, .slice p0.1 p0.2.1 p0.2.2, .int .u64 x1, .slice p2.1 p2.2.1 p2.2.2, .slice p3.1 p3.2.1 p3.2.2, .slice p4.1 p4.2.1 p4.2.2, .slice p5.1 p5.2.1 p5.2.2, .slice p6.1 p6.2.1 p6.2.2, .slice p7.1 p7.2.1 p7.2.2, .int .i64 x, .int .i64 mm, .int .u64 ss] 31)).cell? ⟨w2.heap.size, 9, none⟩ = some (.slice p7.1 p7.2.1 p7.2.2) := blk_cell (HF2.out.at 0 rfl) 9
  have a10 : (w2.alloc (.cells #[.slice pb.1 pb.2.1 pb.2.2, .bool h, .slice p0.1 p0.2.1 p0.2.2, .int .u64 x1, .slice p2.1 p2.2.1 p2.2.2, .slice p3.1 p3.2.1 p3.2.2, .slice p4.1 p4.2.1 p4.2.2, .slice p5.1 p5.2.1 p5.2.2, .slice p6.1 p6.2.1 p6.2.2, .slice p7.1 p7.2.1 p7.2.2, .int .i64 x, .int .i64 mm, .int .u64 ss] 31)).cell? ⟨w2.heap.size, 10, none⟩ = some (.int .i64 x) := blk_cell (HF2.out.at 0 rfl) 10
  clear hba hq hb2 HD
  rcases genQ_ok HQ.out with ⟨hx0, hz⟩ | ⟨hx0, hbits, hgood, p, q, r, hp, hgcd, hkey, hmade, hfp, hfq, hp3, hq3⟩
  · obtain ⟨rfl, rfl, rfl, rfl, rfl, rfl, rfl, rfl⟩ := zero_parts hz
    have hne : (x != 0) = true := by rw [bne_iff_ne]; exact hx0
    have hne2 : ¬ x = 0 := hx0
    have hsk := sameK_nil (w2.alloc (.cells #[.slice pb.1 pb.2.1 pb.2.2, .bool h, .slice none 0 0, .int .u64 0, .slice none 0 0, .slice none 0 0, .slice none 0 0, .slice none 0 0, .slice none 0 0, .slice none 0 0, .int .i64 x, .int .i64 mm, .int .u64 ss] 31))
    have HS6 := Aside0.mk (same6T (w2.alloc (.cells #[.slice pb.1 pb.2.1 pb.2.2, .bool h, .slice none 0 0, .int .u64 0, .slice none 0 0, .slice none 0 0, .slice none 0 0, .slice none 0 0, .slice none 0 0, .slice none 0 0, .int .i64 x, .int .i64 mm, .int .u64 ss] 31)) 0 (none, 0, 0) (none, 0, 0) (none, 0, 0) (none, 0, 0) (none, 0, 0) (none, 0, 0) (none, 0, 0) (none, 0, 0) (none, 0, 0) (none, 0, 0) (none, 0, 0) (none, 0, 0) (none, 0, 0) (none, 0, 0) hsk hsk hsk hsk hsk hsk hsk)
    clear hx0 hz hsk HQ
    go_wp2_with fail
    refine HS6.out.mono ?_
    rintro en w3 ⟨rfl, hb3⟩
    have HF3 := Aside0.mk (HF2.out.mv hb3)
    clear hb3 a2 a3 a4 a5 a6 a7 a8 a9 a10
    go_wp2_with fail
    go_ret
    exact ⟨rfl, HF3.out.bel⟩
  · subst hx0
    subst hbits
    have hpar := keyC_parts hkey
    obtain ⟨hn1, hn2⟩ := mul_bounds hp3 hq3 hmade.pw hmade.qw
    obtain ⟨lo, hi, hlw, hhi, hhi2⟩ := lw_two hn1 hn2
    have hlw' : lw (keyF p q e).n = [lo, hi] := hlw
    rw [hlw'] at hpar
    obtain ⟨k1, k2, k3, k4, k5, k6⟩ := hpar
    obtain ⟨A0, n0, c0⟩ := p0
    obtain ⟨A3, n3, c3⟩ := p3
    obtain ⟨A4, n4, c4⟩ := p4
    simp only [List.length_cons, List.length_nil, Nat.zero_add, Nat.reduceAdd] at k1 k2 k3 k4 k5 k6 a2 a3 a4 a5 a6 a7 a8 a9 a10 hkey HF2
    subst k1
    subst k3
    subst k5
    have HOf := Aside0.mk (ofR A0 c0 [lo, hi] hi _ k2 (by simp) (by simp) rfl (by omega))
    have HK := Aside0.mk (And.intro hgood (And.intro hp (And.intro hgcd (And.intro hkey (And.intro hmade (And.intro hfp (And.intro hfq (And.intro hp3 (And.intro hq3 (And.intro hhi (And.intro hhi2 (And.intro k4 k6))))))))))))
    have HNl := Aside0.mk (show (keyF p q e).n < 18446744073709551616 ^ 2 from Nat.lt_of_lt_of_eq hn2 (by decide))
    clear hgood hp hgcd hkey hmade hfp hfq hp3 hq3 hhi hhi2 k2 k4 k6 hn1 hn2 hlw hlw' HQ
    go_wp2_with fail
    refine HOf.out.mono ?_
    rintro en w3 ⟨g, c', rfl, hrd, hb3⟩
    have HF3 := Aside0.mk (HF2.out.mv hb3)
    have HK3 := Aside0.mk (And.intro (HK.out.2.2.2.1.kp (Kp.of_below hb3)) (And.intro (HK.out.2.2.2.2.2.2.2.2.2.2.2.1.below hb3) (HK.out.2.2.2.2.2.2.2.2.2.2.2.2.below hb3)))
    have HBl := Aside0.mk (bitLenR g c' (spl [lo, hi]) (hi / 4294967296) w3 hrd rfl (by have := HK.out.2.2.2.2.2.2.2.2.2.1; omega) (by have := HK.out.2.2.2.2.2.2.2.2.2.2.1; omega))
    clear hrd hb3 a2 a3 a4 a5 a6 a7 a8 a9 a10 HOf
    go_wp2_with fail
    refine HBl.out.mono ?_
    rintro en w4 ⟨rfl, hw4⟩
    have hw5 := hw4.symm
    clear hw4
    subst hw5
    have b2 : w3.cell? ⟨w2.heap.size, 2, none⟩ = some (.slice A0 2 c0) := blk_cell (HF3.out.at 0 rfl) 2
    have b3 : w3.cell? ⟨w2.heap.size, 3, none⟩ = some (.int .u64 x1) := blk_cell (HF3.out.at 0 rfl) 3
    have b4 : w3.cell? ⟨w2.heap.size, 4, none⟩ = some (.slice p2.1 p2.2.1 p2.2.2) := blk_cell (HF3.out.at 0 rfl) 4
    have b5 : w3.cell? ⟨w2.heap.size, 5, none⟩ = some (.slice A3 1 c3) := blk_cell (HF3.out.at 0 rfl) 5
    have b6 : w3.cell? ⟨w2.heap.size, 6, none⟩ = some (.slice A4 1 c4) := blk_cell (HF3.out.at 0 rfl) 6
    have b7 : w3.cell? ⟨w2.heap.size, 7, none⟩ = some (.slice p5.1 p5.2.1 p5.2.2) := blk_cell (HF3.out.at 0 rfl) 7
    have b8 : w3.cell? ⟨w2.heap.size, 8, none⟩ = some (.slice p6.1 p6.2.1 p6.2.2) := blk_cell (HF3.out.at 0 rfl) 8
    have b9 : w3.cell? ⟨w2.heap.size, 9, none⟩ = some (.slice p7.1 p7.2.1 p7.2.2) := blk_cell (HF3.out.at 0 rfl) 9
    have b10 : w3.cell? ⟨w2.heap.size, 10, none⟩ = some (.int .i64 0) := blk_cell (HF3.out.at 0 rfl) 10
    have HCk := Aside0.mk (checkK _ p q e w3 HK3.out.1 HK.out.2.2.2.2.1 HK.out.2.2.1)
    go_wp2_with fail
    refine HCk.out.mono ?_
    rintro en w5 ⟨rfl, hb5⟩
    have HF5 := Aside0.mk (HF3.out.mv hb5)
    have HK5 := Aside0.mk (And.intro (HK3.out.1.kp (Kp.of_below hb5)) (And.intro (HK3.out.2.1.below hb5) (HK3.out.2.2.below hb5)))
    clear hb5 b2 b3 b4 b5 b6 b7 b8 b9 b10 HCk HBl
    have d2 : w5.cell? ⟨w2.heap.size, 2, none⟩ = some (.slice A0 2 c0) := blk_cell (HF5.out.at 0 rfl) 2
    have d3 : w5.cell? ⟨w2.heap.size, 3, none⟩ = some (.int .u64 x1) := blk_cell (HF5.out.at 0 rfl) 3
    have d4 : w5.cell? ⟨w2.heap.size, 4, none⟩ = some (.slice p2.1 p2.2.1 p2.2.2) := blk_cell (HF5.out.at 0 rfl) 4
    have d5 : w5.cell? ⟨w2.heap.size, 5, none⟩ = some (.slice A3 1 c3) := blk_cell (HF5.out.at 0 rfl) 5
    have d6 : w5.cell? ⟨w2.heap.size, 6, none⟩ = some (.slice A4 1 c4) := blk_cell (HF5.out.at 0 rfl) 6
    have d7 : w5.cell? ⟨w2.heap.size, 7, none⟩ = some (.slice p5.1 p5.2.1 p5.2.2) := blk_cell (HF5.out.at 0 rfl) 7
    have d8 : w5.cell? ⟨w2.heap.size, 8, none⟩ = some (.slice p6.1 p6.2.1 p6.2.2) := blk_cell (HF5.out.at 0 rfl) 8
    have d9 : w5.cell? ⟨w2.heap.size, 9, none⟩ = some (.slice p7.1 p7.2.1 p7.2.2) := blk_cell (HF5.out.at 0 rfl) 9
    have d10 : w5.cell? ⟨w2.heap.size, 10, none⟩ = some (.int .i64 0) := blk_cell (HF5.out.at 0 rfl) 10
    have hbl := below_alloc (Below.refl w5.heap.size w5) (.cells #[.slice A3 1 c3, .slice A4 1 c4] 26)
    have HF6 := Aside0.mk (HF5.out.alloc (.cells #[.slice A3 1 c3, .slice A4 1 c4] 26))
    simp only [List.nil_append, List.cons_append] at HF6
    have HK6 := Aside0.mk (And.intro (HK5.out.1.kp (Kp.of_below hbl)) (And.intro (HK5.out.2.1.below hbl) (HK5.out.2.2.below hbl)))
    obtain ⟨bl, hbl2⟩ : ∃ bl, bl = w5.heap.size := ⟨_, rfl⟩
    have HBl2 := Aside0.mk hbl2
    rw [← hbl2] at HF6
    clear hbl hbl2
    go_wp2_with fail
    go_loopw [72] (fun v72 wr => ∃ i : Nat, v72 = .int .i64 (i : Int) ∧ Aside0 (i ≤ 2 ∧ Fr w wr [(w2.heap.size, .cells #[.slice pb.1 pb.2.1 pb.2.2, .bool h, .slice A0 2 c0, .int .u64 x1, .slice p2.1 p2.2.1 p2.2.2, .slice A3 1 c3, .slice A4 1 c4, .slice p5.1 p5.2.1 p5.2.2, .slice p6.1 p6.2.1 p6.2.2, .slice p7.1 p7.2.1 p7.2.2, .int .i64 0, .int .i64 mm, .int .u64 ss] 31), (bl, .cells #[.slice A3 1 c3, .slice A4 1 c4] 26)] ∧ KeyC wr #[.slice A0 2 c0, .int .u64 x1, .slice p2.1 p2.2.1 p2.2.2, .slice A3 1 c3, .slice A4 1 c4, .slice p5.1 p5.2.1 p5.2.2, .slice p6.1 p6.2.1 p6.2.2, .slice p7.1 p7.2.1 p7.2.2] (keyF p q e) ∧ Num wr A3 c3 [p] ∧ Num wr A4 c4 [q])) (fun v72 _ => 2 - (intOf v72).toNat)
    case atStart => exact ⟨0, rfl, ⟨by omega, HF6.out, HK6.out.1, HK6.out.2.1, HK6.out.2.2⟩⟩
    case round =>
      obtain ⟨i, rfl, HI⟩ := hrel
      rw [← HBl2.out]
      by_cases hlt : i < 2
      · have HLT := Aside0.mk hlt
        have u1 : decide ((i : Int) < 2) = true := by rw [decide_eq_true_eq]; omega
        have u1' : decide (i < 2) = true := by rw [decide_eq_true_eq]; omega
        have u2 : wrap64 ((i : Int) + 1) = ((i + 1 : Nat) : Int) := wrap64_id (by omega) (by omega)
        have u3 : (0 : Int) ≤ (i : Int) := by omega
        have u4 : (i : Int) < 2 := by omega
        obtain ⟨Ai, ci, M, hcell, hnum, hodd, hbig, hMw, hpass⟩ : ∃ Ai ci M, wr.cell? ⟨bl, i, none⟩ = some (.slice Ai 1 ci) ∧ Num wr Ai ci [M] ∧ M % 2 = 1 ∧ 13835058055282163712 ≤ M ∧ M < 18446744073709551616 ∧ passF M = true := by
          rcases (show i = 0 ∨ i = 1 by omega) with rfl | rfl
          · exact ⟨A3, c3, p, blk_cell (HI.out.2.1.at 1 rfl) 0, HI.out.2.2.2.1, HK.out.2.2.2.2.1.po, HK.out.2.2.2.2.2.2.2.1, HK.out.2.2.2.2.1.pw, HK.out.2.2.2.2.2.1⟩
          · exact ⟨A4, c4, q, blk_cell (HI.out.2.1.at 1 rfl) 1, HI.out.2.2.2.2, HK.out.2.2.2.2.1.qo, HK.out.2.2.2.2.2.2.2.2.1, HK.out.2.2.2.2.1.qw, HK.out.2.2.2.2.2.2.1⟩
        have HM := Aside0.mk (And.intro hnum (And.intro hodd (And.intro hbig (And.intro hMw hpass))))
        have HNw := Aside0.mk (newS none 0 [] wr (reads_nil wr) (by simp) byt_nil)
        clear hlt hnum hodd hbig hMw hpass
        go_wp2_with fail
        refine HNw.out.mono ?_
        rintro en w7 ⟨sb, rfl, hsb, hsc, hb7⟩
        have HF7 := Aside0.mk (HI.out.2.1.mv hb7)
        have HK7 := Aside0.mk (And.intro (HI.out.2.2.1.kp (Kp.of_below hb7)) (And.intro (HI.out.2.2.2.1.below hb7) (And.intro (HI.out.2.2.2.2.below hb7) (HM.out.1.below hb7))))
        have HSb := Aside0.mk (And.intro hsb hb7)
        have HRd := Aside0.mk (roundsN w7 sb M 0 Ai ci [] ⟨[], 0, hsc, by simp [wordsOf_nil]⟩ HK7.out.2.2.2 HM.out.2.1 (by have := HM.out.2.2.1; omega) (bl_64 HM.out.2.2.1 HM.out.2.2.2.1) (by omega) (oddP_few (by have := HM.out.2.2.1; omega) (by have := HM.out.2.2.2.1; omega)))
        clear hsb hsc hb7 HNw hcell
        go_wp2_with fail
        refine HRd.out.mono ?_
        rintro en w8 hrp
        rcases hrp with ⟨is, r', v, hrw, rfl, hsw, hbt⟩ | ⟨hrw, _⟩
        · have his : is = true := by
            have h0 : roundsW M 0 [] = some (true, []) := rfl
            rw [h0] at hrw
            injection hrw with hrw
            injection hrw with hrw _
            exact hrw.symm
          subst his
          have hbr : Below wr.heap.size wr w8 := hbt.below HSb.out.2 HSb.out.1
          have HF8 := Aside0.mk (HI.out.2.1.mv hbr)
          have HK8 := Aside0.mk (And.intro (HI.out.2.2.1.kp (Kp.of_below hbr)) (And.intro (HI.out.2.2.2.1.below hbr) (And.intro (HI.out.2.2.2.2.below hbr) (HM.out.1.below hbr))))
          have HPs := Aside0.mk (passesR Ai ci M w8 HK8.out.2.2.2 (by have := HM.out.2.2.1; omega) HM.out.2.2.2.2)
          clear hrw hsw hbt hbr HRd
          go_wp2_with fail
          refine HPs.out.mono ?_
          rintro en w9 ⟨rfl, hb9⟩
          have HF9 := Aside0.mk (HF8.out.mv hb9)
          have HK9 := Aside0.mk (And.intro (HK8.out.1.kp (Kp.of_below hb9)) (And.intro (HK8.out.2.1.below hb9) (HK8.out.2.2.1.below hb9)))
          clear hb9 HPs
          go_wp2_with fail
          refine ⟨⟨i + 1, by first | rfl | exact congrArg (Value.int .i64) u2, ⟨HLT.out, HF9.out, HK9.out.1, HK9.out.2.1, HK9.out.2.2⟩⟩, ?_⟩
          first | exact msr1' i 2 HLT.out | (rw [u2]; exact msr1' i 2 HLT.out)
        · cases hrw
      · obtain rfl : i = 2 := by have := HI.out.1; omega
        have u1 : decide (((2 : Nat) : Int) < 2) = false := by decide
        have HDo2 := Aside0.mk (do9 wr e 128 rounds A cut c (bs.take cut) (by
          have h0 := H.out.1.below HI.out.2.1.bel
          have h1 := HN.out
          subst h1
          exact reads_take h0 cut H.out.2.2.2.2.2) (by rw [List.length_take]; have := HN.out; have := H.out.2.2.2.2.2; omega) (by rw [List.length_take]; have := H.out.2.2.2.1; have := H.out.2.2.2.2.2; omega) (byt_take H.out.2.1 cut) H.out.2.2.1 (by omega))
        clear hlt
        go_wp2_with fail
        refine HDo2.out.mono ?_
        rintro en w10 ⟨qb, h2, q0, y1, q2, q3, q4, q5, q6, q7, y, mm2, ss2, rfl, hb10, hq10⟩
        have hba := below_alloc (Below.refl w10.heap.size w10) (.cells #[.slice qb.1 qb.2.1 qb.2.2, .bool h2, .slice q0.1 q0.2.1 q0.2.2, .int .u64 y1, .slice q2.1 q2.2.1 q2.2.2, .slice q3.1 q3.2.1 q3.2.2, .slice q4.1 q4.2.1 q4.2.2, .slice q5.1 q5.2.1 q5.2.2, .slice q6.1 q6.2.1 q6.2.2, .slice q7.1 q7.2.1 q7.2.2, .int .i64 y, .int .i64 mm2, .int .u64 ss2] 31)
        have HF11 := Aside0.mk ((HI.out.2.1.mv hb10).alloc (.cells #[.slice qb.1 qb.2.1 qb.2.2, .bool h2, .slice q0.1 q0.2.1 q0.2.2, .int .u64 y1, .slice q2.1 q2.2.1 q2.2.2, .slice q3.1 q3.2.1 q3.2.2, .slice q4.1 q4.2.1 q4.2.2, .slice q5.1 q5.2.1 q5.2.2, .slice q6.1 q6.2.1 q6.2.2, .slice q7.1 q7.2.1 q7.2.2, .int .i64 y, .int .i64 mm2, .int .u64 ss2] 31))
        simp only [List.nil_append, List.cons_append] at HF11
        have HQ11 := Aside0.mk (And.intro (hq10.kp (Kp.of_below hba)) (HI.out.2.2.1.kp (Kp.of_below (hb10.alloc hb10.size (.cells #[.slice qb.1 qb.2.1 qb.2.2, .bool h2, .slice q0.1 q0.2.1 q0.2.2, .int .u64 y1, .slice q2.1 q2.2.1 q2.2.2, .slice q3.1 q3.2.1 q3.2.2, .slice q4.1 q4.2.1 q4.2.2, .slice q5.1 q5.2.1 q5.2.2, .slice q6.1 q6.2.1 q6.2.2, .slice q7.1 q7.2.1 q7.2.2, .int .i64 y, .int .i64 mm2, .int .u64 ss2] 31)))))
        have e2 : (w10.alloc (.cells #[.slice qb.1 qb.2.1 qb.2.2, .bool h2, .slice q0.1 q0.2.1 q0.2.2, .int .u64 y1, .slice q2.1 q2.2.1 q2.2.2, .slice q3.1 q3.2.1 q3.2.2, .slice q4.1 q4.2.1 q4.2.2, .slice q5.1 q5.2.1 q5.2.2, .slice q6.1 q6.2.1 q6.2.2, .slice q7.1 q7.2.1 q7.2.2, .int .i64 y, .int .i64 mm2, .int .u64 ss2] 31)).cell? ⟨w2.heap.size, 2, none⟩ = some (.slice A0 2 c0) := blk_cell (HF11.out.at 0 rfl) 2
        have e3 : (w10.alloc (.cells #[.slice qb.1 qb.2.1 qb.2.2, .bool h2, .slice q0.1 q0.2.1 q0.2.2, .int .u64 y1, .slice q2.1 q2.2.1 q2.2.2, .slice q3.1 q3.2.1 q3.2.2, .slice q4.1 q4.2.1 q4.2.2, .slice q5.1 q5.2.1 q5.2.2, .slice q6.1 q6.2.1 q6.2.2, .slice q7.1 q7.2.1 q7.2.2, .int .i64 y, .int .i64 mm2, .int .u64 ss2] 31)).cell? ⟨w2.heap.size, 3, none⟩ = some (.int .u64 x1) := blk_cell (HF11.out.at 0 rfl) 3
        have e4 : (w10.alloc (.cells #[.slice qb.1 qb.2.1 qb.2.2, .bool h2, .slice q0.1 q0.2.1 q0.2.2, .int .u64 y1, .slice q2.1 q2.2.1 q2.2.2, .slice q3.1 q3.2.1 q3.2.2, .slice q4.1 q4.2.1 q4.2.2, .slice q5.1 q5.2.1 q5.2.2, .slice q6.1 q6.2.1 q6.2.2, .slice q7.1 q7.2.1 q7.2.2, .int .i64 y, .int .i64 mm2, .int .u64 ss2] 31)).cell? ⟨w2.heap.size, 4, none⟩ = some (.slice p2.1 p2.2.1 p2.2.2) := blk_cell (HF11.out.at 0 rfl) 4
        have e5 : (w10.alloc (.cells #[.slice qb.1 qb.2.1 qb.2.2, .bool h2, .slice q0.1 q0.2.1 q0.2.2, .int .u64 y1, .slice q2.1 q2.2.1 q2.2.2, .slice q3.1 q3.2.1 q3.2.2, .slice q4.1 q4.2.1 q4.2.2, .slice q5.1 q5.2.1 q5.2.2, .slice q6.1 q6.2.1 q6.2.2, .slice q7.1 q7.2.1 q7.2.2, .int .i64 y, .int .i64 mm2, .int .u64 ss2] 31)).cell? ⟨w2.heap.size, 5, none⟩ = some (.slice A3 1 c3) := blk_cell (HF11.out.at 0 rfl) 5
        have e6 : (w10.alloc (.cells #[.slice qb.1 qb.2.1 qb.2.2, .bool h2, .slice q0.1 q0.2.1 q0.2.2, .int .u64 y1, .slice q2.1 q2.2.1 q2.2.2, .slice q3.1 q3.2.1 q3.2.2, .slice q4.1 q4.2.1 q4.2.2, .slice q5.1 q5.2.1 q5.2.2, .slice q6.1 q6.2.1 q6.2.2, .slice q7.1 q7.2.1 q7.2.2, .int .i64 y, .int .i64 mm2, .int .u64 ss2] 31)).cell? ⟨w2.heap.size, 6, none⟩ = some (.slice A4 1 c4) := blk_cell (HF11.out.at 0 rfl) 6
        have e7 : (w10.alloc (.cells #[.slice qb.1 qb.2.1 qb.2.2, .bool h2, .slice q0.1 q0.2.1 q0.2.2, .int .u64 y1, .slice q2.1 q2.2.1 q2.2.2, .slice q3.1 q3.2.1 q3.2.2, .slice q4.1 q4.2.1 q4.2.2, .slice q5.1 q5.2.1 q5.2.2, .slice q6.1 q6.2.1 q6.2.2, .slice q7.1 q7.2.1 q7.2.2, .int .i64 y, .int .i64 mm2, .int .u64 ss2] 31)).cell? ⟨w2.heap.size, 7, none⟩ = some (.slice p5.1 p5.2.1 p5.2.2) := blk_cell (HF11.out.at 0 rfl) 7
        have e8 : (w10.alloc (.cells #[.slice qb.1 qb.2.1 qb.2.2, .bool h2, .slice q0.1 q0.2.1 q0.2.2, .int .u64 y1, .slice q2.1 q2.2.1 q2.2.2, .slice q3.1 q3.2.1 q3.2.2, .slice q4.1 q4.2.1 q4.2.2, .slice q5.1 q5.2.1 q5.2.2, .slice q6.1 q6.2.1 q6.2.2, .slice q7.1 q7.2.1 q7.2.2, .int .i64 y, .int .i64 mm2, .int .u64 ss2] 31)).cell? ⟨w2.heap.size, 8, none⟩ = some (.slice p6.1 p6.2.1 p6.2.2) := blk_cell (HF11.out.at 0 rfl) 8
        have e9 : (w10.alloc (.cells #[.slice qb.1 qb.2.1 qb.2.2, .bool h2, .slice q0.1 q0.2.1 q0.2.2, .int .u64 y1, .slice q2.1 q2.2.1 q2.2.2, .slice q3.1 q3.2.1 q3.2.2, .slice q4.1 q4.2.1 q4.2.2, .slice q5.1 q5.2.1 q5.2.2, .slice q6.1 q6.2.1 q6.2.2, .slice q7.1 q7.2.1 q7.2.2, .int .i64 y, .int .i64 mm2, .int .u64 ss2] 31)).cell? ⟨w2.heap.size, 9, none⟩ = some (.slice p7.1 p7.2.1 p7.2.2) := blk_cell (HF11.out.at 0 rfl) 9
        have e10 : (w10.alloc (.cells #[.slice qb.1 qb.2.1 qb.2.2, .bool h2, .slice q0.1 q0.2.1 q0.2.2, .int .u64 y1, .slice q2.1 q2.2.1 q2.2.2, .slice q3.1 q3.2.1 q3.2.2, .slice q4.1 q4.2.1 q4.2.2, .slice q5.1 q5.2.1 q5.2.2, .slice q6.1 q6.2.1 q6.2.2, .slice q7.1 q7.2.1 q7.2.2, .int .i64 y, .int .i64 mm2, .int .u64 ss2] 31)).cell? ⟨w2.heap.size, 10, none⟩ = some (.int .i64 0) := blk_cell (HF11.out.at 0 rfl) 10
        have k2 : (w10.alloc (.cells #[.slice qb.1 qb.2.1 qb.2.2, .bool h2, .slice q0.1 q0.2.1 q0.2.2, .int .u64 y1, .slice q2.1 q2.2.1 q2.2.2, .slice q3.1 q3.2.1 q3.2.2, .slice q4.1 q4.2.1 q4.2.2, .slice q5.1 q5.2.1 q5.2.2, .slice q6.1 q6.2.1 q6.2.2, .slice q7.1 q7.2.1 q7.2.2, .int .i64 y, .int .i64 mm2, .int .u64 ss2] 31)).cell? ⟨w10.heap.size, 2, none⟩ = some (.slice q0.1 q0.2.1 q0.2.2) := blk_cell (HF11.out.at 2 rfl) 2
        have k3 : (w10.alloc (.cells #[.slice qb.1 qb.2.1 qb.2.2, .bool h2, .slice q0.1 q0.2.1 q0.2.2, .int .u64 y1, .slice q2.1 q2.2.1 q2.2.2, .slice q3.1 q3.2.1 q3.2.2, .slice q4.1 q4.2.1 q4.2.2, .slice q5.1 q5.2.1 q5.2.2, .slice q6.1 q6.2.1 q6.2.2, .slice q7.1 q7.2.1 q7.2.2, .int .i64 y, .int .i64 mm2, .int .u64 ss2] 31)).cell? ⟨w10.heap.size, 3, none⟩ = some (.int .u64 y1) := blk_cell (HF11.out.at 2 rfl) 3
        have k4 : (w10.alloc (.cells #[.slice qb.1 qb.2.1 qb.2.2, .bool h2, .slice q0.1 q0.2.1 q0.2.2, .int .u64 y1, .slice q2.1 q2.2.1 q2.2.2, .slice q3.1 q3.2.1 q3.2.2, .slice q4.1 q4.2.1 q4.2.2, .slice q5.1 q5.2.1 q5.2.2, .slice q6.1 q6.2.1 q6.2.2, .slice q7.1 q7.2.1 q7.2.2, .int .i64 y, .int .i64 mm2, .int .u64 ss2] 31)).cell? ⟨w10.heap.size, 4, none⟩ = some (.slice q2.1 q2.2.1 q2.2.2) := blk_cell (HF11.out.at 2 rfl) 4
        have k5 : (w10.alloc (.cells #[.slice qb.1 qb.2.1 qb.2.2, .bool h2, .slice q0.1 q0.2.1 q0.2.2, .int .u64 y1, .slice q2.1 q2.2.1 q2.2.2, .slice q3.1 q3.2.1 q3.2.2, .slice q4.1 q4.2.1 q4.2.2, .slice q5.1 q5.2.1 q5.2.2, .slice q6.1 q6.2.1 q6.2.2, .slice q7.1 q7.2.1 q7.2.2, .int .i64 y, .int .i64 mm2, .int .u64 ss2] 31)).cell? ⟨w10.heap.size, 5, none⟩ = some (.slice q3.1 q3.2.1 q3.2.2) := blk_cell (HF11.out.at 2 rfl) 5
        have k6 : (w10.alloc (.cells #[.slice qb.1 qb.2.1 qb.2.2, .bool h2, .slice q0.1 q0.2.1 q0.2.2, .int .u64 y1, .slice q2.1 q2.2.1 q2.2.2, .slice q3.1 q3.2.1 q3.2.2, .slice q4.1 q4.2.1 q4.2.2, .slice q5.1 q5.2.1 q5.2.2, .slice q6.1 q6.2.1 q6.2.2, .slice q7.1 q7.2.1 q7.2.2, .int .i64 y, .int .i64 mm2, .int .u64 ss2] 31)).cell? ⟨w10.heap.size, 6, none⟩ = some (.slice q4.1 q4.2.1 q4.2.2) := blk_cell (HF11.out.at 2 rfl) 6
        have k7 : (w10.alloc (.cells #[.slice qb.1 qb.2.1 qb.2.2, .bool h2, .slice q0.1 q0.2.1 q0.2.2, .int .u64 y1, .slice q2.1 q2.2.1 q2.2.2, .slice q3.1 q3.2.1 q3.2.2, .slice q4.1 q4.2.1 q4.2.2, .slice q5.1 q5.2.1 q5.2.2, .slice q6.1 q6.2.1 q6.2.2, .slice q7.1 q7.2.1 q7.2.2, .int .i64 y, .int .i64 mm2, .int .u64 ss2] 31)).cell? ⟨w10.heap.size, 7, none⟩ = some (.slice q5.1 q5.2.1 q5.2.2) := blk_cell (HF11.out.at 2 rfl) 7
        have k8 : (w10.alloc (.cells #[.slice qb.1 qb.2.1 qb.2.2, .bool h2, .slice q0.1 q0.2.1 q0.2.2, .int .u64 y1, .slice q2.1 q2.2.1 q2.2.2, .slice q3.1 q3.2.1 q3.2.2, .slice q4.1 q4.2.1 q4.2.2, .slice q5.1 q5.2.1 q5.2.2, .slice q6.1 q6.2.1 q6.2.2, .slice q7.1 q7.2.1 q7.2.2, .int .i64 y, .int .i64 mm2, .int .u64 ss2] 31)).cell? ⟨w10.heap.size, 8, none⟩ = some (.slice q6.1 q6.2.1 q6.2.2) := blk_cell (HF11.out.at 2 rfl) 8
        have k9 : (w10.alloc (.cells #[.slice qb.1 qb.2.1 qb.2.2, .bool h2, .slice q0.1 q0.2.1 q0.2.2, .int .u64 y1, .slice q2.1 q2.2.1 q2.2.2, .slice q3.1 q3.2.1 q3.2.2, .slice q4.1 q4.2.1 q4.2.2, .slice q5.1 q5.2.1 q5.2.2, .slice q6.1 q6.2.1 q6.2.2, .slice q7.1 q7.2.1 q7.2.2, .int .i64 y, .int .i64 mm2, .int .u64 ss2] 31)).cell? ⟨w10.heap.size, 9, none⟩ = some (.slice q7.1 q7.2.1 q7.2.2) := blk_cell (HF11.out.at 2 rfl) 9
        have k10 : (w10.alloc (.cells #[.slice qb.1 qb.2.1 qb.2.2, .bool h2, .slice q0.1 q0.2.1 q0.2.2, .int .u64 y1, .slice q2.1 q2.2.1 q2.2.2, .slice q3.1 q3.2.1 q3.2.2, .slice q4.1 q4.2.1 q4.2.2, .slice q5.1 q5.2.1 q5.2.2, .slice q6.1 q6.2.1 q6.2.2, .slice q7.1 q7.2.1 q7.2.2, .int .i64 y, .int .i64 mm2, .int .u64 ss2] 31)).cell? ⟨w10.heap.size, 10, none⟩ = some (.int .i64 y) := blk_cell (HF11.out.at 2 rfl) 10
        clear hba hq10 hb10 HDo2
        rcases genQ_cut HK.out.1 HK.out.2.1 HK.out.2.2.1 HQ11.out.1 with hy | ⟨hy, hkq⟩
        · subst hy
          go_wp2_with fail
          go_ret
          exact ⟨rfl, HF11.out.bel⟩
        · subst hy
          obtain ⟨hx, g0, g2, g3, g4, g5, g6, g7⟩ := keyC_same (p0 := (A0, 2, c0)) (p3 := (A3, 1, c3)) (p4 := (A4, 1, c4)) HNl.out HQ11.out.2 hkq
          subst hx
          have HS6 := Aside0.mk (same6T (w10.alloc (.cells #[.slice qb.1 qb.2.1 qb.2.2, .bool h2, .slice q0.1 q0.2.1 q0.2.2, .int .u64 x1, .slice q2.1 q2.2.1 q2.2.2, .slice q3.1 q3.2.1 q3.2.2, .slice q4.1 q4.2.1 q4.2.2, .slice q5.1 q5.2.1 q5.2.2, .slice q6.1 q6.2.1 q6.2.2, .slice q7.1 q7.2.1 q7.2.2, .int .i64 0, .int .i64 mm2, .int .u64 ss2] 31)) x1 (A0, 2, c0) p2 (A3, 1, c3) (A4, 1, c4) p5 p6 p7 q0 q2 q3 q4 q5 q6 q7 g0 g2 g3 g4 g5 g6 g7)
          clear g0 g2 g3 g4 g5 g6 g7 hkq
          go_wp2_with fail
          refine HS6.out.mono ?_
          rintro en w12 ⟨rfl, hb12⟩
          have HF12 := Aside0.mk (HF11.out.mv hb12)
          clear hb12
          go_wp2_with fail
          go_ret
          exact ⟨rfl, HF12.out.bel⟩
end Go.Proofs.YtjpibgehhgaopaaGreat.Top
