/- The references: Passes, BitLen, Same. -/
import Derived.Test.YtjpibgehhgaopaaGreatZ45
namespace Go.Proofs.YtjpibgehhgaopaaGreat.Top
open Go.RowKit Go.Proofs.YtjpibgehhgaopaaGreatW.PrintWords Go.Proofs.YtjpibgehhgaopaaGreatW.PrintLast Go.Proofs.YtjpibgehhgaopaaGreat.PTopGenerated
set_option linter.unusedVariables false
set_option linter.unusedSimpArgs false

set_option maxRecDepth 100000 in
theorem passesR (A : Option Addr) (c p : Nat) (w : World) (h : Num w A c [p]) (hp : 4294967296 ≤ p) (hf : passF p = true) : Calls Tryz.prog 12 #[.slice A 1 c] w fun e w' => e = .returned (.bool true) ∧ Below w.heap.size w w' := by
  have HO := Aside0.mk (show Calls Tryz.prog 8 #[.slice A 1 c] w (fun e w' => ∃ A' c', e = .returned (.slice A' 2 c') ∧ Below w.heap.size w w') from (ofR A c [p] p w h (by simp) (by simp) rfl hp).mono fun e w' ⟨g, c', e1, _, e2⟩ => ⟨_, c', e1, e2⟩)
  have H := Aside0.mk (And.intro h (fun k h2 h1 => passF_of hf (k := k) h2 h1))
  clear h hf
  go_enter Tryz.func12, Tryz.ntmps12
  go_wp2_with fail
  refine HO.out.mono ?_
  rintro e w1 ⟨A1, c1, rfl, hb1⟩
  have HB1 := Aside0.mk hb1
  clear hb1
  go_wp2_with fail
  refine (small2 w1).mono ?_
  rintro e w2 ⟨A2, c2, rfl, hb2⟩
  have HB2 := Aside0.mk (HB1.out.trans (hb2.mono HB1.out.size))
  clear hb2
  go_wp2_with fail
  refine (cmpR A1 A2 2 c1 c2 w2 (by omega) (by omega)).mono ?_
  rintro e w3 ⟨rfl, hw3⟩
  have hw4 := hw3.symm
  clear hw3
  subst hw4
  have HF := Aside0.mk (factorR A c p w2 (H.out.1.below HB2.out) H.out.2)
  go_wp2_with fail
  refine HF.out.mono ?_
  rintro e w4 ⟨rfl, hw4⟩
  have hw5 := hw4.symm
  clear hw4
  subst hw5
  go_wp2_with fail
  go_ret
  exact ⟨rfl, HB2.out⟩
set_option maxRecDepth 100000 in
theorem bitR (g c : Nat) (xs : List Int) (t : Nat) (w : World) (h : ReadsInt w .u32 (some ⟨g, 0, none⟩) 4 xs) (h3 : xs.getD 3 0 = (t : Int)) (ht : 2147483648 ≤ t) (ht2 : t < 4294967296) : Calls Tryz.prog 19 #[.slice (some ⟨g, 0, none⟩) 4 c, .int .i64 127] w fun e w' => e = .returned (.int .u64 1) ∧ w' = w := by
  obtain ⟨ad, hA, hc⟩ := h.2.2 (by omega)
  injection hA with hA
  subst hA
  have hc3 : w.cell? ⟨g, 3, none⟩ = some (.int .u32 (t : Int)) := by
    have := hc 3 (by omega)
    rw [h3] at this
    simpa [Addr.add] using this
  have e1 : (t : Int) / 2147483648 = 1 := by omega
  have e2 : Go.bits .and .u32 1 1 = 1 := by decide +kernel
  clear h hc h3
  go_enter Tryz.func19, Tryz.ntmps19
  go_wp2_with fail
  go_ret
  exact ⟨rfl, rfl⟩
set_option maxRecDepth 100000 in
theorem bitLenR (g c : Nat) (xs : List Int) (t : Nat) (w : World) (h : ReadsInt w .u32 (some ⟨g, 0, none⟩) 4 xs) (h3 : xs.getD 3 0 = (t : Int)) (ht : 2147483648 ≤ t) (ht2 : t < 4294967296) : Calls Tryz.prog 7 #[.slice (some ⟨g, 0, none⟩) 4 c] w fun e w' => e = .returned (.int .i64 128) ∧ w' = w := by
  have HB := Aside0.mk (bitR g c xs t w h h3 ht ht2)
  clear h h3 ht ht2
  go_enter Tryz.func7, Tryz.ntmps7
  go_wp2_with fail
  go_loopw [3] (fun v3 wr => v3 = .int .i64 128 ∧ Aside0 (wr = w)) (fun v3 _ => 0)
  case atStart => exact ⟨rfl, ⟨rfl⟩⟩
  case round =>
    obtain ⟨rfl, hwr⟩ := hrel
    have hwr' := hwr.out.symm
    clear hwr
    subst hwr'
    go_wp2_with fail
    refine HB.out.mono ?_
    rintro e w3 ⟨rfl, hw3⟩
    have hw4 := hw3.symm
    clear hw3
    subst hw4
    go_wp2_with fail
    go_ret
    exact ⟨rfl, rfl⟩
set_option maxRecDepth 100000 in
theorem same18 (A B : Option Addr) (c d : Nat) (a : List Nat) (w : World) (ha : Num w A c a) (hb : Num w B d a) (hl : a.length ≤ 1000) : Calls Tryz.prog 18 #[.slice A a.length c, .slice B a.length d] w fun e w' => e = .returned (.bool true) ∧ Below w.heap.size w w' := by
  have H := Aside0.mk (And.intro ha hb)
  obtain ⟨n, hn⟩ : ∃ n, n = a.length := ⟨_, rfl⟩
  rw [← hn] at hl ⊢
  have HN := Aside0.mk hn
  clear ha hb hn
  go_enter Tryz.func18, Tryz.ntmps18
  go_wp2_with fail
  go_loopw [13] (fun v13 wr => ∃ i : Nat, v13 = .int .i64 (i : Int) ∧ Aside0 (i ≤ n ∧ Below w.heap.size w wr)) (fun v13 _ => n - (intOf v13).toNat)
  case atStart => exact ⟨0, rfl, ⟨Nat.zero_le _, Below.refl _ _⟩⟩
  case round =>
    obtain ⟨i, rfl, HI⟩ := hrel
    by_cases hlt : i < n
    · have HLT := Aside0.mk hlt
      have t1 : decide ((i : Int) < (n : Int)) = true := by rw [decide_eq_true_eq]; omega
      have t1' : decide (i < n) = true := by rw [decide_eq_true_eq]; omega
      have w3 : wrap64 ((i : Int) + 1) = ((i + 1 : Nat) : Int) := wrap64_id (by omega) (by omega)
      have b1 : (0 : Int) ≤ (i : Int) := by omega
      have b2 : (i : Int) < (n : Int) := by omega
      obtain ⟨ad, rfl, hc⟩ := (H.out.1.below HI.out.2).at_ i (by have := HN.out; omega)
      obtain ⟨bd, rfl, hc2⟩ := (H.out.2.below HI.out.2).at_ i (by have := HN.out; omega)
      generalize a.getD i 0 = u at *
      clear hlt
      go_wp2_with fail
      go_quiet (fail)
      go_wp2_with fail
      refine ⟨⟨i + 1, by first | rfl | exact congrArg (Value.int .i64) w3, ⟨HLT.out, pw_below_drewN HI.out.2 _⟩⟩, ?_⟩
      first | exact msr1' i n HLT.out | (rw [w3]; exact msr1' i n HLT.out)
    · obtain rfl : i = n := by have := HI.out.1; omega
      have t1 : decide ((i : Int) < (i : Int)) = false := by simp
      go_wp2_with fail
      go_ret
      exact ⟨rfl, HI.out.2⟩
end Go.Proofs.YtjpibgehhgaopaaGreat.Top
/- The reference's Same, of keys. -/
namespace Go.Proofs.YtjpibgehhgaopaaGreat.Top
open Go.RowKit Go.Proofs.YtjpibgehhgaopaaGreatW.PrintWords Go.Proofs.YtjpibgehhgaopaaGreatW.PrintLast Go.Proofs.YtjpibgehhgaopaaGreat.PTopGenerated
set_option linter.unusedVariables false
set_option linter.unusedSimpArgs false

/-- Two numbers in memory that are alike. -/
def SameK (w : World) (p q : Option Addr × Nat × Nat) : Prop := ∃ l : List Nat, l.length ≤ 1000 ∧ p.2.1 = l.length ∧ q.2.1 = l.length ∧ Num w p.1 p.2.2 l ∧ Num w q.1 q.2.2 l
theorem SameK.below {w w' : World} {p q : Option Addr × Nat × Nat} (h : SameK w p q) (hb : Below w.heap.size w w') : SameK w' p q := by
  obtain ⟨l, h1, h2, h3, h4, h5⟩ := h
  exact ⟨l, h1, h2, h3, h4.below hb, h5.below hb⟩
theorem sameK (w : World) (p q : Option Addr × Nat × Nat) (h : SameK w p q) : Calls Tryz.prog 18 #[.slice p.1 p.2.1 p.2.2, .slice q.1 q.2.1 q.2.2] w fun e w' => e = .returned (.bool true) ∧ Below w.heap.size w w' := by
  obtain ⟨l, h1, h2, h3, h4, h5⟩ := h
  rw [h2, h3]
  exact same18 p.1 q.1 p.2.2 q.2.2 l w h4 h5 h1
set_option maxHeartbeats 2000000 in
set_option maxRecDepth 100000 in
theorem same6T (w : World) (x1 : Int) (p0 p2 p3 p4 p5 p6 p7 q0 q2 q3 q4 q5 q6 q7 : Option Addr × Nat × Nat) (h0 : SameK w p0 q0) (h2 : SameK w p2 q2) (h3 : SameK w p3 q3) (h4 : SameK w p4 q4) (h5 : SameK w p5 q5) (h6 : SameK w p6 q6) (h7 : SameK w p7 q7) :
    Calls Tryz.prog 6 #[.agg #[.slice p0.1 p0.2.1 p0.2.2, .int .u64 x1, .slice p2.1 p2.2.1 p2.2.2, .slice p3.1 p3.2.1 p3.2.2, .slice p4.1 p4.2.1 p4.2.2, .slice p5.1 p5.2.1 p5.2.2, .slice p6.1 p6.2.1 p6.2.2, .slice p7.1 p7.2.1 p7.2.2], .agg #[.slice q0.1 q0.2.1 q0.2.2, .int .u64 x1, .slice q2.1 q2.2.1 q2.2.2, .slice q3.1 q3.2.1 q3.2.2, .slice q4.1 q4.2.1 q4.2.2, .slice q5.1 q5.2.1 q5.2.2, .slice q6.1 q6.2.1 q6.2.2, .slice q7.1 q7.2.1 q7.2.2]] w fun e w' => e = .returned (.bool true) ∧ Below w.heap.size w w' := by
  have HF := Aside0.mk (((Fr.nil w).alloc (.cells #[.slice p0.1 p0.2.1 p0.2.2, .int .u64 x1, .slice p2.1 p2.2.1 p2.2.2, .slice p3.1 p3.2.1 p3.2.2, .slice p4.1 p4.2.1 p4.2.2, .slice p5.1 p5.2.1 p5.2.2, .slice p6.1 p6.2.1 p6.2.2, .slice p7.1 p7.2.1 p7.2.2] 28)).alloc (.cells #[.slice q0.1 q0.2.1 q0.2.2, .int .u64 x1, .slice q2.1 q2.2.1 q2.2.2, .slice q3.1 q3.2.1 q3.2.2, .slice q4.1 q4.2.1 q4.2.2, .slice q5.1 q5.2.1 q5.2.2, .slice q6.1 q6.2.1 q6.2.2, .slice q7.1 q7.2.1 q7.2.2] 28))
  simp only [List.nil_append, List.cons_append, World.size_alloc] at HF
  have HS := Aside0.mk (show SameK w p0 q0 ∧ SameK w p2 q2 ∧ SameK w p3 q3 ∧ SameK w p4 q4 ∧ SameK w p5 q5 ∧ SameK w p6 q6 ∧ SameK w p7 q7 from ⟨h0, h2, h3, h4, h5, h6, h7⟩)
  clear h0 h2 h3 h4 h5 h6 h7
  have hu28 := Tryz.underlying28
  have a0 : ((w.alloc (.cells #[.slice p0.1 p0.2.1 p0.2.2, .int .u64 x1, .slice p2.1 p2.2.1 p2.2.2, .slice p3.1 p3.2.1 p3.2.2, .slice p4.1 p4.2.1 p4.2.2, .slice p5.1 p5.2.1 p5.2.2, .slice p6.1 p6.2.1 p6.2.2, .slice p7.1 p7.2.1 p7.2.2] 28)).alloc (.cells #[.slice q0.1 q0.2.1 q0.2.2, .int .u64 x1, .slice q2.1 q2.2.1 q2.2.2, .slice q3.1 q3.2.1 q3.2.2, .slice q4.1 q4.2.1 q4.2.2, .slice q5.1 q5.2.1 q5.2.2, .slice q6.1 q6.2.1 q6.2.2, .slice q7.1 q7.2.1 q7.2.2] 28)).cell? ⟨w.heap.size, 0, none⟩ = some (.slice p0.1 p0.2.1 p0.2.2) := blk_cell (HF.out.at 0 rfl) 0
  have b0 : ((w.alloc (.cells #[.slice p0.1 p0.2.1 p0.2.2, .int .u64 x1, .slice p2.1 p2.2.1 p2.2.2, .slice p3.1 p3.2.1 p3.2.2, .slice p4.1 p4.2.1 p4.2.2, .slice p5.1 p5.2.1 p5.2.2, .slice p6.1 p6.2.1 p6.2.2, .slice p7.1 p7.2.1 p7.2.2] 28)).alloc (.cells #[.slice q0.1 q0.2.1 q0.2.2, .int .u64 x1, .slice q2.1 q2.2.1 q2.2.2, .slice q3.1 q3.2.1 q3.2.2, .slice q4.1 q4.2.1 q4.2.2, .slice q5.1 q5.2.1 q5.2.2, .slice q6.1 q6.2.1 q6.2.2, .slice q7.1 q7.2.1 q7.2.2] 28)).cell? ⟨w.heap.size + 1, 0, none⟩ = some (.slice q0.1 q0.2.1 q0.2.2) := blk_cell (HF.out.at 1 rfl) 0
  have a1 : ((w.alloc (.cells #[.slice p0.1 p0.2.1 p0.2.2, .int .u64 x1, .slice p2.1 p2.2.1 p2.2.2, .slice p3.1 p3.2.1 p3.2.2, .slice p4.1 p4.2.1 p4.2.2, .slice p5.1 p5.2.1 p5.2.2, .slice p6.1 p6.2.1 p6.2.2, .slice p7.1 p7.2.1 p7.2.2] 28)).alloc (.cells #[.slice q0.1 q0.2.1 q0.2.2, .int .u64 x1, .slice q2.1 q2.2.1 q2.2.2, .slice q3.1 q3.2.1 q3.2.2, .slice q4.1 q4.2.1 q4.2.2, .slice q5.1 q5.2.1 q5.2.2, .slice q6.1 q6.2.1 q6.2.2, .slice q7.1 q7.2.1 q7.2.2] 28)).cell? ⟨w.heap.size, 1, none⟩ = some (.int .u64 x1) := blk_cell (HF.out.at 0 rfl) 1
  have b1 : ((w.alloc (.cells #[.slice p0.1 p0.2.1 p0.2.2, .int .u64 x1, .slice p2.1 p2.2.1 p2.2.2, .slice p3.1 p3.2.1 p3.2.2, .slice p4.1 p4.2.1 p4.2.2, .slice p5.1 p5.2.1 p5.2.2, .slice p6.1 p6.2.1 p6.2.2, .slice p7.1 p7.2.1 p7.2.2] 28)).alloc (.cells #[.slice q0.1 q0.2.1 q0.2.2, .int .u64 x1, .slice q2.1 q2.2.1 q2.2.2, .slice q3.1 q3.2.1 q3.2.2, .slice q4.1 q4.2.1 q4.2.2, .slice q5.1 q5.2.1 q5.2.2, .slice q6.1 q6.2.1 q6.2.2, .slice q7.1 q7.2.1 q7.2.2] 28)).cell? ⟨w.heap.size + 1, 1, none⟩ = some (.int .u64 x1) := blk_cell (HF.out.at 1 rfl) 1
  have a2 : ((w.alloc (.cells #[.slice p0.1 p0.2.1 p0.2.2, .int .u64 x1, .slice p2.1 p2.2.1 p2.2.2, .slice p3.1 p3.2.1 p3.2.2, .slice p4.1 p4.2.1 p4.2.2, .slice p5.1 p5.2.1 p5.2.2, .slice p6.1 p6.2.1 p6.2.2, .slice p7.1 p7.2.1 p7.2.2] 28)).alloc (.cells #[.slice q0.1 q0.2.1 q0.2.2, .int .u64 x1, .slice q2.1 q2.2.1 q2.2.2, .slice q3.1 q3.2.1 q3.2.2, .slice q4.1 q4.2.1 q4.2.2, .slice q5.1 q5.2.1 q5.2.2, .slice q6.1 q6.2.1 q6.2.2, .slice q7.1 q7.2.1 q7.2.2] 28)).cell? ⟨w.heap.size, 2, none⟩ = some (.slice p2.1 p2.2.1 p2.2.2) := blk_cell (HF.out.at 0 rfl) 2
  have b2 : ((w.alloc (.cells #[.slice p0.1 p0.2.1 p0.2.2, .int .u64 x1, .slice p2.1 p2.2.1 p2.2.2, .slice p3.1 p3.2.1 p3.2.2, .slice p4.1 p4.2.1 p4.2.2, .slice p5.1 p5.2.1 p5.2.2, .slice p6.1 p6.2.1 p6.2.2, .slice p7.1 p7.2.1 p7.2.2] 28)).alloc (.cells #[.slice q0.1 q0.2.1 q0.2.2, .int .u64 x1, .slice q2.1 q2.2.1 q2.2.2, .slice q3.1 q3.2.1 q3.2.2, .slice q4.1 q4.2.1 q4.2.2, .slice q5.1 q5.2.1 q5.2.2, .slice q6.1 q6.2.1 q6.2.2, .slice q7.1 q7.2.1 q7.2.2] 28)).cell? ⟨w.heap.size + 1, 2, none⟩ = some (.slice q2.1 q2.2.1 q2.2.2) := blk_cell (HF.out.at 1 rfl) 2
  have a3 : ((w.alloc (.cells #[.slice p0.1 p0.2.1 p0.2.2, .int .u64 x1, .slice p2.1 p2.2.1 p2.2.2, .slice p3.1 p3.2.1 p3.2.2, .slice p4.1 p4.2.1 p4.2.2, .slice p5.1 p5.2.1 p5.2.2, .slice p6.1 p6.2.1 p6.2.2, .slice p7.1 p7.2.1 p7.2.2] 28)).alloc (.cells #[.slice q0.1 q0.2.1 q0.2.2, .int .u64 x1, .slice q2.1 q2.2.1 q2.2.2, .slice q3.1 q3.2.1 q3.2.2, .slice q4.1 q4.2.1 q4.2.2, .slice q5.1 q5.2.1 q5.2.2, .slice q6.1 q6.2.1 q6.2.2, .slice q7.1 q7.2.1 q7.2.2] 28)).cell? ⟨w.heap.size, 3, none⟩ = some (.slice p3.1 p3.2.1 p3.2.2) := blk_cell (HF.out.at 0 rfl) 3
  have b3 : ((w.alloc (.cells #[.slice p0.1 p0.2.1 p0.2.2, .int .u64 x1, .slice p2.1 p2.2.1 p2.2.2, .slice p3.1 p3.2.1 p3.2.2, .slice p4.1 p4.2.1 p4.2.2, .slice p5.1 p5.2.1 p5.2.2, .slice p6.1 p6.2.1 p6.2.2, .slice p7.1 p7.2.1 p7.2.2] 28)).alloc (.cells #[.slice q0.1 q0.2.1 q0.2.2, .int .u64 x1, .slice q2.1 q2.2.1 q2.2.2, .slice q3.1 q3.2.1 q3.2.2, .slice q4.1 q4.2.1 q4.2.2, .slice q5.1 q5.2.1 q5.2.2, .slice q6.1 q6.2.1 q6.2.2, .slice q7.1 q7.2.1 q7.2.2] 28)).cell? ⟨w.heap.size + 1, 3, none⟩ = some (.slice q3.1 q3.2.1 q3.2.2) := blk_cell (HF.out.at 1 rfl) 3
  have a4 : ((w.alloc (.cells #[.slice p0.1 p0.2.1 p0.2.2, .int .u64 x1, .slice p2.1 p2.2.1 p2.2.2, .slice p3.1 p3.2.1 p3.2.2, .slice p4.1 p4.2.1 p4.2.2, .slice p5.1 p5.2.1 p5.2.2, .slice p6.1 p6.2.1 p6.2.2, .slice p7.1 p7.2.1 p7.2.2] 28)).alloc (.cells #[.slice q0.1 q0.2.1 q0.2.2, .int .u64 x1, .slice q2.1 q2.2.1 q2.2.2, .slice q3.1 q3.2.1 q3.2.2, .slice q4.1 q4.2.1 q4.2.2, .slice q5.1 q5.2.1 q5.2.2, .slice q6.1 q6.2.1 q6.2.2, .slice q7.1 q7.2.1 q7.2.2] 28)).cell? ⟨w.heap.size, 4, none⟩ = some (.slice p4.1 p4.2.1 p4.2.2) := blk_cell (HF.out.at 0 rfl) 4
  have b4 : ((w.alloc (.cells #[.slice p0.1 p0.2.1 p0.2.2, .int .u64 x1, .slice p2.1 p2.2.1 p2.2.2, .slice p3.1 p3.2.1 p3.2.2, .slice p4.1 p4.2.1 p4.2.2, .slice p5.1 p5.2.1 p5.2.2, .slice p6.1 p6.2.1 p6.2.2, .slice p7.1 p7.2.1 p7.2.2] 28)).alloc (.cells #[.slice q0.1 q0.2.1 q0.2.2, .int .u64 x1, .slice q2.1 q2.2.1 q2.2.2, .slice q3.1 q3.2.1 q3.2.2, .slice q4.1 q4.2.1 q4.2.2, .slice q5.1 q5.2.1 q5.2.2, .slice q6.1 q6.2.1 q6.2.2, .slice q7.1 q7.2.1 q7.2.2] 28)).cell? ⟨w.heap.size + 1, 4, none⟩ = some (.slice q4.1 q4.2.1 q4.2.2) := blk_cell (HF.out.at 1 rfl) 4
  have a5 : ((w.alloc (.cells #[.slice p0.1 p0.2.1 p0.2.2, .int .u64 x1, .slice p2.1 p2.2.1 p2.2.2, .slice p3.1 p3.2.1 p3.2.2, .slice p4.1 p4.2.1 p4.2.2, .slice p5.1 p5.2.1 p5.2.2, .slice p6.1 p6.2.1 p6.2.2, .slice p7.1 p7.2.1 p7.2.2] 28)).alloc (.cells #[.slice q0.1 q0.2.1 q0.2.2, .int .u64 x1, .slice q2.1 q2.2.1 q2.2.2, .slice q3.1 q3.2.1 q3.2.2, .slice q4.1 q4.2.1 q4.2.2, .slice q5.1 q5.2.1 q5.2.2, .slice q6.1 q6.2.1 q6.2.2, .slice q7.1 q7.2.1 q7.2.2] 28)).cell? ⟨w.heap.size, 5, none⟩ = some (.slice p5.1 p5.2.1 p5.2.2) := blk_cell (HF.out.at 0 rfl) 5
  have b5 : ((w.alloc (.cells #[.slice p0.1 p0.2.1 p0.2.2, .int .u64 x1, .slice p2.1 p2.2.1 p2.2.2, .slice p3.1 p3.2.1 p3.2.2, .slice p4.1 p4.2.1 p4.2.2, .slice p5.1 p5.2.1 p5.2.2, .slice p6.1 p6.2.1 p6.2.2, .slice p7.1 p7.2.1 p7.2.2] 28)).alloc (.cells #[.slice q0.1 q0.2.1 q0.2.2, .int .u64 x1, .slice q2.1 q2.2.1 q2.2.2, .slice q3.1 q3.2.1 q3.2.2, .slice q4.1 q4.2.1 q4.2.2, .slice q5.1 q5.2.1 q5.2.2, .slice q6.1 q6.2.1 q6.2.2, .slice q7.1 q7.2.1 q7.2.2] 28)).cell? ⟨w.heap.size + 1, 5, none⟩ = some (.slice q5.1 q5.2.1 q5.2.2) := blk_cell (HF.out.at 1 rfl) 5
  have a6 : ((w.alloc (.cells #[.slice p0.1 p0.2.1 p0.2.2, .int .u64 x1, .slice p2.1 p2.2.1 p2.2.2, .slice p3.1 p3.2.1 p3.2.2, .slice p4.1 p4.2.1 p4.2.2, .slice p5.1 p5.2.1 p5.2.2, .slice p6.1 p6.2.1 p6.2.2, .slice p7.1 p7.2.1 p7.2.2] 28)).alloc (.cells #[.slice q0.1 q0.2.1 q0.2.2, .int .u64 x1, .slice q2.1 q2.2.1 q2.2.2, .slice q3.1 q3.2.1 q3.2.2, .slice q4.1 q4.2.1 q4.2.2, .slice q5.1 q5.2.1 q5.2.2, .slice q6.1 q6.2.1 q6.2.2, .slice q7.1 q7.2.1 q7.2.2] 28)).cell? ⟨w.heap.size, 6, none⟩ = some (.slice p6.1 p6.2.1 p6.2.2) := blk_cell (HF.out.at 0 rfl) 6
  have b6 : ((w.alloc (.cells #[.slice p0.1 p0.2.1 p0.2.2, .int .u64 x1, .slice p2.1 p2.2.1 p2.2.2, .slice p3.1 p3.2.1 p3.2.2, .slice p4.1 p4.2.1 p4.2.2, .slice p5.1 p5.2.1 p5.2.2, .slice p6.1 p6.2.1 p6.2.2, .slice p7.1 p7.2.1 p7.2.2] 28)).alloc (.cells #[.slice q0.1 q0.2.1 q0.2.2, .int .u64 x1, .slice q2.1 q2.2.1 q2.2.2, .slice q3.1 q3.2.1 q3.2.2, .slice q4.1 q4.2.1 q4.2.2, .slice q5.1 q5.2.1 q5.2.2, .slice q6.1 q6.2.1 q6.2.2, .slice q7.1 q7.2.1 q7.2.2] 28)).cell? ⟨w.heap.size + 1, 6, none⟩ = some (.slice q6.1 q6.2.1 q6.2.2) := blk_cell (HF.out.at 1 rfl) 6
  have a7 : ((w.alloc (.cells #[.slice p0.1 p0.2.1 p0.2.2, .int .u64 x1, .slice p2.1 p2.2.1 p2.2.2, .slice p3.1 p3.2.1 p3.2.2, .slice p4.1 p4.2.1 p4.2.2, .slice p5.1 p5.2.1 p5.2.2, .slice p6.1 p6.2.1 p6.2.2, .slice p7.1 p7.2.1 p7.2.2] 28)).alloc (.cells #[.slice q0.1 q0.2.1 q0.2.2, .int .u64 x1, .slice q2.1 q2.2.1 q2.2.2, .slice q3.1 q3.2.1 q3.2.2, .slice q4.1 q4.2.1 q4.2.2, .slice q5.1 q5.2.1 q5.2.2, .slice q6.1 q6.2.1 q6.2.2, .slice q7.1 q7.2.1 q7.2.2] 28)).cell? ⟨w.heap.size, 7, none⟩ = some (.slice p7.1 p7.2.1 p7.2.2) := blk_cell (HF.out.at 0 rfl) 7
  have b7 : ((w.alloc (.cells #[.slice p0.1 p0.2.1 p0.2.2, .int .u64 x1, .slice p2.1 p2.2.1 p2.2.2, .slice p3.1 p3.2.1 p3.2.2, .slice p4.1 p4.2.1 p4.2.2, .slice p5.1 p5.2.1 p5.2.2, .slice p6.1 p6.2.1 p6.2.2, .slice p7.1 p7.2.1 p7.2.2] 28)).alloc (.cells #[.slice q0.1 q0.2.1 q0.2.2, .int .u64 x1, .slice q2.1 q2.2.1 q2.2.2, .slice q3.1 q3.2.1 q3.2.2, .slice q4.1 q4.2.1 q4.2.2, .slice q5.1 q5.2.1 q5.2.2, .slice q6.1 q6.2.1 q6.2.2, .slice q7.1 q7.2.1 q7.2.2] 28)).cell? ⟨w.heap.size + 1, 7, none⟩ = some (.slice q7.1 q7.2.1 q7.2.2) := blk_cell (HF.out.at 1 rfl) 7
  go_enter Tryz.func6, Tryz.ntmps6
  go_wp2_with fail
  refine (sameK _ p0 q0 ((HS.out.1).below HF.out.bel)).mono ?_
  rintro e w1 ⟨rfl, hb⟩
  have HF1 := Aside0.mk (HF.out.mv hb)
  clear hb
  clear a0 b0 a1 b1 a2 b2 a3 b3 a4 b4 a5 b5 a6 b6 a7 b7
  have a0 : w1.cell? ⟨w.heap.size, 0, none⟩ = some (.slice p0.1 p0.2.1 p0.2.2) := blk_cell (HF1.out.at 0 rfl) 0
  have b0 : w1.cell? ⟨w.heap.size + 1, 0, none⟩ = some (.slice q0.1 q0.2.1 q0.2.2) := blk_cell (HF1.out.at 1 rfl) 0
  have a1 : w1.cell? ⟨w.heap.size, 1, none⟩ = some (.int .u64 x1) := blk_cell (HF1.out.at 0 rfl) 1
  have b1 : w1.cell? ⟨w.heap.size + 1, 1, none⟩ = some (.int .u64 x1) := blk_cell (HF1.out.at 1 rfl) 1
  have a2 : w1.cell? ⟨w.heap.size, 2, none⟩ = some (.slice p2.1 p2.2.1 p2.2.2) := blk_cell (HF1.out.at 0 rfl) 2
  have b2 : w1.cell? ⟨w.heap.size + 1, 2, none⟩ = some (.slice q2.1 q2.2.1 q2.2.2) := blk_cell (HF1.out.at 1 rfl) 2
  have a3 : w1.cell? ⟨w.heap.size, 3, none⟩ = some (.slice p3.1 p3.2.1 p3.2.2) := blk_cell (HF1.out.at 0 rfl) 3
  have b3 : w1.cell? ⟨w.heap.size + 1, 3, none⟩ = some (.slice q3.1 q3.2.1 q3.2.2) := blk_cell (HF1.out.at 1 rfl) 3
  have a4 : w1.cell? ⟨w.heap.size, 4, none⟩ = some (.slice p4.1 p4.2.1 p4.2.2) := blk_cell (HF1.out.at 0 rfl) 4
  have b4 : w1.cell? ⟨w.heap.size + 1, 4, none⟩ = some (.slice q4.1 q4.2.1 q4.2.2) := blk_cell (HF1.out.at 1 rfl) 4
  have a5 : w1.cell? ⟨w.heap.size, 5, none⟩ = some (.slice p5.1 p5.2.1 p5.2.2) := blk_cell (HF1.out.at 0 rfl) 5
  have b5 : w1.cell? ⟨w.heap.size + 1, 5, none⟩ = some (.slice q5.1 q5.2.1 q5.2.2) := blk_cell (HF1.out.at 1 rfl) 5
  have a6 : w1.cell? ⟨w.heap.size, 6, none⟩ = some (.slice p6.1 p6.2.1 p6.2.2) := blk_cell (HF1.out.at 0 rfl) 6
  have b6 : w1.cell? ⟨w.heap.size + 1, 6, none⟩ = some (.slice q6.1 q6.2.1 q6.2.2) := blk_cell (HF1.out.at 1 rfl) 6
  have a7 : w1.cell? ⟨w.heap.size, 7, none⟩ = some (.slice p7.1 p7.2.1 p7.2.2) := blk_cell (HF1.out.at 0 rfl) 7
  have b7 : w1.cell? ⟨w.heap.size + 1, 7, none⟩ = some (.slice q7.1 q7.2.1 q7.2.2) := blk_cell (HF1.out.at 1 rfl) 7
  go_wp2_with fail
  refine (sameK _ p2 q2 ((HS.out.2.1).below HF1.out.bel)).mono ?_
  rintro e w2 ⟨rfl, hb⟩
  have HF2 := Aside0.mk (HF1.out.mv hb)
  clear hb
  clear a0 b0 a1 b1 a2 b2 a3 b3 a4 b4 a5 b5 a6 b6 a7 b7
  have a0 : w2.cell? ⟨w.heap.size, 0, none⟩ = some (.slice p0.1 p0.2.1 p0.2.2) := blk_cell (HF2.out.at 0 rfl) 0
  have b0 : w2.cell? ⟨w.heap.size + 1, 0, none⟩ = some (.slice q0.1 q0.2.1 q0.2.2) := blk_cell (HF2.out.at 1 rfl) 0
  have a1 : w2.cell? ⟨w.heap.size, 1, none⟩ = some (.int .u64 x1) := blk_cell (HF2.out.at 0 rfl) 1
  have b1 : w2.cell? ⟨w.heap.size + 1, 1, none⟩ = some (.int .u64 x1) := blk_cell (HF2.out.at 1 rfl) 1
  have a2 : w2.cell? ⟨w.heap.size, 2, none⟩ = some (.slice p2.1 p2.2.1 p2.2.2) := blk_cell (HF2.out.at 0 rfl) 2
  have b2 : w2.cell? ⟨w.heap.size + 1, 2, none⟩ = some (.slice q2.1 q2.2.1 q2.2.2) := blk_cell (HF2.out.at 1 rfl) 2
  have a3 : w2.cell? ⟨w.heap.size, 3, none⟩ = some (.slice p3.1 p3.2.1 p3.2.2) := blk_cell (HF2.out.at 0 rfl) 3
  have b3 : w2.cell? ⟨w.heap.size + 1, 3, none⟩ = some (.slice q3.1 q3.2.1 q3.2.2) := blk_cell (HF2.out.at 1 rfl) 3
  have a4 : w2.cell? ⟨w.heap.size, 4, none⟩ = some (.slice p4.1 p4.2.1 p4.2.2) := blk_cell (HF2.out.at 0 rfl) 4
  have b4 : w2.cell? ⟨w.heap.size + 1, 4, none⟩ = some (.slice q4.1 q4.2.1 q4.2.2) := blk_cell (HF2.out.at 1 rfl) 4
  have a5 : w2.cell? ⟨w.heap.size, 5, none⟩ = some (.slice p5.1 p5.2.1 p5.2.2) := blk_cell (HF2.out.at 0 rfl) 5
  have b5 : w2.cell? ⟨w.heap.size + 1, 5, none⟩ = some (.slice q5.1 q5.2.1 q5.2.2) := blk_cell (HF2.out.at 1 rfl) 5
  have a6 : w2.cell? ⟨w.heap.size, 6, none⟩ = some (.slice p6.1 p6.2.1 p6.2.2) := blk_cell (HF2.out.at 0 rfl) 6
  have b6 : w2.cell? ⟨w.heap.size + 1, 6, none⟩ = some (.slice q6.1 q6.2.1 q6.2.2) := blk_cell (HF2.out.at 1 rfl) 6
  have a7 : w2.cell? ⟨w.heap.size, 7, none⟩ = some (.slice p7.1 p7.2.1 p7.2.2) := blk_cell (HF2.out.at 0 rfl) 7
  have b7 : w2.cell? ⟨w.heap.size + 1, 7, none⟩ = some (.slice q7.1 q7.2.1 q7.2.2) := blk_cell (HF2.out.at 1 rfl) 7
  go_wp2_with fail
  refine (sameK _ p3 q3 ((HS.out.2.2.1).below HF2.out.bel)).mono ?_
  rintro e w3 ⟨rfl, hb⟩
  have HF3 := Aside0.mk (HF2.out.mv hb)
  clear hb
  clear a0 b0 a1 b1 a2 b2 a3 b3 a4 b4 a5 b5 a6 b6 a7 b7
  have a0 : w3.cell? ⟨w.heap.size, 0, none⟩ = some (.slice p0.1 p0.2.1 p0.2.2) := blk_cell (HF3.out.at 0 rfl) 0
  have b0 : w3.cell? ⟨w.heap.size + 1, 0, none⟩ = some (.slice q0.1 q0.2.1 q0.2.2) := blk_cell (HF3.out.at 1 rfl) 0
  have a1 : w3.cell? ⟨w.heap.size, 1, none⟩ = some (.int .u64 x1) := blk_cell (HF3.out.at 0 rfl) 1
  have b1 : w3.cell? ⟨w.heap.size + 1, 1, none⟩ = some (.int .u64 x1) := blk_cell (HF3.out.at 1 rfl) 1
  have a2 : w3.cell? ⟨w.heap.size, 2, none⟩ = some (.slice p2.1 p2.2.1 p2.2.2) := blk_cell (HF3.out.at 0 rfl) 2
  have b2 : w3.cell? ⟨w.heap.size + 1, 2, none⟩ = some (.slice q2.1 q2.2.1 q2.2.2) := blk_cell (HF3.out.at 1 rfl) 2
  have a3 : w3.cell? ⟨w.heap.size, 3, none⟩ = some (.slice p3.1 p3.2.1 p3.2.2) := blk_cell (HF3.out.at 0 rfl) 3
  have b3 : w3.cell? ⟨w.heap.size + 1, 3, none⟩ = some (.slice q3.1 q3.2.1 q3.2.2) := blk_cell (HF3.out.at 1 rfl) 3
  have a4 : w3.cell? ⟨w.heap.size, 4, none⟩ = some (.slice p4.1 p4.2.1 p4.2.2) := blk_cell (HF3.out.at 0 rfl) 4
  have b4 : w3.cell? ⟨w.heap.size + 1, 4, none⟩ = some (.slice q4.1 q4.2.1 q4.2.2) := blk_cell (HF3.out.at 1 rfl) 4
  have a5 : w3.cell? ⟨w.heap.size, 5, none⟩ = some (.slice p5.1 p5.2.1 p5.2.2) := blk_cell (HF3.out.at 0 rfl) 5
  have b5 : w3.cell? ⟨w.heap.size + 1, 5, none⟩ = some (.slice q5.1 q5.2.1 q5.2.2) := blk_cell (HF3.out.at 1 rfl) 5
  have a6 : w3.cell? ⟨w.heap.size, 6, none⟩ = some (.slice p6.1 p6.2.1 p6.2.2) := blk_cell (HF3.out.at 0 rfl) 6
  have b6 : w3.cell? ⟨w.heap.size + 1, 6, none⟩ = some (.slice q6.1 q6.2.1 q6.2.2) := blk_cell (HF3.out.at 1 rfl) 6
  have a7 : w3.cell? ⟨w.heap.size, 7, none⟩ = some (.slice p7.1 p7.2.1 p7.2.2) := blk_cell (HF3.out.at 0 rfl) 7
  have b7 : w3.cell? ⟨w.heap.size + 1, 7, none⟩ = some (.slice q7.1 q7.2.1 q7.2.2) := blk_cell (HF3.out.at 1 rfl) 7
  go_wp2_with fail
  refine (sameK _ p4 q4 ((HS.out.2.2.2.1).below HF3.out.bel)).mono ?_
  rintro e w4 ⟨rfl, hb⟩
  have HF4 := Aside0.mk (HF3.out.mv hb)
  clear hb
  clear a0 b0 a1 b1 a2 b2 a3 b3 a4 b4 a5 b5 a6 b6 a7 b7
  have a0 : w4.cell? ⟨w.heap.size, 0, none⟩ = some (.slice p0.1 p0.2.1 p0.2.2) := blk_cell (HF4.out.at 0 rfl) 0
  have b0 : w4.cell? ⟨w.heap.size + 1, 0, none⟩ = some (.slice q0.1 q0.2.1 q0.2.2) := blk_cell (HF4.out.at 1 rfl) 0
  have a1 : w4.cell? ⟨w.heap.size, 1, none⟩ = some (.int .u64 x1) := blk_cell (HF4.out.at 0 rfl) 1
  have b1 : w4.cell? ⟨w.heap.size + 1, 1, none⟩ = some (.int .u64 x1) := blk_cell (HF4.out.at 1 rfl) 1
  have a2 : w4.cell? ⟨w.heap.size, 2, none⟩ = some (.slice p2.1 p2.2.1 p2.2.2) := blk_cell (HF4.out.at 0 rfl) 2
  have b2 : w4.cell? ⟨w.heap.size + 1, 2, none⟩ = some (.slice q2.1 q2.2.1 q2.2.2) := blk_cell (HF4.out.at 1 rfl) 2
  have a3 : w4.cell? ⟨w.heap.size, 3, none⟩ = some (.slice p3.1 p3.2.1 p3.2.2) := blk_cell (HF4.out.at 0 rfl) 3
  have b3 : w4.cell? ⟨w.heap.size + 1, 3, none⟩ = some (.slice q3.1 q3.2.1 q3.2.2) := blk_cell (HF4.out.at 1 rfl) 3
  have a4 : w4.cell? ⟨w.heap.size, 4, none⟩ = some (.slice p4.1 p4.2.1 p4.2.2) := blk_cell (HF4.out.at 0 rfl) 4
  have b4 : w4.cell? ⟨w.heap.size + 1, 4, none⟩ = some (.slice q4.1 q4.2.1 q4.2.2) := blk_cell (HF4.out.at 1 rfl) 4
  have a5 : w4.cell? ⟨w.heap.size, 5, none⟩ = some (.slice p5.1 p5.2.1 p5.2.2) := blk_cell (HF4.out.at 0 rfl) 5
  have b5 : w4.cell? ⟨w.heap.size + 1, 5, none⟩ = some (.slice q5.1 q5.2.1 q5.2.2) := blk_cell (HF4.out.at 1 rfl) 5
  have a6 : w4.cell? ⟨w.heap.size, 6, none⟩ = some (.slice p6.1 p6.2.1 p6.2.2) := blk_cell (HF4.out.at 0 rfl) 6
  have b6 : w4.cell? ⟨w.heap.size + 1, 6, none⟩ = some (.slice q6.1 q6.2.1 q6.2.2) := blk_cell (HF4.out.at 1 rfl) 6
  have a7 : w4.cell? ⟨w.heap.size, 7, none⟩ = some (.slice p7.1 p7.2.1 p7.2.2) := blk_cell (HF4.out.at 0 rfl) 7
  have b7 : w4.cell? ⟨w.heap.size + 1, 7, none⟩ = some (.slice q7.1 q7.2.1 q7.2.2) := blk_cell (HF4.out.at 1 rfl) 7
  go_wp2_with fail
  refine (sameK _ p5 q5 ((HS.out.2.2.2.2.1).below HF4.out.bel)).mono ?_
  rintro e w5 ⟨rfl, hb⟩
  have HF5 := Aside0.mk (HF4.out.mv hb)
  clear hb
  clear a0 b0 a1 b1 a2 b2 a3 b3 a4 b4 a5 b5 a6 b6 a7 b7
  have a0 : w5.cell? ⟨w.heap.size, 0, none⟩ = some (.slice p0.1 p0.2.1 p0.2.2) := blk_cell (HF5.out.at 0 rfl) 0
  have b0 : w5.cell? ⟨w.heap.size + 1, 0, none⟩ = some (.slice q0.1 q0.2.1 q0.2.2) := blk_cell (HF5.out.at 1 rfl) 0
  have a1 : w5.cell? ⟨w.heap.size, 1, none⟩ = some (.int .u64 x1) := blk_cell (HF5.out.at 0 rfl) 1
  have b1 : w5.cell? ⟨w.heap.size + 1, 1, none⟩ = some (.int .u64 x1) := blk_cell (HF5.out.at 1 rfl) 1
  have a2 : w5.cell? ⟨w.heap.size, 2, none⟩ = some (.slice p2.1 p2.2.1 p2.2.2) := blk_cell (HF5.out.at 0 rfl) 2
  have b2 : w5.cell? ⟨w.heap.size + 1, 2, none⟩ = some (.slice q2.1 q2.2.1 q2.2.2) := blk_cell (HF5.out.at 1 rfl) 2
  have a3 : w5.cell? ⟨w.heap.size, 3, none⟩ = some (.slice p3.1 p3.2.1 p3.2.2) := blk_cell (HF5.out.at 0 rfl) 3
  have b3 : w5.cell? ⟨w.heap.size + 1, 3, none⟩ = some (.slice q3.1 q3.2.1 q3.2.2) := blk_cell (HF5.out.at 1 rfl) 3
  have a4 : w5.cell? ⟨w.heap.size, 4, none⟩ = some (.slice p4.1 p4.2.1 p4.2.2) := blk_cell (HF5.out.at 0 rfl) 4
  have b4 : w5.cell? ⟨w.heap.size + 1, 4, none⟩ = some (.slice q4.1 q4.2.1 q4.2.2) := blk_cell (HF5.out.at 1 rfl) 4
  have a5 : w5.cell? ⟨w.heap.size, 5, none⟩ = some (.slice p5.1 p5.2.1 p5.2.2) := blk_cell (HF5.out.at 0 rfl) 5
  have b5 : w5.cell? ⟨w.heap.size + 1, 5, none⟩ = some (.slice q5.1 q5.2.1 q5.2.2) := blk_cell (HF5.out.at 1 rfl) 5
  have a6 : w5.cell? ⟨w.heap.size, 6, none⟩ = some (.slice p6.1 p6.2.1 p6.2.2) := blk_cell (HF5.out.at 0 rfl) 6
  have b6 : w5.cell? ⟨w.heap.size + 1, 6, none⟩ = some (.slice q6.1 q6.2.1 q6.2.2) := blk_cell (HF5.out.at 1 rfl) 6
  have a7 : w5.cell? ⟨w.heap.size, 7, none⟩ = some (.slice p7.1 p7.2.1 p7.2.2) := blk_cell (HF5.out.at 0 rfl) 7
  have b7 : w5.cell? ⟨w.heap.size + 1, 7, none⟩ = some (.slice q7.1 q7.2.1 q7.2.2) := blk_cell (HF5.out.at 1 rfl) 7
  go_wp2_with fail
  refine (sameK _ p6 q6 ((HS.out.2.2.2.2.2.1).below HF5.out.bel)).mono ?_
  rintro e w6 ⟨rfl, hb⟩
  have HF6 := Aside0.mk (HF5.out.mv hb)
  clear hb
  clear a0 b0 a1 b1 a2 b2 a3 b3 a4 b4 a5 b5 a6 b6 a7 b7
  have a0 : w6.cell? ⟨w.heap.size, 0, none⟩ = some (.slice p0.1 p0.2.1 p0.2.2) := blk_cell (HF6.out.at 0 rfl) 0
  have b0 : w6.cell? ⟨w.heap.size + 1, 0, none⟩ = some (.slice q0.1 q0.2.1 q0.2.2) := blk_cell (HF6.out.at 1 rfl) 0
  have a1 : w6.cell? ⟨w.heap.size, 1, none⟩ = some (.int .u64 x1) := blk_cell (HF6.out.at 0 rfl) 1
  have b1 : w6.cell? ⟨w.heap.size + 1, 1, none⟩ = some (.int .u64 x1) := blk_cell (HF6.out.at 1 rfl) 1
  have a2 : w6.cell? ⟨w.heap.size, 2, none⟩ = some (.slice p2.1 p2.2.1 p2.2.2) := blk_cell (HF6.out.at 0 rfl) 2
  have b2 : w6.cell? ⟨w.heap.size + 1, 2, none⟩ = some (.slice q2.1 q2.2.1 q2.2.2) := blk_cell (HF6.out.at 1 rfl) 2
  have a3 : w6.cell? ⟨w.heap.size, 3, none⟩ = some (.slice p3.1 p3.2.1 p3.2.2) := blk_cell (HF6.out.at 0 rfl) 3
  have b3 : w6.cell? ⟨w.heap.size + 1, 3, none⟩ = some (.slice q3.1 q3.2.1 q3.2.2) := blk_cell (HF6.out.at 1 rfl) 3
  have a4 : w6.cell? ⟨w.heap.size, 4, none⟩ = some (.slice p4.1 p4.2.1 p4.2.2) := blk_cell (HF6.out.at 0 rfl) 4
  have b4 : w6.cell? ⟨w.heap.size + 1, 4, none⟩ = some (.slice q4.1 q4.2.1 q4.2.2) := blk_cell (HF6.out.at 1 rfl) 4
  have a5 : w6.cell? ⟨w.heap.size, 5, none⟩ = some (.slice p5.1 p5.2.1 p5.2.2) := blk_cell (HF6.out.at 0 rfl) 5
  have b5 : w6.cell? ⟨w.heap.size + 1, 5, none⟩ = some (.slice q5.1 q5.2.1 q5.2.2) := blk_cell (HF6.out.at 1 rfl) 5
  have a6 : w6.cell? ⟨w.heap.size, 6, none⟩ = some (.slice p6.1 p6.2.1 p6.2.2) := blk_cell (HF6.out.at 0 rfl) 6
  have b6 : w6.cell? ⟨w.heap.size + 1, 6, none⟩ = some (.slice q6.1 q6.2.1 q6.2.2) := blk_cell (HF6.out.at 1 rfl) 6
  have a7 : w6.cell? ⟨w.heap.size, 7, none⟩ = some (.slice p7.1 p7.2.1 p7.2.2) := blk_cell (HF6.out.at 0 rfl) 7
  have b7 : w6.cell? ⟨w.heap.size + 1, 7, none⟩ = some (.slice q7.1 q7.2.1 q7.2.2) := blk_cell (HF6.out.at 1 rfl) 7
  go_wp2_with fail
  refine (sameK _ p7 q7 ((HS.out.2.2.2.2.2.2).below HF6.out.bel)).mono ?_
  rintro e w7 ⟨rfl, hb⟩
  have HF7 := Aside0.mk (HF6.out.mv hb)
  clear hb
  clear a0 b0 a1 b1 a2 b2 a3 b3 a4 b4 a5 b5 a6 b6 a7 b7
  have a0 : w7.cell? ⟨w.heap.size, 0, none⟩ = some (.slice p0.1 p0.2.1 p0.2.2) := blk_cell (HF7.out.at 0 rfl) 0
  have b0 : w7.cell? ⟨w.heap.size + 1, 0, none⟩ = some (.slice q0.1 q0.2.1 q0.2.2) := blk_cell (HF7.out.at 1 rfl) 0
  have a1 : w7.cell? ⟨w.heap.size, 1, none⟩ = some (.int .u64 x1) := blk_cell (HF7.out.at 0 rfl) 1
  have b1 : w7.cell? ⟨w.heap.size + 1, 1, none⟩ = some (.int .u64 x1) := blk_cell (HF7.out.at 1 rfl) 1
  have a2 : w7.cell? ⟨w.heap.size, 2, none⟩ = some (.slice p2.1 p2.2.1 p2.2.2) := blk_cell (HF7.out.at 0 rfl) 2
  have b2 : w7.cell? ⟨w.heap.size + 1, 2, none⟩ = some (.slice q2.1 q2.2.1 q2.2.2) := blk_cell (HF7.out.at 1 rfl) 2
  have a3 : w7.cell? ⟨w.heap.size, 3, none⟩ = some (.slice p3.1 p3.2.1 p3.2.2) := blk_cell (HF7.out.at 0 rfl) 3
  have b3 : w7.cell? ⟨w.heap.size + 1, 3, none⟩ = some (.slice q3.1 q3.2.1 q3.2.2) := blk_cell (HF7.out.at 1 rfl) 3
  have a4 : w7.cell? ⟨w.heap.size, 4, none⟩ = some (.slice p4.1 p4.2.1 p4.2.2) := blk_cell (HF7.out.at 0 rfl) 4
  have b4 : w7.cell? ⟨w.heap.size + 1, 4, none⟩ = some (.slice q4.1 q4.2.1 q4.2.2) := blk_cell (HF7.out.at 1 rfl) 4
  have a5 : w7.cell? ⟨w.heap.size, 5, none⟩ = some (.slice p5.1 p5.2.1 p5.2.2) := blk_cell (HF7.out.at 0 rfl) 5
  have b5 : w7.cell? ⟨w.heap.size + 1, 5, none⟩ = some (.slice q5.1 q5.2.1 q5.2.2) := blk_cell (HF7.out.at 1 rfl) 5
  have a6 : w7.cell? ⟨w.heap.size, 6, none⟩ = some (.slice p6.1 p6.2.1 p6.2.2) := blk_cell (HF7.out.at 0 rfl) 6
  have b6 : w7.cell? ⟨w.heap.size + 1, 6, none⟩ = some (.slice q6.1 q6.2.1 q6.2.2) := blk_cell (HF7.out.at 1 rfl) 6
  have a7 : w7.cell? ⟨w.heap.size, 7, none⟩ = some (.slice p7.1 p7.2.1 p7.2.2) := blk_cell (HF7.out.at 0 rfl) 7
  have b7 : w7.cell? ⟨w.heap.size + 1, 7, none⟩ = some (.slice q7.1 q7.2.1 q7.2.2) := blk_cell (HF7.out.at 1 rfl) 7
  go_wp2_with fail
  go_ret
  exact ⟨rfl, HF7.out.bel⟩
end Go.Proofs.YtjpibgehhgaopaaGreat.Top
