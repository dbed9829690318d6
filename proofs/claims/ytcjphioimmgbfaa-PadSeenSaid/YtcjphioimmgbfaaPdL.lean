/- The walk of the law PadSeen: what is written down hangs on lengths alone. -/
import Derived.Test.YtcjphioimmgbfaaPdK
namespace Go.Proofs.Ytcjphioimmgbfaa.Tra
open Go.RowKit Go.Proofs.YtcjphioimmgbfaaW.PrintWords Go.Proofs.YtcjphioimmgbfaaW.PrintLast Go.Proofs.YtcjphioimmgbfaaW.PrintMore Go.Proofs.Ytcjphioimmgbfaa.PTraceActs
set_option linter.unusedVariables false
set_option linter.unusedSimpArgs false

/-- What was there ahead of a trace stays where the trace is written to. -/
theorem OnlyT.belowB {w w1 : World} {B tb : Nat} {v : Value} {l : List S24} (hT : TrO w B (some tb) v l) (h : OnlyT w w1 (some tb) v.ownBlock) (hB : B ≤ w.heap.size) : Below B w w1 := by
  refine ⟨h.os, h.tape, h.output, h.size, fun k hk => h.block k (by omega) ?_ ?_⟩
  · intro e
    injection e with e
    have := hT.1
    omega
  · intro e
    obtain ⟨inner, hown⟩ := Kd.R_own hT.2.2
    have := own_base hown _ e.symm
    omega
def seenL (n : Nat) : List S24 := decL [] n ++ [⟨1, (n : Int), 0⟩] ++ [⟨1, (max n n : Nat), 0⟩]
theorem dec_len (n : Nat) : (decL [] n).length ≤ 2 := by
  unfold decL
  split <;> simp
theorem clamp_ok (f : Int) (hf : -9223372036854775808 ≤ f ∧ f ≤ 9223372036854775807) : U64 (if f < 0 then 0 else f) := by
  unfold U64
  split <;> omega
set_option maxHeartbeats 1000000 in
set_option maxRecDepth 100000 in
theorem padSeenWalk (A A2 : Option Addr) (ca cb : Nat) (a b : List Int) (c d : Int) (f g : Int) (w : World) (ha : ReadsInt w .u8 A a.length a) (hca : a.length ≤ ca) (hba : ∀ i, Byte (rd a i)) (hb : ReadsInt w .u8 A2 b.length b) (hcb : b.length ≤ cb) (hbb : ∀ i, Byte (rd b i)) (hc : Byte c) (hd : Byte d) (hf : -9223372036854775808 ≤ f ∧ f ≤ 9223372036854775807) (hg : -9223372036854775808 ≤ g ∧ g ≤ 9223372036854775807) :
    Calls Try.prog 9 #[.slice A a.length ca, .slice A2 b.length cb, .int .u8 c, .int .u8 d, .int .i64 f, .int .i64 g] w fun e w' => e = .returned (.bool true) ∧ Below w.heap.size w w' := by
  have HA := Aside0.mk (And.intro ha (And.intro hca hba))
  have HB := Aside0.mk (And.intro hb (And.intro hcb hbb))
  have HF := Aside0.mk (And.intro hc hf)
  have HG := Aside0.mk (And.intro hd hg)
  clear ha hca hba hb hcb hbb hc hf hd hg
  go_enter Try.func9, Try.ntmps9
  go_wp2_with fail
  refine (awakePad _).mono ?_
  rintro e w1 ⟨rfl, hb1⟩
  have HB1 := Aside0.mk hb1
  clear hb1
  obtain ⟨r, hr⟩ : ∃ r : Bool, r = decide (a.length ≤ 1200 ∧ b.length ≤ 1200) := ⟨_, rfl⟩
  go_wp2_with fail
  refine (few_any w1.heap.size 2 (fun i => if i = 0 then A else A2) (fun i => if i = 0 then a.length else b.length) (fun i => if i = 0 then ca else cb) r _ ?_ (by omega) ?_ ?_).mono ?_
  · intro i hi
    rcases i with _ | _ | i
    · simp
    · simp
    · omega
  · rw [hr]
    constructor
    · intro h i hi
      have h2 : a.length ≤ 1200 ∧ b.length ≤ 1200 := by simpa using h
      rcases i with _ | _ | i
      · exact h2.1
      · exact h2.2
      · omega
    · intro h
      have h0 := h 0 (by omega)
      have h1 := h 1 (by omega)
      simp at h0 h1
      simp [h0, h1]
  · intro i
    have h1 := HA.out.1.2.1
    have h2 := HB.out.1.2.1
    show (if i = 0 then a.length else b.length) ≤ _
    split
    · exact h1
    · exact h2
  rintro e w2 ⟨rfl, hb2⟩
  have HB2 := Aside0.mk (show Below w.heap.size w w2 from (HB1.out.trans ((below_alloc (Below.refl w1.heap.size w1) (.cells #[.slice A a.length ca, .slice A2 b.length cb] 42)).mono HB1.out.size)).trans (hb2.mono (by have := HB1.out.size; simp; omega)))
  clear hb2
  by_cases hl : a.length ≤ 1200 ∧ b.length ≤ 1200
  · obtain rfl : r = true := by rw [hr]; simpa using hl
    by_cases hlen : a.length = b.length
    · have HL := Aside0.mk (And.intro hl hlen)
      have t0 : ((a.length : Int) != (b.length : Int)) = false := by simp [hlen]
      clear hr hl hlen
      go_wp2_with fail
      refine (newO' w2).mono ?_
      rintro x w3 ⟨ts, rfl, HT, HB3⟩
      go_wp2_with fail
      refine (newO' w3).mono ?_
      rintro x w4 ⟨tt, rfl, HT', HB4⟩
      have HTs := Aside0.mk (HT.out.below HB4.out.1)
      have HTt := Aside0.mk (show TrO w4 w2.heap.size (some tt) (.slice none 0 0) [] from ⟨by have := HT'.out.1; have := HB3.out.1.size; omega, HT'.out.2.1, Kd.R_nil _ _ _ _ _⟩)
      have HNE := Aside0.mk (show tt ≠ ts by have := blk_lt HT.out.2.1; have := HB4.out.2; omega)
      have HBB := Aside0.mk (show Below w.heap.size w w4 from chain (chain HB2.out HB3.out.1 HB2.out.size) HB4.out.1 (Nat.le_trans HB2.out.size HB3.out.1.size))
      have HS := Aside0.mk (show w.heap.size ≤ w2.heap.size ∧ w2.heap.size ≤ w4.heap.size from ⟨HB2.out.size, Nat.le_trans HB3.out.1.size HB4.out.1.size⟩)
      have STs := Aside0.mk (fun w' (ho : OnlyT w4 w' (some ts) none) => show Below w.heap.size w w' from HBB.out.trans ((OnlyT.belowB (v := .slice none 0 0) HTs.out ho HS.out.2).mono HS.out.1))
      clear HT HT' HB3 HB4
      go_wp2_with fail
      refine (decT w2.heap.size ts (.slice none 0 0) [] A ca a _ HTs.out (by simp) (fun w' ho => HA.out.1.below (STs.out w' ho)) HA.out.2.1 HA.out.2.2).mono ?_
      rintro e w5 ⟨⟨u1, x1, rfl⟩, hp⟩
      obtain ⟨v5, p1, p2, p3⟩ := hp
      have HT5 := Aside0.mk p1
      have HO5 := Aside0.mk (And.intro p2 p3)
      clear p1 p2 p3
      obtain ⟨m, hm⟩ : ∃ m : Int, (if f < 0 then 0 else f) = m := ⟨_, rfl⟩
      have HM := Aside0.mk (And.intro hm (hm ▸ clamp_ok f HF.out.2))
      clear hm
      go_wp2_with fail
      refine (findT w2.heap.size ts v5 _ A ca a c f m _ HT5.out (by have := dec_len a.length; omega) (fun w' ho => HA.out.1.below (STs.out w' (HO5.out.1.trans HO5.out.2 ho))) HA.out.2.2 HF.out.1 HL.out.1.1 HM.out.1 HM.out.2).mono ?_
      rintro e w6 ⟨rfl, hp⟩
      obtain ⟨v6, p1, p2, p3⟩ := hp
      have HT6 := Aside0.mk p1
      have HO6 := Aside0.mk (And.intro (HO5.out.1.trans HO5.out.2 p2) (HO5.out.2.trans HO5.out.1.size p3))
      clear p1 p2 p3 HT5 HO5
      go_wp2_with fail
      refine (equalT2 w2.heap.size ts v6 _ A A2 ca cb _ _ a b _ HT6.out (by have := dec_len a.length; simp; omega) (fun w' ho => HA.out.1.below (STs.out w' (HO6.out.1.trans HO6.out.2 ho))) (fun w' ho => HB.out.1.below (STs.out w' (HO6.out.1.trans HO6.out.2 ho))) HL.out.1.1 HL.out.1.2).mono ?_
      rintro e w7 ⟨⟨q1, rfl⟩, hp⟩
      obtain ⟨v7, p1, p2, p3⟩ := hp
      have HT7 := Aside0.mk (show TrO w7 w2.heap.size (some ts) v7 (seenL a.length) from by
        unfold seenL
        have h := p1
        rw [← HL.out.2] at h
        exact h)
      have h7 := HO6.out.1.trans HO6.out.2 p2
      have HB7 := Aside0.mk (STs.out w7 h7)
      have HTt7 := Aside0.mk (other_trace HTt.out h7 HNE.out ⟨_, HTs.out.2.1⟩)
      have HS7 := Aside0.mk (show w2.heap.size ≤ w7.heap.size from Nat.le_trans HS.out.2 h7.size)
      have STt := Aside0.mk (fun w' (ho : OnlyT w7 w' (some tt) none) => show Below w.heap.size w w' from HB7.out.trans ((OnlyT.belowB (v := .slice none 0 0) HTt7.out ho HS7.out).mono HS.out.1))
      clear p1 p2 p3 h7 HT6 HO6 HTs HTt STs
      go_wp2_with fail
      refine (decT w2.heap.size tt (.slice none 0 0) [] A2 cb b _ HTt7.out (by simp) (fun w' ho => HB.out.1.below (STt.out w' ho)) HB.out.2.1 HB.out.2.2).mono ?_
      rintro e w8 ⟨⟨u2, x2, rfl⟩, hp⟩
      obtain ⟨v8, p1, p2, p3⟩ := hp
      have HT8 := Aside0.mk p1
      have HO8 := Aside0.mk (And.intro p2 p3)
      clear p1 p2 p3
      obtain ⟨n, hn⟩ : ∃ n : Int, (if g < 0 then 0 else g) = n := ⟨_, rfl⟩
      have HN := Aside0.mk (And.intro hn (hn ▸ clamp_ok g HG.out.2))
      clear hn
      go_wp2_with fail
      refine (findT w2.heap.size tt v8 _ A2 cb b d g n _ HT8.out (by have := dec_len b.length; omega) (fun w' ho => HB.out.1.below (STt.out w' (HO8.out.1.trans HO8.out.2 ho))) HB.out.2.2 HG.out.1 HL.out.1.2 HN.out.1 HN.out.2).mono ?_
      rintro e w9 ⟨rfl, hp⟩
      obtain ⟨v9, p1, p2, p3⟩ := hp
      have HT9 := Aside0.mk p1
      have HO9 := Aside0.mk (And.intro (HO8.out.1.trans HO8.out.2 p2) (HO8.out.2.trans HO8.out.1.size p3))
      clear p1 p2 p3 HT8 HO8
      go_wp2_with fail
      refine (equalT2 w2.heap.size tt v9 _ A2 A2 cb cb _ _ b b _ HT9.out (by have := dec_len b.length; simp; omega) (fun w' ho => HB.out.1.below (STt.out w' (HO9.out.1.trans HO9.out.2 ho))) (fun w' ho => HB.out.1.below (STt.out w' (HO9.out.1.trans HO9.out.2 ho))) HL.out.1.2 HL.out.1.2).mono ?_
      rintro e w10 ⟨⟨q2, rfl⟩, hp⟩
      obtain ⟨v10, p1, p2, p3⟩ := hp
      have HT10 := Aside0.mk (show TrO w10 w2.heap.size (some tt) v10 (seenL a.length) from by
        unfold seenL
        rw [HL.out.2]
        exact p1)
      have h10 := HO9.out.1.trans HO9.out.2 p2
      have HB10 := Aside0.mk (STt.out w10 h10)
      have HTs10 := Aside0.mk (other_trace HT7.out h10 (fun e => HNE.out e.symm) ⟨_, HTt7.out.2.1⟩)
      clear p1 p2 p3 h10 HT9 HO9 HTt7 STt HT7
      go_wp2_with fail
      refine (sameO w2.heap.size w2.heap.size (some ts) (some tt) v7 v10 _ _ _ HTs10.out HT10.out (fun e => by cases e) (fun e => by cases e)).mono ?_
      rintro e w11 ⟨r1, rfl, hr1, hb11⟩
      obtain rfl : r1 = true := hr1.2 ⟨rfl, rfl, rfl⟩
      have HB11 := Aside0.mk (chain HB10.out hb11 HB10.out.size)
      clear hr1 hb11
      go_wp2_with fail
      go_ret
      exact ⟨rfl, HB11.out⟩
    · have t0 : ((a.length : Int) != (b.length : Int)) = true := by simp; omega
      clear hr hl hlen
      go_wp2_with fail
      go_ret
      exact ⟨rfl, HB2.out⟩
  · obtain rfl : r = false := by rw [hr]; simpa using hl
    clear hr hl
    go_wp2_with fail
    go_ret
    exact ⟨rfl, HB2.out⟩
end Go.Proofs.Ytcjphioimmgbfaa.Tra
