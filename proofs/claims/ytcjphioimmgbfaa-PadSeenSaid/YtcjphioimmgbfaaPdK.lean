/- pad's Decode with a trace: what is written down. -/
import Derived.Test.YtcjphioimmgbfaaPdJ
namespace Go.Proofs.Ytcjphioimmgbfaa.Tra
open Go.RowKit Go.Proofs.YtcjphioimmgbfaaW.PrintWords Go.Proofs.YtcjphioimmgbfaaW.PrintLast Go.Proofs.YtcjphioimmgbfaaW.PrintMore Go.Proofs.Ytcjphioimmgbfaa.PTraceActs
set_option linter.unusedVariables false
set_option linter.unusedSimpArgs false

/-- What Decode writes down: by the length alone. -/
def decL (l : List S24) (n : Nat) : List S24 := if n < 11 ∨ 1024 < n then l else l ++ [⟨1, (n : Int), 0⟩] ++ [⟨1, 2, 0⟩]
theorem equalT2 (B tb : Nat) (v : Value) (l : List S24) (A A' : Option Addr) (ca cb n m : Nat) (a b : List Int) (w : World) (hT : TrO w B (some tb) v l) (hll : l.length ≤ 1000) (ha : ∀ w', OnlyT w w' (some tb) v.ownBlock → ReadsInt w' .u8 A n a) (hb : ∀ w', OnlyT w w' (some tb) v.ownBlock → ReadsInt w' .u8 A' m b) (hl : n ≤ 1200) (hl2 : m ≤ 1200) :
    Calls Try.prog 29 #[ptrV (some tb), .slice A n ca, .slice A' m cb] w fun e w' => (∃ p, e = .returned (.int .u64 (b2i p))) ∧ PutO w w' B (some tb) v (l ++ [⟨1, (max n m : Nat), 0⟩]) := by
  obtain rfl := (ha w (OnlyT.refl _ _ _)).1
  obtain rfl := (hb w (OnlyT.refl _ _ _)).1
  have hzu : U64 (IntKind.u64.wrap (Go.bits .xor .i64 (a.length : Int) (b.length : Int))) := by rw [IntKind.wrap_u64]; unfold U64; omega
  exact (equalT B tb v l A A' ca cb a b (min a.length b.length) _ w hT hll ha hb rfl rfl hzu hl).mono fun e w' ⟨h1, h2⟩ => ⟨⟨_, h1⟩, h2⟩
/-- A literal behind a trace: the trace's writing-down leaves it. -/
theorem two_stay {w : World} {B tb : Nat} {v : Value} {l : List S24} (h : TrO w B (some tb) v l) : ∀ w', OnlyT (w.alloc (.cells #[.int .u8 0, .int .u8 2] 5)) w' (some tb) v.ownBlock → ReadsInt w' .u8 (some ⟨w.heap.size, 0, none⟩) 2 [0, 2] := by
  intro w' ho
  have hb : w'.heap[w.heap.size]? = some (.cells #[.int .u8 0, .int .u8 2] 5) := by
    rw [ho.block w.heap.size (by simp) ?_ ?_]
    · exact heap_alloc_new w _
    · intro e
      injection e with e
      have := blk_lt h.2.1
      omega
    · intro e
      obtain ⟨inner, hown⟩ := Kd.R_own h.2.2
      have := own_lt hown _ e.symm
      omega
  refine ⟨rfl, by decide, fun _ => ⟨_, rfl, fun j hj => ?_⟩⟩
  rw [add_plain, cell_of_row _ _ j _ _ _ hb]
  rcases j with _ | _ | j <;> first | rfl | omega
set_option maxHeartbeats 1000000 in
set_option maxRecDepth 100000 in
theorem decT (B tb : Nat) (v : Value) (l : List S24) (A : Option Addr) (c : Nat) (b : List Int) (w : World) (hT : TrO w B (some tb) v l) (hll : l.length ≤ 900) (hr : ∀ w', OnlyT w w' (some tb) v.ownBlock → ReadsInt w' .u8 A b.length b) (hc : b.length ≤ c) (hb : ∀ i, Byte (rd b i)) :
    Calls Try.prog 25 #[ptrV (some tb), .slice A b.length c] w fun e w' => (∃ u x, e = .returned (.tuple #[u, x])) ∧ PutO w w' B (some tb) v (decL l b.length) := by
  have HR := Aside0.mk hr
  have HC := Aside0.mk hc
  have HBy := Aside0.mk hb
  have HT := Aside0.mk (And.intro hT hll)
  clear hr hc hb hT hll
  by_cases hA : b.length < 11 ∨ 1024 < b.length
  · have HD := Aside0.mk (show decL l b.length = l from if_pos hA)
    rw [HD.out]
    by_cases h1 : b.length < 11
    · have d1 : decide ((b.length : Int) < 11) = true := by simp; omega
      have d2 : decide (b.length < 11) = true := by simp; omega
      go_enter Try.func25, Try.ntmps25
      go_wp2_with fail
      refine bodyPost_ret (results_tmp2 rfl _ _ _) rfl ?_
      exact ⟨⟨_, _, rfl⟩, PutO.of_below HT.out.1 (Below.refl _ _)⟩
    · have d1 : decide ((b.length : Int) < 11) = false := by simp; omega
      have d2 : decide (b.length < 11) = false := by simp; omega
      have d3 : decide ((b.length : Int) > 1024) = true := by simp; omega
      have d4 : decide (b.length > 1024) = true := by simp; omega
      clear hA
      go_enter Try.func25, Try.ntmps25
      go_wp2_with fail
      refine bodyPost_ret (results_tmp2 rfl _ _ _) rfl ?_
      exact ⟨⟨_, _, rfl⟩, PutO.of_below HT.out.1 (Below.refl _ _)⟩
  · have hD := Aside0.mk (show decL l b.length = l ++ [⟨1, (b.length : Int), 0⟩] ++ [⟨1, 2, 0⟩] from if_neg hA)
    rw [hD.out]
    have HA := Aside0.mk hA
    have d1 : decide ((b.length : Int) < 11) = false := by simp; omega
    have d2 : decide (b.length < 11) = false := by simp; omega
    have d3 : decide ((b.length : Int) > 1024) = false := by simp; omega
    have d4 : decide (b.length > 1024) = false := by simp; omega
    clear hA
    have HL := Aside0.mk (show 11 ≤ b.length ∧ b.length ≤ 1024 from by have := HA.out; omega)
    go_enter Try.func25, Try.ntmps25
    go_wp2_with fail
    refine (findT B tb v l A c b 0 2 2 _ HT.out.1 (by have := HT.out.2; omega) HR.out HBy.out ⟨by decide, by decide⟩ (by have := HL.out; omega) rfl ⟨by decide, by decide⟩).mono ?_
    rintro e w1 ⟨rfl, hb1⟩
    obtain ⟨v1, g1, g2, g3⟩ := hb1
    have HT1 := Aside0.mk (TrO.below g1 (below_alloc (Below.refl w1.heap.size w1) (.cells #[.int .u8 0, .int .u8 2] 5)))
    have HG := Aside0.mk (And.intro g2 g3)
    have HZ := Aside0.mk (two_stay g1)
    have HBl := Aside0.mk (OnlyT.of_below (below_alloc (Below.refl w1.heap.size w1) (.cells #[.int .u8 0, .int .u8 2] 5)) (some tb) v1.ownBlock)
    clear g1 g2 g3
    have HLE := Aside0.mk (fnd_le b 0 2 b.length (Nat.le_refl _))
    have HLT := Aside0.mk (fnd_lt b 0 2 b.length (Nat.le_refl _))
    obtain ⟨s, hs⟩ : ∃ s, s = fnd b 0 2 b.length := ⟨_, rfl⟩
    rw [← hs] at HLE HLT ⊢
    obtain ⟨at_, fd⟩ := s
    have HS := Aside0.mk hs
    clear hs
    have hU : U64 (at_ : Int) := ⟨by omega, by have := HL.out; have := HLE.out; simp only at this; omega⟩
    have k1 : IntKind.u64.wrap (at_ : Int) = (at_ : Int) := by rw [IntKind.wrap_u64]; have := hU.1; have := hU.2; omega
    have k2 : 2 ≤ c := by have := HL.out; have := HC.out; omega
    have k3 : (2 : Int) ≤ (c : Int) := by omega
    go_wp2_with fail
    refine (equalT2 B tb v1 _ A (some ⟨w1.heap.size, 0, none⟩) c 2 2 2 (b.take 2) [0, 2] _ HT1.out (by have := HT.out.2; simp; omega) (fun w' ho => (HR.out w' (HG.out.1.trans HG.out.2 (HBl.out.trans (AtOr.refl _ _) ho))).take_ 2 (by have := HL.out; omega)) HZ.out (by omega) (by omega)).mono ?_
    rintro e w2 ⟨⟨p, rfl⟩, hb2⟩
    have HB2 := Aside0.mk (show PutO w w2 B (some tb) v (l ++ [⟨1, (b.length : Int), 0⟩] ++ [⟨1, 2, 0⟩]) from PutO.step HG.out.1 HG.out.2 (PutO.step HBl.out (AtOr.refl _ _) hb2))
    clear hb2
    go_wp2_with fail
    refine (less_any (at_ : Int) 10 _ hU ⟨by decide, by decide⟩).mono ?_
    rintro e w3 ⟨rfl, rfl⟩
    obtain ⟨q, hq⟩ : ∃ q, q = decide ((at_ : Int) < 10) := ⟨_, rfl⟩
    rw [← hq]
    have HQ := Aside0.mk hq
    clear hq
    by_cases hx : (fd && (p && !q)) = true
    · have h4 : Go.bits .and .u64 (b2i fd) (Go.bits .andNot .u64 (b2i p) (b2i q)) = 1 := by rw [andNot_b2i, and_b2i, hx]; rfl
      have hfd : fd = true := by cases fd <;> simp_all
      have hat : at_ < b.length := HLT.out hfd
      have HX := Aside0.mk hx
      clear hx hfd
      obtain ⟨j, hj⟩ : ∃ j, j = at_ + 1 := ⟨_, rfl⟩
      have j1 : wrap64 ((at_ : Int) + 1) = (j : Int) := by have := HL.out; unfold wrap64; omega
      have j2 : (j : Int) ≤ (b.length : Int) := by omega
      have j3 : (j : Int) ≤ (c : Int) := by have := HC.out; omega
      have HJ := Aside0.mk (And.intro hj (show j ≤ b.length from by omega))
      clear hj hat
      have HDR0 := Aside0.mk ((HR.out _ HB2.out.only).drop_ j HJ.out.2 HC.out)
      by_cases hcj : c = j
      · have HDR := Aside0.mk (show ReadsInt w3 .u8 A (b.length - j) (b.drop j) from by have h := HDR0.out; rwa [if_pos hcj] at h)
        clear HDR0
        go_wp2_with fail
        refine (cloneB _ _ _ (b.drop j) _ HDR.out (by have := HL.out; omega)).mono ?_
        rintro e w4 ⟨v4, rfl, hO4, hb4⟩
        have HB4 := Aside0.mk (HB2.out.then_below hb4)
        clear hO4 hb4
        go_wp2_with fail
        refine bodyPost_ret (results_tmp2 rfl _ _ _) rfl ?_
        exact ⟨⟨_, _, rfl⟩, HB4.out⟩
      · have HDR := Aside0.mk (show ReadsInt w3 .u8 (Option.map (fun x => x.add j) A) (b.length - j) (b.drop j) from by have h := HDR0.out; rwa [if_neg hcj] at h)
        clear HDR0
        go_wp2_with fail
        refine (cloneB _ _ _ (b.drop j) _ HDR.out (by have := HL.out; omega)).mono ?_
        rintro e w4 ⟨v4, rfl, hO4, hb4⟩
        have HB4 := Aside0.mk (HB2.out.then_below hb4)
        clear hO4 hb4
        go_wp2_with fail
        refine bodyPost_ret (results_tmp2 rfl _ _ _) rfl ?_
        exact ⟨⟨_, _, rfl⟩, HB4.out⟩
    · have hx' : (fd && (p && !q)) = false := by simpa using hx
      have h4 : Go.bits .and .u64 (b2i fd) (Go.bits .andNot .u64 (b2i p) (b2i q)) = 0 := by rw [andNot_b2i, and_b2i, hx']; rfl
      clear hx hx'
      go_wp2_with fail
      refine bodyPost_ret (results_tmp2 rfl _ _ _) rfl ?_
      exact ⟨⟨_, _, rfl⟩, HB2.out⟩
end Go.Proofs.Ytcjphioimmgbfaa.Tra
