/- pad's Decode without a trace. -/
import Derived.Test.YtcjphioimmgbfaaPdC
namespace Go.Proofs.Ytcjphioimmgbfaa.Tra
open Go.RowKit Go.Proofs.YtcjphioimmgbfaaW.PrintWords Go.Proofs.YtcjphioimmgbfaaW.PrintLast Go.Proofs.YtcjphioimmgbfaaW.PrintMore Go.Proofs.Ytcjphioimmgbfaa.PTraceActs
set_option linter.unusedVariables false
set_option linter.unusedSimpArgs false

theorem info5' : (Try.prog.info? 5).map (fun i => (i.zero, i.size, i.bytes)) = some (some (.int .u8 0), 1, 1) := by kernel_rfl
/-- slices.Clone of bytes. -/
theorem cloneB (A : Option Addr) (c n : Nat) (xs : List Int) (w : World) (hr : ReadsInt w .u8 A n xs) (hl : n ≤ 1000000) :
    Calls Try.prog 38 #[.slice A n c] w fun x w' => ∃ v, x = .returned v ∧ w'.ownsRow w.heap.size 5 1 v xs.length (nums .u8 xs) ∧ Below w.heap.size w w' := by
  obtain rfl := hr.1
  rcases A with _ | ad
  · have hq := fun W => Lib.run_eql_slice_nil (P := Try.prog) W 42 5 none 0 c 0 0 Try.underlying42
    have h0 : xs = [] := by
      rcases Nat.eq_zero_or_pos xs.length with h | h
      · exact List.eq_nil_of_length_eq_zero h
      · obtain ⟨_, e, _⟩ := hr.2.2 h
        cases e
    subst h0
    clear hr
    go_enter Try.func38, Try.ntmps38
    go_wp2
    go_ret
    exact ⟨_, rfl, own_nil _ _ _ _, Below.refl _ _⟩
  · have hq := fun W => Lib.run_eql_slice_nil (P := Try.prog) W 42 5 (some ad) xs.length c 0 0 Try.underlying42
    have HL := Aside0.mk (show (([] : List Int).length + xs.length) * 1 ≤ 140737488355328 by simp; omega)
    have HO := Aside0.mk (show (w.alloc (.cells #[] 5)).ownsRow w.heap.size 5 1 (.slice (some ⟨w.heap.size, 0, none⟩) 0 0) ([] : List Int).length (nums .u8 []) from World.ownsRow_made w #[] 0 (Nat.le_refl _) (by unfold maxLen; omega) (by simp))
    have HR := Aside0.mk (hr.below (below_alloc (Below.refl w.heap.size w) (.cells #[] 5)))
    have HB := Aside0.mk (below_alloc (Below.refl w.heap.size w) (.cells #[] 5))
    clear hr hl
    go_enter Try.func38, Try.ntmps38
    go_wp2_with (at_builtin; refine print_append_row (w0 := w) w.heap.size rfl (.tmp 5) (.tmp 6) 42 5 .u8 1 rfl Try.underlying42 info5' (by decide) (.slice (some ⟨w.heap.size, 0, none⟩) 0 0) [] xs (some ad) xs.length c rfl rfl HO.out HR.out HB.out (by simp) HL.out ?_; intro v1 w1 hR1 hB1 hg1 hat1; have HR1 := Aside0.mk hR1; have HB1 := Aside0.mk hB1; clear hR1 hB1 hg1 hat1)
    go_ret
    exact ⟨_, rfl, HR1.out, HB1.out⟩
theorem equalNil2 (A A' : Option Addr) (ca cb n m : Nat) (a b : List Int) (w : World) (ha : ReadsInt w .u8 A n a) (hb : ReadsInt w .u8 A' m b) (hba : ∀ i, Byte (rd a i)) (hbb : ∀ i, Byte (rd b i)) (hl : n ≤ 1200) (hl2 : m ≤ 1200) :
    Calls Try.prog 29 #[.pointer none, .slice A n ca, .slice A' m cb] w fun e w' => e = .returned (.int .u64 (b2i (decide (a = b)))) ∧ Below w.heap.size w w' := by
  obtain rfl := ha.1
  obtain rfl := hb.1
  exact equalNil' A A' ca cb a b w ha hb hba hbb hl hl2
theorem fnd_lt (b : List Int) (c m : Int) : ∀ i, i ≤ b.length → (fnd b c m i).2 = true → (fnd b c m i).1 < b.length
  | 0, _, h => by simp [fnd] at h
  | i + 1, hi, h => by
    have ih := fnd_lt b c m i (by omega)
    show (if hit b c m i (fnd b c m i).2 then i else (fnd b c m i).1) < b.length
    by_cases hh : hit b c m i (fnd b c m i).2 = true
    · rw [if_pos hh]; omega
    · rw [if_neg hh]
      have h2 : ((fnd b c m i).2 || hit b c m i (fnd b c m i).2) = true := h
      simp [hh] at h2
      exact ih h2
def okD (b : List Int) : Bool := (fnd b 0 2 b.length).2 && (decide (b.take 2 = [0, 2]) && !decide (((fnd b 0 2 b.length).1 : Int) < 10))
def decS (b : List Int) : List Int × Int := if b.length < 11 ∨ 1024 < b.length then ([], 230) else if okD b then (b.drop ((fnd b 0 2 b.length).1 + 1), 0) else ([], 230)
theorem byte_take (b : List Int) (n : Nat) (h : ∀ i, Byte (rd b i)) : ∀ i, Byte (rd (b.take n) i) := by
  intro i
  unfold rd
  rw [List.getD_eq_getElem?_getD, List.getElem?_take]
  split
  · have := h i
    unfold rd at this
    rwa [List.getD_eq_getElem?_getD] at this
  · exact ⟨by simp, by simp⟩
theorem two_reads (w : World) : ReadsInt (w.alloc (.cells #[.int .u8 0, .int .u8 2] 5)) .u8 (some ⟨w.heap.size, 0, none⟩) 2 [0, 2] := by
  refine ⟨rfl, by decide, fun _ => ⟨_, rfl, fun j hj => ?_⟩⟩
  rw [add_plain, cell_of_row _ _ j _ _ _ (heap_alloc_new w _)]
  rcases j with _ | _ | j <;> first | rfl | omega
set_option maxHeartbeats 1000000 in
set_option maxRecDepth 100000 in
theorem decNil (A : Option Addr) (c : Nat) (b : List Int) (w : World) (hr : ReadsInt w .u8 A b.length b) (hc : b.length ≤ c) (hb : ∀ i, Byte (rd b i)) :
    Calls Try.prog 25 #[.pointer none, .slice A b.length c] w fun e w' => ∃ v, e = .returned (.tuple #[v, .int .i64 (decS b).2]) ∧ w'.ownsRow w.heap.size 5 1 v (decS b).1.length (nums .u8 (decS b).1) ∧ Below w.heap.size w w' := by
  have HR := Aside0.mk hr
  have HC := Aside0.mk hc
  have HBy := Aside0.mk hb
  clear hr hc hb
  by_cases hA : b.length < 11 ∨ 1024 < b.length
  · have HD := Aside0.mk (show decS b = ([], 230) from if_pos hA)
    rw [HD.out]
    by_cases h1 : b.length < 11
    · have d1 : decide ((b.length : Int) < 11) = true := by simp; omega
      have d2 : decide (b.length < 11) = true := by simp; omega
      go_enter Try.func25, Try.ntmps25
      go_wp2_with fail
      refine bodyPost_ret (results_tmp2 rfl _ _ _) rfl ?_
      exact ⟨_, rfl, own_nil _ _ _ _, Below.refl _ _⟩
    · have d1 : decide ((b.length : Int) < 11) = false := by simp; omega
      have d2 : decide (b.length < 11) = false := by simp; omega
      have d3 : decide ((b.length : Int) > 1024) = true := by simp; omega
      have d4 : decide (b.length > 1024) = true := by simp; omega
      clear hA
      go_enter Try.func25, Try.ntmps25
      go_wp2_with fail
      refine bodyPost_ret (results_tmp2 rfl _ _ _) rfl ?_
      exact ⟨_, rfl, own_nil _ _ _ _, Below.refl _ _⟩
  · have hD := Aside0.mk (show decS b = if okD b then (b.drop ((fnd b 0 2 b.length).1 + 1), 0) else ([], 230) from if_neg hA)
    have HA := Aside0.mk hA
    have d1 : decide ((b.length : Int) < 11) = false := by simp; omega
    have d2 : decide (b.length < 11) = false := by simp; omega
    have d3 : decide ((b.length : Int) > 1024) = false := by simp; omega
    have d4 : decide (b.length > 1024) = false := by simp; omega
    clear hA
    have HL := Aside0.mk (show 11 ≤ b.length ∧ b.length ≤ 1024 from by have := HA.out; omega)
    go_enter Try.func25, Try.ntmps25
    go_wp2_with fail
    refine (findNil A c b 0 2 2 _ HR.out HBy.out ⟨by decide, by decide⟩ (by have := HL.out; omega) rfl ⟨by decide, by decide⟩).mono ?_
    rintro e w1 ⟨rfl, hb1⟩
    have HB1 := Aside0.mk hb1
    clear hb1
    have HLE := Aside0.mk (fnd_le b 0 2 b.length (Nat.le_refl _))
    have HLT := Aside0.mk (fnd_lt b 0 2 b.length (Nat.le_refl _))
    obtain ⟨s, hs⟩ : ∃ s, s = fnd b 0 2 b.length := ⟨_, rfl⟩
    rw [← hs] at HLE HLT ⊢
    obtain ⟨at_, fd⟩ := s
    have HS := Aside0.mk hs
    clear hs
    have hU : U64 (at_ : Int) := ⟨by omega, by have := HL.out; have := HLE.out; simp only at this; omega⟩
    have k1 : IntKind.u64.wrap (at_ : Int) = (at_ : Int) := by rw [IntKind.wrap_u64]; have := hU.1; have := hU.2; omega
    have k2 : 2 ≤ c := by have := HL.out; have := HC.out; omega
    have k3 : (2 : Int) ≤ (c : Int) := by omega
    go_wp2_with fail
    refine (equalNil2 A (some ⟨w1.heap.size, 0, none⟩) c 2 2 2 (b.take 2) [0, 2] _ (((HR.out.below HB1.out).take_ 2 (by have := HL.out; omega)).below (below_alloc (Below.refl _ _) _)) (two_reads w1) (byte_take b 2 HBy.out) ?_ (by omega) (by omega)).mono ?_
    · intro i
      unfold rd
      rcases h : i.toNat with _ | _ | k
      · exact ⟨by decide, by decide⟩
      · exact ⟨by decide, by decide⟩
      · exact ⟨by simp, by simp⟩
    rintro e w2 ⟨rfl, hb2⟩
    have HB2 := Aside0.mk (show Below w.heap.size w w2 from (HB1.out.trans ((below_alloc (Below.refl w1.heap.size w1) (.cells #[.int .u8 0, .int .u8 2] 5)).mono HB1.out.size)).trans (hb2.mono (by have := HB1.out.size; simp; omega)))
    clear hb2
    obtain ⟨p, hp⟩ : ∃ p, p = decide (b.take 2 = [0, 2]) := ⟨_, rfl⟩
    rw [← hp]
    have HP := Aside0.mk hp
    clear hp
    go_wp2_with fail
    refine (less_any (at_ : Int) 10 _ hU ⟨by decide, by decide⟩).mono ?_
    rintro e w3 ⟨rfl, rfl⟩
    obtain ⟨q, hq⟩ : ∃ q, q = decide ((at_ : Int) < 10) := ⟨_, rfl⟩
    rw [← hq]
    have HQ := Aside0.mk hq
    clear hq
    have HOK := Aside0.mk (show okD b = (fd && (p && !q)) from by unfold okD; rw [← HS.out, HP.out, HQ.out])
    by_cases hx : (fd && (p && !q)) = true
    · have h4 : Go.bits .and .u64 (b2i fd) (Go.bits .andNot .u64 (b2i p) (b2i q)) = 1 := by rw [andNot_b2i, and_b2i, hx]; rfl
      have hfd : fd = true := by cases fd <;> simp_all
      have hat : at_ < b.length := HLT.out hfd
      have HX := Aside0.mk hx
      clear hx hfd
      obtain ⟨j, hj⟩ : ∃ j, j = at_ + 1 := ⟨_, rfl⟩
      have j1 : wrap64 ((at_ : Int) + 1) = (j : Int) := by have := HL.out; unfold wrap64; omega
      have j2 : (j : Int) ≤ (b.length : Int) := by omega
      have j3 : (j : Int) ≤ (c : Int) := by have := HC.out; omega
      have HJ := Aside0.mk (And.intro hj (show j ≤ b.length from by omega))
      clear hj hat
      have HDR0 := Aside0.mk (HR.out.drop_ j HJ.out.2 HC.out)
      have HD2 := Aside0.mk (show decS b = (b.drop j, 0) from by rw [hD.out, HOK.out, HX.out, if_pos rfl, ← HS.out, HJ.out.1])
      by_cases hcj : c = j
      · have HDR := Aside0.mk (show ReadsInt w .u8 A (b.length - j) (b.drop j) from by have h := HDR0.out; rwa [if_pos hcj] at h)
        clear HDR0
        go_wp2_with fail
        refine (cloneB _ _ _ (b.drop j) _ (HDR.out.below HB2.out) (by have := HL.out; omega)).mono ?_
        rintro e w4 ⟨v4, rfl, hO4, hb4⟩
        have HB4 := Aside0.mk (HB2.out.trans (hb4.mono HB2.out.size))
        have HO4 := Aside0.mk (own_less hO4 HB2.out.size)
        clear hO4 hb4
        go_wp2_with fail
        refine bodyPost_ret (results_tmp2 rfl _ _ _) rfl ?_
        rw [HD2.out]
        exact ⟨v4, rfl, HO4.out, HB4.out⟩
      · have HDR := Aside0.mk (show ReadsInt w .u8 (Option.map (fun x => x.add j) A) (b.length - j) (b.drop j) from by have h := HDR0.out; rwa [if_neg hcj] at h)
        clear HDR0
        go_wp2_with fail
        refine (cloneB _ _ _ (b.drop j) _ (HDR.out.below HB2.out) (by have := HL.out; omega)).mono ?_
        rintro e w4 ⟨v4, rfl, hO4, hb4⟩
        have HB4 := Aside0.mk (HB2.out.trans (hb4.mono HB2.out.size))
        have HO4 := Aside0.mk (own_less hO4 HB2.out.size)
        clear hO4 hb4
        go_wp2_with fail
        refine bodyPost_ret (results_tmp2 rfl _ _ _) rfl ?_
        rw [HD2.out]
        exact ⟨v4, rfl, HO4.out, HB4.out⟩
    · have hx' : (fd && (p && !q)) = false := by simpa using hx
      have h4 : Go.bits .and .u64 (b2i fd) (Go.bits .andNot .u64 (b2i p) (b2i q)) = 0 := by rw [andNot_b2i, and_b2i, hx']; rfl
      have HD2 := Aside0.mk (show decS b = ([], 230) from by rw [hD.out, HOK.out, hx']; rfl)
      clear hx hx'
      go_wp2_with fail
      refine bodyPost_ret (results_tmp2 rfl _ _ _) rfl ?_
      rw [HD2.out]
      exact ⟨_, rfl, own_nil _ _ _ _, HB2.out⟩
end Go.Proofs.Ytcjphioimmgbfaa.Tra
