/- pad's Encode: refused, or nought, two, a fill without noughts, nought, the message. -/
import Derived.Test.YtcjphioimmgbfaaPeE
namespace Go.Proofs.Ytcjphioimmgbfaa.Tra
open Go.RowKit Go.Proofs.YtcjphioimmgbfaaW.PrintWords Go.Proofs.YtcjphioimmgbfaaW.PrintLast Go.Proofs.YtcjphioimmgbfaaW.PrintMore Go.Proofs.Ytcjphioimmgbfaa.PTraceActs
set_option linter.unusedVariables false
set_option linter.unusedSimpArgs false

def encL (xs m : List Int) : List Int := [0, 2] ++ xs ++ [0] ++ m
/-- What Encode answers. -/
def EncPost (w : World) (k : Int) (m : List Int) (e : Ending) (w' : World) : Prop :=
  (∃ er : Int, e = .returned (.tuple #[.slice none 0 0, .int .i64 er]) ∧ er ≠ 0) ∨
  (∃ v xs, e = .returned (.tuple #[v, .int .i64 0]) ∧ Aside0 (FillOk xs ∧ 8 ≤ xs.length ∧ ((encL xs m).length : Int) = k ∧ k ≤ 1024) ∧ Aside0 (w'.ownsRow w.heap.size 5 1 v (encL xs m).length (nums .u8 (encL xs m))))
theorem one_reads (w : World) : ReadsInt (w.alloc (.cells #[.int .u8 0] 5)) .u8 (some ⟨w.heap.size, 0, none⟩) 1 [0] := by
  refine ⟨rfl, by decide, fun _ => ⟨_, rfl, fun j hj => ?_⟩⟩
  rw [add_plain, cell_of_row _ _ j _ _ _ (heap_alloc_new w _)]
  rcases j with _ | j <;> first | rfl | omega
def encA (w : World) (Av A : Option Addr) : Nat → Option Addr
  | 0 => some ⟨w.heap.size, 0, none⟩
  | 1 => Av
  | 2 => some ⟨w.heap.size + 1, 0, none⟩
  | _ => A
def encC (cv cm : Nat) : Nat → Nat
  | 0 => 2
  | 1 => cv
  | 2 => 1
  | _ => cm
def encLs (xs m : List Int) : Nat → List Int
  | 0 => [0, 2]
  | 1 => xs
  | 2 => [0]
  | _ => m
theorem enc_cat (xs m : List Int) : catL (encLs xs m) 4 = encL xs m := by simp [catL, encLs, encL]
abbrev encW (w : World) (Av A : Option Addr) (xs m : List Int) (cv cm : Nat) : World :=
  ((w.alloc (.cells #[.int .u8 0, .int .u8 2] 5)).alloc (.cells #[.int .u8 0] 5)).alloc (.cells #[.slice (some ⟨w.heap.size, 0, none⟩) 2 2, .slice Av xs.length cv, .slice (some ⟨w.heap.size + 1, 0, none⟩) 1 1, .slice A m.length cm] 42)
theorem enc_cells (w : World) (Av A : Option Addr) (xs m : List Int) (cv cm : Nat) (hx : ReadsInt w .u8 Av xs.length xs) (hm : ReadsInt w .u8 A m.length m) :
    (∀ i, i < 4 → (encW w Av A xs m cv cm).cell? ⟨w.heap.size + 1 + 1, i, none⟩ = some (.slice (encA w Av A i) (encLs xs m i).length (encC cv cm i))) ∧
    (∀ i, i < 4 → ReadsInt (encW w Av A xs m cv cm) .u8 (encA w Av A i) (encLs xs m i).length (encLs xs m i)) ∧ Below w.heap.size w (encW w Av A xs m cv cm) := by
  have b2 : Below (w.alloc (.cells #[.int .u8 0, .int .u8 2] 5)).heap.size (w.alloc (.cells #[.int .u8 0, .int .u8 2] 5)) (encW w Av A xs m cv cm) := below_alloc (below_alloc (Below.refl _ _) _) _
  have b1 : Below w.heap.size w (encW w Av A xs m cv cm) := (below_alloc (Below.refl _ _) _).trans (b2.mono (by simp))
  have b3 : Below ((w.alloc (.cells #[.int .u8 0, .int .u8 2] 5)).alloc (.cells #[.int .u8 0] 5)).heap.size ((w.alloc (.cells #[.int .u8 0, .int .u8 2] 5)).alloc (.cells #[.int .u8 0] 5)) (encW w Av A xs m cv cm) := below_alloc (Below.refl _ _) _
  have r2 : ReadsInt ((w.alloc (.cells #[.int .u8 0, .int .u8 2] 5)).alloc (.cells #[.int .u8 0] 5)) .u8 (some ⟨w.heap.size + 1, 0, none⟩) 1 [0] := by
    have := one_reads (w.alloc (.cells #[.int .u8 0, .int .u8 2] 5))
    rwa [World.size_alloc] at this
  refine ⟨fun i hi => ?_, fun i hi => ?_, b1⟩
  · have hb : (encW w Av A xs m cv cm).heap[w.heap.size + 1 + 1]? = some (.cells #[.slice (some ⟨w.heap.size, 0, none⟩) 2 2, .slice Av xs.length cv, .slice (some ⟨w.heap.size + 1, 0, none⟩) 1 1, .slice A m.length cm] 42) := by
      have := blk_new ((w.alloc (.cells #[.int .u8 0, .int .u8 2] 5)).alloc (.cells #[.int .u8 0] 5)) (.cells #[.slice (some ⟨w.heap.size, 0, none⟩) 2 2, .slice Av xs.length cv, .slice (some ⟨w.heap.size + 1, 0, none⟩) 1 1, .slice A m.length cm] 42)
      rwa [World.size_alloc, World.size_alloc] at this
    rw [blk_cell hb i]
    match i, hi with
    | 0, _ => rfl
    | 1, _ => rfl
    | 2, _ => rfl
    | 3, _ => rfl
  · match i, hi with
    | 0, _ => exact (two_reads w).below b2
    | 1, _ => exact hx.below b1
    | 2, _ => exact r2.below b3
    | 3, _ => exact hm.below b1
theorem OnlyT.then_below {w w1 w2 : World} {t row : Option Nat} (h : OnlyT w w1 t row) (k : Below w1.heap.size w1 w2) : OnlyT w w2 t row :=
  ⟨k.os.trans h.os, k.tape.trans h.tape, k.output.trans h.output, Nat.le_trans h.size k.size, fun i hi h1 h2 => (k.block i (by have := h.size; omega)).trans (h.block i hi h1 h2)⟩
set_option maxHeartbeats 1000000 in
set_option maxRecDepth 100000 in
theorem encB (A : Option Addr) (cm : Nat) (m : List Int) (k : Int) (sb : Nat) (As : Option Addr) (cs : Nat) (bs : List Int) (base : Nat) (w : World) (hm : ∀ w', OnlyT w w' (some sb) none → ReadsInt w' .u8 A m.length m) (hml : m.length ≤ 1200) (hk : -9223372036854775808 ≤ k ∧ k ≤ 9223372036854775807)
    (hb : w.heap[sb]? = some (scB As bs.length cs 0)) (hO : w.ownsRow base 5 1 (.slice As bs.length cs) bs.length (nums .u8 bs)) (hby : ∀ i, Byte (rd bs i)) (hl : bs.length ≤ 1200) :
    Calls Try.prog 31 #[.slice A m.length cm, .int .i64 k, .pointer (some ⟨sb, 0, none⟩)] w fun e w' => EncPost w k m e w' ∧ Aside0 (OnlyT w w' (some sb) none) := by
  have HM := Aside0.mk (And.intro hm hml)
  have HK := Aside0.mk hk
  have HS := Aside0.mk (And.intro hb (And.intro hO (And.intro hby hl)))
  have H0 := Aside0.mk (OnlyT.refl w (some sb) none)
  clear hm hml hb hO hby hl hk
  by_cases h1 : k < 0
  · have d1 : decide (k < 0) = true := by simp; omega
    go_enter Try.func31, Try.ntmps31
    go_wp2_with fail
    (try simp only [Exit.inBlock, Exit.then])
    refine bodyPost_ret (results_tmp2 rfl _ _ _) rfl ?_
    exact ⟨.inl ⟨1, rfl, by decide⟩, H0⟩
  · have d1 : decide (k < 0) = false := by simp; omega
    by_cases h2 : 1024 < k
    · have d2 : decide (k > 1024) = true := by simp; omega
      go_enter Try.func31, Try.ntmps31
      go_wp2_with fail
      (try simp only [Exit.inBlock, Exit.then])
      refine bodyPost_ret (results_tmp2 rfl _ _ _) rfl ?_
      exact ⟨.inl ⟨1, rfl, by decide⟩, H0⟩
    · have d2 : decide (k > 1024) = false := by simp; omega
      have w1 : wrap64 (k - 11) = k - 11 := by unfold wrap64; omega
      by_cases h3 : k - 11 < (m.length : Int)
      · have d3 : decide ((m.length : Int) > k - 11) = true := by simp; omega
        clear h1 h2
        go_enter Try.func31, Try.ntmps31
        go_wp2_with fail
        (try simp only [Exit.inBlock, Exit.then])
        refine bodyPost_ret (results_tmp2 rfl _ _ _) rfl ?_
        exact ⟨.inl ⟨231, rfl, by decide⟩, H0⟩
      · have d3 : decide ((m.length : Int) > k - 11) = false := by simp; omega
        obtain ⟨n, hn⟩ : ∃ n : Nat, (n : Int) = k - 3 - (m.length : Int) := ⟨(k - 3 - (m.length : Int)).toNat, by omega⟩
        have w2 : wrap64 (k - 3) = k - 3 := by unfold wrap64; omega
        have w3 : wrap64 (k - 3 - (m.length : Int)) = (n : Int) := by unfold wrap64; omega
        have HN := Aside0.mk (show 8 ≤ n ∧ n ≤ 1024 ∧ (n : Int) = k - 3 - (m.length : Int) ∧ k ≤ 1024 from by omega)
        clear h1 h2 h3 hn
        go_enter Try.func31, Try.ntmps31
        go_wp2_with fail
        refine (filledS sb As cs bs n base _ HS.out.1 HS.out.2.1 HS.out.2.2.1 (by have := HN.out.1; omega) (by have := HN.out.2.1; omega) (by have := HS.out.2.2.2; omega)).mono ?_
        rintro e w' ⟨hres, HO1⟩
        rcases hres with ⟨v, xs, rfl, HX, HV⟩ | rfl
        · obtain ⟨hx1, hx2⟩ := HX.out
          subst hx1
          have HX2 := Aside0.mk hx2
          clear HX hx2
          obtain ⟨Av, cv, hv⟩ := own_slice HV.out
          subst hv
          have HVr := Aside0.mk (own_reads' HV.out)
          have HMr := Aside0.mk (HM.out.1 _ HO1.out)
          go_wp2_with fail
          have HR4 := Aside0.mk (enc_cells w' Av A xs m cv cm HVr.out HMr.out)
          refine (concatB (w'.heap.size + 1 + 1) 4 (encA w' Av A) (encC cv cm) (encLs xs m) _ HR4.out.1 HR4.out.2.1 (by omega) (by rw [enc_cat]; unfold encL; simp) (by rw [enc_cat]; unfold encL; have := HN.out; simp; omega)).mono ?_
          rintro e w6 ⟨v6, rfl, HO6, HB6⟩
          rw [enc_cat] at HO6
          go_wp2_with fail
          (try simp only [Exit.inBlock, Exit.then])
          refine bodyPost_ret (results_tmp2 rfl _ _ _) rfl ?_
          refine ⟨.inr ⟨v6, xs, rfl, ⟨HX2.out, HN.out.1, by have := HN.out; unfold encL; simp; omega, HN.out.2.2.2⟩, ⟨own_less HO6.out ?_⟩⟩, ⟨HO1.out.then_below ?_⟩⟩
          · have := HO1.out.size
            have := HR4.out.2.2.size
            omega
          · exact HR4.out.2.2.trans (HB6.out.mono HR4.out.2.2.size)
        · go_wp2_with fail
          (try simp only [Exit.inBlock, Exit.then])
          refine bodyPost_ret (results_tmp2 rfl _ _ _) rfl ?_
          exact ⟨.inl ⟨150, rfl, by decide⟩, HO1⟩
end Go.Proofs.Ytcjphioimmgbfaa.Tra
