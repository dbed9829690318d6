/- The law's arguments, opened; the walk for whatever they hold. -/
import Derived.Test.YtjpibgehhgaopaaGreatRows
import Derived.WalkKit
import Derived.ProofKit
import Derived.OpenShut
import Derived.ChangeOld
import Derived.SizedLaws
import Derived.Deep.Slices
import Derived.Deep.Strs
import Derived.Lib.SmallJoins
import Derived.Test.YtjpibgehhgaopaaGreatTjN
namespace Go.Proofs.YtjpibgehhgaopaaGreat.Top
open Go.ChangeShapes Go.WideShapes Go.ChangeAt Go.RowKit Go.Deep Go.Joins Go.Proofs.YtjpibgehhgaopaaGreatW.PrintWords
set_option linter.unusedVariables false
set_option linter.unusedSimpArgs false
theorem own : ownKnob Tryz.prog.godebug = none := by kernel_rfl
theorem laidOut : laidOutB Tryz.prog = true := by kernel_rfl
theorem em_byts (l : List Int) (h : ∀ x ∈ l, Byt x) : ∀ j : Nat, Byt (rd l (j : Int)) := by
  intro j
  unfold rd
  rw [Int.toNat_natCast, List.getD_eq_getElem?_getD]
  rcases Nat.lt_or_ge j l.length with hj | hj
  · rw [List.getElem?_eq_getElem hj]
    exact h _ (List.getElem_mem hj)
  · rw [List.getElem?_eq_none hj]
    unfold Byt
    simp
theorem wf64 {n : Int} (h : (Lit.int .i64 n).wf = true) : -9223372036854775808 ≤ n ∧ n ≤ 9223372036854775807 := by
  have h2 : IntKind.i64.min ≤ n ∧ n ≤ IntKind.i64.max := by simpa [Lit.wf] using h
  exact h2
theorem min_u64 : IntKind.u64.min = 0 := by kernel_rfl
theorem max_u64 : IntKind.u64.max = 18446744073709551615 := by kernel_rfl
theorem wfu64 {n : Int} (h : (Lit.int .u64 n).wf = true) : 0 ≤ n ∧ n ≤ 18446744073709551615 := by
  have h1 : (decide (IntKind.u64.min ≤ n) && decide (n ≤ IntKind.u64.max)) = true := h
  rw [min_u64, max_u64, Bool.and_eq_true, decide_eq_true_eq, decide_eq_true_eq] at h1
  exact h1
section
variable {H : Type} {enc : TypeId × Value → H} {W : World}
set_option maxRecDepth 100000 in
theorem open_bytes {r : Reach} {b0 : Nat} {base : Nat} {held : Bool} {v : Value} {d : DataW H} {p : List MemPlace} (hv : Value.okWide Tryz.prog W r b0 22 v) (h : DataW.Trod enc Tryz.prog W base (fun _ => true) held 22 v d p) :
    ∃ (A : Option Addr) (c : Nat) (l : List Int), v = .slice A l.length c ∧ ReadsInt W .u8 A l.length l ∧ l.length ≤ c ∧ ∀ j : Nat, Byt (rd l (j : Int)) := by
  obtain ⟨a, len, cap, rfl⟩ := okWide_slice Tryz.underlying22 hv
  have hrow : (a = none ∧ len = 0 ∧ cap = 0 ∧ ([] : List Int) = []) ∨ ∃ zs : List Int, ∃ x, a = some x ∧ len ≤ cap ∧ cap ≤ maxLen ∧ zs.length = cap ∧ (∀ i, i < zs.length → W.cell? (x.add i) = some (.int .u8 (zs.getD i 0))) ∧ ∀ n ∈ zs, (Lit.int .u8 n).wf = true := by
    obtain ⟨fuel, hf⟩ := h
    rcases open_ints Tryz.underlying22 Tryz.underlying5 (by kernel_rfl) hf with ⟨hcs, _⟩ | ⟨x, l, c, zs, hcs, _, hl, hm, hz, _, hcell, hwz⟩
    · simp [Value.cells] at hcs
      obtain ⟨rfl, rfl, rfl⟩ := hcs
      exact .inl ⟨rfl, rfl, rfl, rfl⟩
    · simp [Value.cells] at hcs
      obtain ⟨rfl, rfl, rfl⟩ := hcs
      exact .inr ⟨zs, _, rfl, hl, hm, by simpa using hz, hcell, hwz⟩
  have hrow' : ∃ zs : List Int, (a = none ∧ len = 0 ∧ cap = 0 ∧ zs = []) ∨ ∃ x, a = some x ∧ len ≤ cap ∧ cap ≤ maxLen ∧ zs.length = cap ∧ (∀ i, i < zs.length → W.cell? (x.add i) = some (.int .u8 (zs.getD i 0))) ∧ ∀ n ∈ zs, (Lit.int .u8 n).wf = true := by
    rcases hrow with h | ⟨zs, h⟩
    · exact ⟨[], .inl h⟩
    · exact ⟨zs, .inr h⟩
  obtain ⟨zs, hz⟩ := hrow'
  obtain ⟨l, rfl, hr, hm, hw, hc⟩ := ReadsInt.ofRowC hz
  refine ⟨a, cap, l, rfl, hr, hc, em_byts l (fun x hx => ?_)⟩
  have h2 : IntKind.u8.min ≤ x ∧ x ≤ IntKind.u8.max := by simpa [Lit.wf] using hw x hx
  have h3 : (0 : Int) ≤ x ∧ x ≤ 255 := h2
  exact ⟨h3.1, by omega⟩
end
theorem topWalk (A : Option Addr) (c : Nat) (l : List Int) (bits e rounds cut : Int) (W : World) (hr : ReadsInt W .u8 A l.length l) (hc : l.length ≤ c) (hb : ∀ j : Nat, Byt (rd l (j : Int))) (he : 0 ≤ e ∧ e ≤ 18446744073709551615) :
    Calls Tryz.prog 3 #[.slice A l.length c, .int .i64 bits, .int .u64 e, .int .i64 rounds, .int .i64 cut] W fun x W' => x = .returned (.bool true) ∧ Below W.heap.size W W' := by
  by_cases h : ((l.length : Nat) : Int) > 3000 ∨ bits > 128 ∨ cut < 0 ∨ cut > ((l.length : Nat) : Int)
  · exact topSkip A c l.length W bits rounds cut e h
  · have h1 : ¬ ((l.length : Nat) : Int) > 3000 := fun x => h (.inl x)
    have h2 : ¬ bits > 128 := fun x => h (.inr (.inl x))
    have h3 : ¬ cut < 0 := fun x => h (.inr (.inr (.inl x)))
    have h4 : ¬ cut > ((l.length : Nat) : Int) := fun x => h (.inr (.inr (.inr x)))
    obtain ⟨e', rfl⟩ : ∃ e' : Nat, e = (e' : Int) := ⟨e.toNat, by omega⟩
    obtain ⟨cut', rfl⟩ : ∃ cut' : Nat, cut = (cut' : Int) := ⟨cut.toNat, by omega⟩
    exact topMain A c l.length l W bits rounds e' cut' rfl hr hc hb (by omega) (by omega) (by omega) (by omega)
end Go.Proofs.YtjpibgehhgaopaaGreat.Top
