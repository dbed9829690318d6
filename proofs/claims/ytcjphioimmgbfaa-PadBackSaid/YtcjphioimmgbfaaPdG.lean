/- The walk of the law PadDecodes. -/
import Derived.Test.YtcjphioimmgbfaaPdF
import Derived.Test.YtcjphioimmgbfaaPPadDecodesx1
namespace Go.Proofs.Ytcjphioimmgbfaa.Tra
open Go.RowKit Go.Proofs.YtcjphioimmgbfaaW.PrintWords Go.Proofs.YtcjphioimmgbfaaW.PrintLast Go.Proofs.YtcjphioimmgbfaaW.PrintMore
set_option linter.unusedVariables false
set_option linter.unusedSimpArgs false

theorem own_lessB {W : World} {b base n : Nat} {e : TypeId} {size : Nat} {v : Value} {xs : List Value} (h : W.ownsRow b e size v n xs) (hle : base ≤ b) : W.ownsRow base e size v n xs :=
  ⟨h.1, h.2.imp id fun ⟨g, cap, cur, he, hb, hr⟩ => ⟨g, cap, cur, he, Nat.le_trans hle hb, hr⟩⟩
theorem sameOwnB {w : World} {B : Nat} {v v' : Value} {l : List Int} (h : w.ownsRow B 5 1 v l.length (nums .u8 l)) (h' : w.ownsRow B 5 1 v' l.length (nums .u8 l)) : Calls Try.prog 27 #[v, v'] w fun e w' => e = .returned (.bool true) ∧ Drawn0 w w' := by
  have hcap : ∀ {A : Option Addr} {c : Nat} {n : Nat} {xs : List Value}, w.ownsRow B 5 1 (.slice A n c) n xs → n ≤ c := by
    intro A c n xs h
    rcases h.2 with ⟨h1, h2⟩ | ⟨g, cap, cur, h1, _, _, h2, _⟩
    · omega
    · injection h1 with _ _ h3; omega
  obtain ⟨A, c, rfl, hr⟩ := own_reads h
  obtain ⟨A', c', rfl, hr'⟩ := own_reads h'
  exact PPadDecodes.sconceref13_Same.calls A c l A' c' l true w (Kd.C_of_reads (d := (0 : Int)) (h1 := fun _ => rfl) hr) (hcap h) (Kd.C_of_reads (d := (0 : Int)) (h1 := fun _ => rfl) hr') (hcap h') (by simp [PPadDecodes.sconceref13_Same.f])
set_option maxHeartbeats 1000000 in
set_option maxRecDepth 100000 in
theorem padDecodesWalk (A : Option Addr) (c : Nat) (b : List Int) (w : World) (hr : ReadsInt w .u8 A b.length b) (hc : b.length ≤ c) (hb : ∀ i, Byte (rd b i)) :
    Calls Try.prog 7 #[.slice A b.length c] w fun e w' => e = .returned (.bool true) ∧ Below w.heap.size w w' := by
  have HR := Aside0.mk hr
  have HC := Aside0.mk hc
  have HBy := Aside0.mk hb
  clear hr hc hb
  go_enter Try.func7, Try.ntmps7
  go_wp2_with fail
  refine (awakePad _).mono ?_
  rintro e w1 ⟨rfl, hb1⟩
  have HB1 := Aside0.mk hb1
  clear hb1
  obtain ⟨r, hr⟩ : ∃ r : Bool, r = decide (b.length ≤ 1200) := ⟨_, rfl⟩
  go_wp2_with fail
  refine (few_any w1.heap.size 1 (fun _ => A) (fun _ => b.length) (fun _ => c) r _ ?_ (by omega) ?_ (fun _ => HR.out.2.1)).mono ?_
  · intro i hi
    obtain rfl : i = 0 := by omega
    simp
  · rw [hr]
    simp
  rintro e w2 ⟨rfl, hb2⟩
  have HB2 := Aside0.mk (show Below w.heap.size w w2 from (HB1.out.trans ((below_alloc (Below.refl w1.heap.size w1) (.cells #[.slice A b.length c] 42)).mono HB1.out.size)).trans (hb2.mono (by have := HB1.out.size; simp; omega)))
  clear hb2
  by_cases hl : b.length ≤ 1200
  · obtain rfl : r = true := by rw [hr]; simpa using hl
    have HL := Aside0.mk hl
    clear hr hl
    go_wp2_with fail
    refine (decNil A c b _ (HR.out.below HB2.out) HC.out HBy.out).mono ?_
    rintro e w3 ⟨v3, rfl, hO3, hb3⟩
    have HB3 := Aside0.mk (HB2.out.trans (hb3.mono HB2.out.size))
    have HO3 := Aside0.mk (own_lessB hO3 HB2.out.size)
    clear hO3 hb3
    go_wp2_with fail
    refine (unpad_any A c b _ (HR.out.below HB3.out) HC.out HL.out).mono ?_
    rintro e w4 ⟨v4, rfl, hO4, hb4⟩
    have HB4 := Aside0.mk (HB3.out.trans (hb4.mono HB3.out.size))
    have HO4 := Aside0.mk (own_lessB hO4 HB3.out.size)
    have HO5 := Aside0.mk (own_keepB HO3.out hb4)
    clear hO4 hb4
    go_wp2_with fail
    refine (sameOwnB HO5.out HO4.out).mono ?_
    rintro e w5 ⟨rfl, hd⟩
    have HB5 := Aside0.mk (HB4.out.trans (hd.below.mono HB4.out.size))
    clear hd
    go_wp2_with fail
    go_ret
    exact ⟨rfl, HB5.out⟩
  · obtain rfl : r = false := by rw [hr]; simpa using hl
    clear hr hl
    go_wp2_with fail
    go_ret
    exact ⟨rfl, HB2.out⟩
end Go.Proofs.Ytcjphioimmgbfaa.Tra
