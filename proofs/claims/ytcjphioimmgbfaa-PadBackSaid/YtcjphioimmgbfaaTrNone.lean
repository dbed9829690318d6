/- The walk of the law TraceNone: a nil trace answers and keeps nothing: true for every input. -/
import Derived.Test.YtcjphioimmgbfaaTrG
namespace Go.Proofs.Ytcjphioimmgbfaa.Tra
open Go.RowKit Go.Proofs.YtcjphioimmgbfaaW.PrintWords Go.Proofs.YtcjphioimmgbfaaW.PrintLast Go.Proofs.YtcjphioimmgbfaaW.PrintMore Go.Proofs.Ytcjphioimmgbfaa.PTraceActs
attribute [local go_sem high] eqA24
set_option linter.unusedVariables false
set_option linter.unusedSimpArgs false

theorem below_none {w w1 : World} {B : Nat} {l : List S24} (h : PutO w w1 B none (.slice none 0 0) l) : Below w.heap.size w w1 := by
  obtain ⟨v, _, hO, _⟩ := h
  exact ⟨hO.os, hO.tape, hO.output, hO.size, fun k hk => hO.block k hk (by simp) (by simp [Value.ownBlock])⟩
theorem putNil (e : S24) (w : World) : Calls Try.prog 13 #[.pointer none, evV e] w fun x w' => x = .returned (.bool true) ∧ Below w.heap.size w w' :=
  (putL 0 none (.slice none 0 0) [] e w rfl (by simp)).mono fun x w' ⟨hx, hp⟩ => ⟨hx, below_none hp⟩
theorem manyNil (w : World) : Calls Try.prog 15 #[.pointer none] w fun x w' => x = .returned (.int .i64 0) ∧ w = w' := manyO 0 none (.slice none 0 0) [] w rfl (fun _ => rfl)
theorem sumNil (w : World) : Calls Try.prog 20 #[.pointer none] w fun x w' => x = .returned (.int .u64 beg) ∧ w = w' := sumO 0 none (.slice none 0 0) [] w rfl (fun _ => rfl)
theorem eventsNil (w : World) : Calls Try.prog 14 #[.pointer none] w fun x w' => ∃ A1 c1, x = .returned (.slice A1 0 c1) ∧ Below w.heap.size w w' :=
  (eventsO 0 none (.slice none 0 0) [] w rfl (fun _ => rfl)).mono fun x w' ⟨A1, c1, h, _, hb⟩ => ⟨A1, c1, h, hb⟩
theorem sumRNil (w : World) : Calls Try.prog 21 #[.slice none 0 0] w fun e w' => e = .returned (.int .u64 beg) ∧ Below w.heap.size w w' :=
  sumR none 0 [] w ⟨rfl, by simp, fun h => by simp at h⟩ (Nat.le_refl _) (by simp)
theorem sameNil (tb : Nat) (v : Value) (B : Nat) (w : World) (h : TrO w B (some tb) v []) : Calls Try.prog 22 #[.pointer none, .pointer (some ⟨tb, 0, none⟩)] w fun e w' => e = .returned (.bool true) ∧ Below w.heap.size w w' :=
  (sameO 0 B none (some tb) (.slice none 0 0) v [] [] w rfl h (fun _ => rfl) (fun _ => rfl)).mono fun e w' ⟨r, he, hr, hb⟩ => ⟨by rw [he, hr.2 ⟨rfl, rfl, rfl⟩], hb⟩

set_option maxHeartbeats 1000000 in
set_option maxRecDepth 100000 in
theorem noneWalk (A : Option Addr) (c : Nat) (l : List S24) (w : World) (hr : Kd.C k24 w A l.length l) (hc : l.length ≤ c) :
    Calls Try.prog 6 #[.slice A l.length c] w fun x w' => x = .returned (.bool true) ∧ Below w.heap.size w w' := by
  have hu24 := Try.underlying24
  have hu22 := Try.underlying22
  have HR := Aside0.mk hr
  clear hr hc
  by_cases hbig : 200 < l.length
  · have hbig' : decide ((200 : Int) < (l.length : Int)) = true := by simp; omega
    go_enter Try.func6, Try.ntmps6
    go_wp2_with fail
    refine (awakeT _).mono ?_
    rintro x w1 ⟨rfl, hb1⟩
    have HB1 := Aside0.mk hb1
    clear hb1
    go_wp2_with fail
    go_ret
    exact ⟨rfl, HB1.out⟩
  · have hbig' : decide ((200 : Int) < (l.length : Int)) = false := by simp; omega
    go_enter Try.func6, Try.ntmps6
    go_wp2_with fail
    refine (awakeT _).mono ?_
    rintro x w1 ⟨rfl, hb1⟩
    have HB1 := Aside0.mk hb1
    clear hb1
    go_wp2_with fail
    go_loopw [13] (fun v13 wr => ∃ k : Nat, v13 = .int .i64 k ∧ Aside0 (k ≤ l.length) ∧ Aside0 (Below w.heap.size w wr)) (fun v13 _ => l.length - (intOf v13).toNat)
    case atStart => exact ⟨0, rfl, ⟨Nat.zero_le _⟩, HB1⟩
    case round =>
      obtain ⟨k, rfl, HK, HP⟩ := hrel
      have hk := HK.out
      by_cases hlt : k < l.length
      · obtain ⟨ad1, e1, a0, a1, a2⟩ := at_T24 (Kd.C_below HR.out HP.out) (k : Int) (by omega) (by omega)
        subst e1
        simp only [Int.toNat_natCast] at a0 a1 a2
        go_wp2_with fail
        refine (putNil (rd_T24 l k) _).mono ?_
        rintro x w3 ⟨rfl, hp⟩
        have HP1 := Aside0.mk (chain (below_alloc HP.out _) hp (below_alloc HP.out _).size)
        clear hp
        go_wp2_with fail
        go_roundw
        case rel => exact ⟨k + 1, by go_num, ⟨by omega⟩, HP1⟩
        case measure => simp [intOf]; omega
      · obtain rfl : k = l.length := by omega
        go_wp2_with fail
        refine (manyNil _).mono ?_
        rintro x w4 ⟨rfl, rfl⟩
        go_wp2_with fail
        refine (eventsNil _).mono ?_
        rintro x w5 ⟨A1, c1, rfl, hb⟩
        have HP2 := Aside0.mk (chain HP.out hb HP.out.size)
        clear hb
        go_wp2_with fail
        refine (sumNil _).mono ?_
        rintro x w6 ⟨rfl, rfl⟩
        go_wp2_with fail
        refine (sumRNil _).mono ?_
        rintro x w7 ⟨rfl, hb⟩
        have HP3 := Aside0.mk (chain HP2.out hb HP2.out.size)
        clear hb
        go_wp2_with fail
        refine (newO' _).mono ?_
        rintro x w8 ⟨tb, rfl, HT, HB8⟩
        have HP4 := Aside0.mk (chain HP3.out HB8.out.1 HP3.out.size)
        go_wp2_with fail
        refine (sameNil tb _ _ _ HT.out).mono ?_
        rintro x w9 ⟨rfl, hb⟩
        have HP5 := Aside0.mk (chain HP4.out hb HP4.out.size)
        clear hb
        go_wp2_with fail
        go_ret
        exact ⟨rfl, HP5.out⟩
end Go.Proofs.Ytcjphioimmgbfaa.Tra
