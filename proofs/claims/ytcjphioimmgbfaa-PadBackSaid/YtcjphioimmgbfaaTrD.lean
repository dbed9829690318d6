/- The contract of trace.Same: it says true just if counts, sums and kept events are alike. -/
import Derived.Test.YtcjphioimmgbfaaTrC
namespace Go.Proofs.Ytcjphioimmgbfaa.Tra
open Go.RowKit Go.Proofs.YtcjphioimmgbfaaW.PrintWords Go.Proofs.YtcjphioimmgbfaaW.PrintLast Go.Proofs.YtcjphioimmgbfaaW.PrintMore Go.Proofs.Ytcjphioimmgbfaa.PTraceActs
attribute [local go_sem high] eqA24
set_option linter.unusedVariables false
set_option linter.unusedSimpArgs false

def Alike (la lb : List S24) : Prop := la.length = lb.length ∧ sumE la = sumE lb ∧ la.take 1000 = lb.take 1000
def SamePost (w : World) (la lb : List S24) (x : Ending) (w' : World) : Prop := ∃ r : Bool, x = .returned (.bool r) ∧ (r = true ↔ Alike la lb) ∧ Below w.heap.size w w'

theorem S24.ext_ {a b : S24} (h0 : a.f0 = b.f0) (h1 : a.f1 = b.f1) (h2 : a.f2 = b.f2) : a = b := by
  cases a; cases b; simp_all
theorem ext_take (xs ys : List S24) (h : xs.length = ys.length) (hp : ∀ j : Nat, j < xs.length → rd_T24 xs j = rd_T24 ys j) : xs = ys := by
  apply List.ext_getElem h
  intro i h1 h2
  have := hp i h1
  simpa [rd_T24, List.getD, h1, h2] using this

theorem eventsO' (B : Nat) (t : Option Nat) (v : Value) (l : List S24) (w : World) (h : TrO w B t v l) (hn : t = none → l = []) :
    Calls Try.prog 14 #[ptrV t] w fun x w' => ∃ (xs : List S24) (A1 : Option Addr) (c1 : Nat), x = .returned (.slice A1 xs.length c1) ∧ Aside0 (xs = l.take 1000) ∧ Aside0 (Kd.R k24 24 w' w.heap.size (fun _ => True) (.slice A1 xs.length c1) xs) ∧ Aside0 (Kd.C k24 w' A1 xs.length xs) ∧ Aside0 (Below w.heap.size w w') := by
  refine (eventsO B t v l w h hn).mono ?_
  rintro x w' ⟨A1, c1, rfl, hR, hB⟩
  obtain ⟨A2, c2, he, _, hC⟩ := Kd.R_reads hR
  injection he with he1 he2 he3
  subst he1
  exact ⟨_, A1, c1, rfl, ⟨rfl⟩, ⟨hR⟩, ⟨hC⟩, ⟨hB⟩⟩
abbrev boxAt (xs : List S24) (k : Int) : Obj := .cells #[.int .i64 (rd_T24 xs k).f0, .int .i64 (rd_T24 xs k).f1, .int .i64 (rd_T24 xs k).f2] 24

set_option maxHeartbeats 400000 in
theorem sameO (B1 B2 : Nat) (ta tb : Option Nat) (va vb : Value) (la lb : List S24) (w : World) (ha : TrO w B1 ta va la) (hb : TrO w B2 tb vb lb) (na : ta = none → la = []) (nb : tb = none → lb = []) :
    Calls Try.prog 22 #[ptrV ta, ptrV tb] w (SamePost w la lb) := by
  have HA := Aside0.mk ha
  have HB := Aside0.mk hb
  have NA := Aside0.mk na
  have NB := Aside0.mk nb
  have hu22 := Try.underlying22
  have hu24 := Try.underlying24
  clear ha hb na nb
  by_cases h1 : (la.length : Int) = (lb.length : Int)
  · by_cases h2 : sumE la = sumE lb
    · have h1' : ((la.length : Int) != (lb.length : Int)) = false := by simpa using h1
      have h2' : (sumE la != sumE lb) = false := by simpa using h2
      have H1 := Aside0.mk h1
      have H2 := Aside0.mk h2
      clear h1 h2
      go_enter Try.func22, Try.ntmps22
      go_wp2_with fail
      refine (manyO B1 ta va la _ HA.out NA.out).mono ?_
      rintro e w' ⟨rfl, rfl⟩
      go_wp2_with fail
      refine (manyO B2 tb vb lb _ HB.out NB.out).mono ?_
      rintro e w' ⟨rfl, rfl⟩
      go_wp2_with fail
      refine (sumO B1 ta va la _ HA.out NA.out).mono ?_
      rintro e w' ⟨rfl, rfl⟩
      go_wp2_with fail
      refine (sumO B2 tb vb lb _ HB.out NB.out).mono ?_
      rintro e w' ⟨rfl, rfl⟩
      go_wp2_with fail
      refine (eventsO' B1 ta va la _ HA.out NA.out).mono ?_
      rintro e w1 ⟨xs, A1, c1, rfl, HX, HR1, HC1, HB1⟩
      go_wp2_with fail
      refine (eventsO' B2 tb vb lb _ (HB.out.below HB1.out) NB.out).mono ?_
      rintro e w2 ⟨ys, A2, c2, rfl, HY, HR2, HC2, HB2⟩
      have HL := Aside0.mk (show xs.length = ys.length by rw [HX.out, HY.out, List.length_take, List.length_take]; have := H1.out; omega)
      have HC1' := Aside0.mk (Kd.C_below HC1.out HB2.out)
      clear HR1 HR2 HC1 HA HB NA NB
      go_wp2_with fail
      go_loopw [27] (fun v27 wr => ∃ k : Nat, v27 = .int .i64 k ∧ Aside0 (k ≤ xs.length ∧ ∀ j : Nat, j < k → rd_T24 xs j = rd_T24 ys j) ∧ Aside0 (Below w2.heap.size w2 wr)) (fun v27 _ => xs.length - (intOf v27).toNat)
      case atStart => exact ⟨0, rfl, ⟨Nat.zero_le _, fun j hj => absurd hj (by omega)⟩, ⟨Below.refl _ _⟩⟩
      case round =>
        obtain ⟨k, rfl, HK, HW⟩ := hrel
        have hk := HK.out.1
        have hxl : xs.length ≤ 1000 := by rw [HX.out, List.length_take]; omega
        by_cases hlt : k < xs.length
        · have hly : (k : Int) < ys.length := by have := HL.out; omega
          obtain ⟨ad1, e1, a0, a1, a2⟩ := at_T24 (Kd.C_below HC1'.out HW.out) (k : Int) (by omega) (by omega)
          obtain ⟨ad2, e2, d0, d1, d2⟩ := at_T24 (Kd.C_below HC2.out (below_alloc HW.out (boxAt xs k))) (k : Int) (by omega) hly
          subst e1
          subst e2
          simp only [Int.toNat_natCast] at a0 a1 a2 d0 d1 d2
          by_cases hq : rd_T24 xs k = rd_T24 ys k
          · have HQ := Aside0.mk hq
            have hd : (!((rd_T24 xs k).f0 == (rd_T24 ys k).f0 && ((rd_T24 xs k).f1 == (rd_T24 ys k).f1 && (rd_T24 xs k).f2 == (rd_T24 ys k).f2))) = false := by rw [hq]; simp
            clear hq
            go_wp2
            go_quiet (fail)
            go_wp2
            go_roundw
            case rel =>
              exact ⟨k + 1, by go_num, ⟨by omega, fun j hj => by
                by_cases hjk : j < k
                · exact HK.out.2 j hjk
                · obtain rfl : j = k := by omega
                  exact HQ.out⟩, ⟨by repeat (first | exact below_alloc HW.out _ | apply pw_below_drewN | apply below_drew)⟩⟩
            case measure => simp [intOf]; omega
          · have HQ := Aside0.mk hq
            have hd : (!((rd_T24 xs k).f0 == (rd_T24 ys k).f0 && ((rd_T24 xs k).f1 == (rd_T24 ys k).f1 && (rd_T24 xs k).f2 == (rd_T24 ys k).f2))) = true := by
              cases hh : ((rd_T24 xs k).f0 == (rd_T24 ys k).f0 && ((rd_T24 xs k).f1 == (rd_T24 ys k).f1 && (rd_T24 xs k).f2 == (rd_T24 ys k).f2)) with
              | false => rfl
              | true =>
                simp only [Bool.and_eq_true, beq_iff_eq] at hh
                exact absurd (S24.ext_ hh.1 hh.2.1 hh.2.2) hq
            clear hq
            go_wp2
            go_quiet (fail)
            go_wp2
            go_ret
            refine ⟨false, rfl, ⟨(fun h => by cases h), fun h => ?_⟩, ?_⟩
            · exfalso
              apply HQ.out
              rw [HX.out, HY.out, h.2.2]
            · exact HB1.out.trans ((HB2.out.mono HB1.out.size).trans (Below.mono (B := w2.heap.size) (by repeat (first | exact below_alloc HW.out _ | apply pw_below_drewN | apply below_drew)) (Nat.le_trans HB1.out.size HB2.out.size)))
        · obtain rfl : k = xs.length := by omega
          go_wp2
          go_ret
          refine ⟨true, rfl, ⟨fun _ => ?_, fun _ => rfl⟩, ?_⟩
          · refine ⟨by have := H1.out; omega, H2.out, ?_⟩
            rw [← HX.out, ← HY.out]
            exact ext_take _ _ HL.out HK.out.2
          · exact HB1.out.trans (HB2.out.mono HB1.out.size |>.trans (HW.out.mono (Nat.le_trans HB1.out.size HB2.out.size)))
    · have h1' : ((la.length : Int) != (lb.length : Int)) = false := by simpa using h1
      have h2' : (sumE la != sumE lb) = true := by simpa using h2
      have H2 := Aside0.mk h2
      clear h1 h2
      go_enter Try.func22, Try.ntmps22
      go_wp2_with fail
      refine (manyO B1 ta va la _ HA.out NA.out).mono ?_
      rintro e w' ⟨rfl, rfl⟩
      go_wp2_with fail
      refine (manyO B2 tb vb lb _ HB.out NB.out).mono ?_
      rintro e w' ⟨rfl, rfl⟩
      go_wp2_with fail
      refine (sumO B1 ta va la _ HA.out NA.out).mono ?_
      rintro e w' ⟨rfl, rfl⟩
      go_wp2_with fail
      refine (sumO B2 tb vb lb _ HB.out NB.out).mono ?_
      rintro e w' ⟨rfl, rfl⟩
      go_wp2_with fail
      go_ret
      exact ⟨false, rfl, ⟨(fun h => by cases h), fun h => absurd h.2.1 H2.out⟩, Below.refl _ _⟩
  · have h1' : ((la.length : Int) != (lb.length : Int)) = true := by simpa using h1
    have H1 := Aside0.mk h1
    clear h1
    go_enter Try.func22, Try.ntmps22
    go_wp2_with fail
    refine (manyO B1 ta va la _ HA.out NA.out).mono ?_
    rintro e w' ⟨rfl, rfl⟩
    go_wp2_with fail
    refine (manyO B2 tb vb lb _ HB.out NB.out).mono ?_
    rintro e w' ⟨rfl, rfl⟩
    go_wp2_with fail
    go_ret
    exact ⟨false, rfl, ⟨(fun h => by cases h), fun h => absurd (by rw [h.1]) H1.out⟩, Below.refl _ _⟩
end Go.Proofs.Ytcjphioimmgbfaa.Tra
