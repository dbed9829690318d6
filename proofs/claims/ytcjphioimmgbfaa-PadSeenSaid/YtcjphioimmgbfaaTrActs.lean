/- The walk of the law TraceActs: events, how many, their sum, whatever is written down: true for every input. -/
import Derived.Test.YtcjphioimmgbfaaTrG
namespace Go.Proofs.Ytcjphioimmgbfaa.Tra
open Go.RowKit Go.Proofs.YtcjphioimmgbfaaW.PrintWords Go.Proofs.YtcjphioimmgbfaaW.PrintLast Go.Proofs.YtcjphioimmgbfaaW.PrintMore Go.Proofs.Ytcjphioimmgbfaa.PTraceActs
attribute [local go_sem high] eqA24
set_option linter.unusedVariables false
set_option linter.unusedSimpArgs false

/-- The trace and the law's own list 'all', side by side. -/
def St (w wr : World) (B tb : Nat) (u : Value) (L : List S24) : Prop := ∃ v, TrO wr B (some tb) v L ∧ Kd.R k24 24 wr B (Off tb v) u L ∧ Below B w wr
section
variable {w wr w1 w2 : World} {B tb : Nat} {u v : Value} {L L' : List S24} {e : S24}
/-- A block of what is new: boxes, draws. -/
theorem Mid_below (hT : TrO wr B (some tb) v L') (hR : Kd.R k24 24 wr B (Off tb v) u L) (hb : Below wr.heap.size wr w1) : TrO w1 B (some tb) v L' ∧ Kd.R k24 24 w1 B (Off tb v) u L := ⟨hT.below hb, Kd.R_below hR hb⟩
/-- A call that writes to the trace, the list beside it untouched. -/
theorem Mid_put (hT : TrO wr B (some tb) v L) (hR : Kd.R k24 24 wr B (Off tb v) u L) (hp : PutO wr w1 B (some tb) v L') : ∃ v', TrO w1 B (some tb) v' L' ∧ Kd.R k24 24 w1 B (Off tb v') u L := by
  obtain ⟨v', h1, h2, h3⟩ := hp
  exact ⟨v', h1, R_put hR h2 h3⟩
theorem Mid_append {u1 : Value} (hT : TrO wr B (some tb) v L') (hR : Kd.R k24 24 wr B (Off tb v) u L) (hR1 : Kd.R k24 24 w1 B (Off tb v) u1 L') (hg : wr.grownBy w1 u.ownBlock) (hb : Below B w wr) (hb1 : Below B wr w1) : St w w1 B tb u1 L' :=
  ⟨v, Tr_grown hT hg (fun k hk => hR.1 k hk), hR1, hb.trans hb1⟩
end
theorem span_snoc (L : List S24) (k : Nat) : L ++ (List.range (k + 1)).map (fun i : Nat => (⟨1, (i : Int), 0⟩ : S24)) = (L ++ (List.range k).map (fun i : Nat => (⟨1, (i : Int), 0⟩ : S24))) ++ [⟨1, (k : Int), 0⟩] := by
  rw [List.range_succ, List.map_append, List.append_assoc]
  rfl

set_option maxHeartbeats 1000000 in
set_option maxRecDepth 100000 in
theorem actsWalk (A : Option Addr) (c : Nat) (l : List S24) (often : Int) (w : World) (hr : Kd.C k24 w A l.length l) (hc : l.length ≤ c) :
    Calls Try.prog 4 #[.slice A l.length c, .int .i64 often] w fun x w' => x = .returned (.bool true) ∧ Below w.heap.size w w' := by
  have hu24 := Try.underlying24
  have hu22 := Try.underlying22
  have HR := Aside0.mk hr
  clear hr hc
  by_cases hbig : 200 < l.length ∨ often < 0 ∨ 3000 < often
  · have early : ∀ w1, Below w.heap.size w w1 → True := fun _ _ => trivial
    clear early
    by_cases g1 : 200 < l.length
    · have g1' : decide ((200 : Int) < (l.length : Int)) = true := by simp; omega
      go_enter Try.func4, Try.ntmps4
      go_wp2_with fail
      refine (awakeT _).mono ?_
      rintro x w1 ⟨rfl, hb1⟩
      have HB1 := Aside0.mk hb1
      clear hb1
      go_wp2_with fail
      go_ret
      exact ⟨rfl, HB1.out⟩
    · have g1' : decide ((200 : Int) < (l.length : Int)) = false := by simp; omega
      by_cases g2 : often < 0
      · have g2' : decide (often < 0) = true := by simp; omega
        go_enter Try.func4, Try.ntmps4
        go_wp2_with fail
        refine (awakeT _).mono ?_
        rintro x w1 ⟨rfl, hb1⟩
        have HB1 := Aside0.mk hb1
        clear hb1
        go_wp2_with fail
        go_ret
        exact ⟨rfl, HB1.out⟩
      · have g2' : decide (often < 0) = false := by simp; omega
        have g3' : decide (3000 < often) = true := by simp; omega
        go_enter Try.func4, Try.ntmps4
        go_wp2_with fail
        refine (awakeT _).mono ?_
        rintro x w1 ⟨rfl, hb1⟩
        have HB1 := Aside0.mk hb1
        clear hb1
        go_wp2_with fail
        go_ret
        exact ⟨rfl, HB1.out⟩
  · have g1' : decide ((200 : Int) < (l.length : Int)) = false := by simp; omega
    have g2' : decide (often < 0) = false := by simp; omega
    have g3' : decide (3000 < often) = false := by simp; omega
    obtain ⟨n, rfl⟩ : ∃ n : Nat, often = (n : Int) := ⟨often.toNat, by omega⟩
    have hn : n ≤ 3000 := by omega
    have hl : l.length ≤ 200 := by omega
    clear hbig
    go_enter Try.func4, Try.ntmps4
    go_wp2_with fail
    refine (awakeT _).mono ?_
    rintro x w1 ⟨rfl, hb1⟩
    have HB1 := Aside0.mk hb1
    clear hb1
    go_wp2_with fail
    refine (newO' w1).mono ?_
    rintro x w2 ⟨tb, rfl, HT, HB2⟩
    go_wp2_with fail
    have HS := Aside0.mk (show w.heap.size ≤ w1.heap.size from HB1.out.size)
    go_loopw [28, 6] (fun v28 v6 wr => ∃ k : Nat, v28 = .int .i64 k ∧ Aside0 (k ≤ l.length) ∧ Aside0 (St w2 wr w1.heap.size tb v6 ((l.take k).map cleanE))) (fun v28 _ _ => l.length - (intOf v28).toNat)
    case atStart => exact ⟨0, rfl, ⟨Nat.zero_le _⟩, ⟨⟨_, HT.out, Kd.R_nil _ _ _ _ _, Below.refl _ _⟩⟩⟩
    case round =>
      obtain ⟨k, rfl, HK, HP⟩ := hrel
      have hk := HK.out
      have HBr := Aside0.mk (show Below w.heap.size w wr from by
        obtain ⟨_, _, _, hb⟩ := HP.out
        exact chain (chain HB1.out HB2.out.1 HS.out) hb HS.out)
      by_cases hlt : k < l.length
      · obtain ⟨ad1, e1, a0, a1, a2⟩ := at_T24 (Kd.C_below HR.out HBr.out) (k : Int) (by omega) (by omega)
        subst e1
        simp only [Int.toNat_natCast] at a0 a1 a2
        obtain ⟨v1, h1, h2, h3⟩ := HP.out
        have hbx := below_alloc (Below.refl wr.heap.size wr) (boxE (rd_T24 l k))
        obtain ⟨h1', h2'⟩ := Mid_below h1 h2 hbx
        have HT1 := Aside0.mk h1'
        have HT0 := Aside0.mk h1
        have HR1 := Aside0.mk h2'
        have HB3 := Aside0.mk (show Below w1.heap.size w2 (wr.alloc (boxE (rd_T24 l k))) from h3.alloc (Nat.le_trans HB2.out.1.size h3.size) _)
        have HLk := Aside0.mk (show ((l.take k).map cleanE).length ≤ 200 by rw [List.length_map, List.length_take]; omega)
        clear h1 h2 h3 h1' h2' hbx
        go_wp2_with fail
        refine (putL w1.heap.size (some tb) v1 _ (rd_T24 l k) _ HT1.out (by have := HLk.out; omega)).mono ?_
        rintro x w3 ⟨rfl, hp⟩
        obtain ⟨v3, h1, h2⟩ := Mid_put HT1.out HR1.out hp
        have HT3 := Aside0.mk h1
        have HR3 := Aside0.mk h2
        have HB4 := Aside0.mk (show Below w1.heap.size w2 w3 from HB3.out.trans (hp.below_ HT1.out (Nat.le_trans HB2.out.1.size HB3.out.size)))
        have b0 : w3.cell? ⟨wr.heap.size, 0, none⟩ = some (.int .i64 (rd_T24 l k).f0) := box_kept HT0.out (by simp) hp 0 _ (by simp)
        have b1 : w3.cell? ⟨wr.heap.size, 1, none⟩ = some (.int .i64 (rd_T24 l k).f1) := box_kept HT0.out (by simp) hp 1 _ (by simp)
        have b2 : w3.cell? ⟨wr.heap.size, 2, none⟩ = some (.int .i64 (rd_T24 l k).f2) := box_kept HT0.out (by simp) hp 2 _ (by simp)
        clear h1 h2 hp
        go_wp2_with fail
        refine (cleanL (rd_T24 l k) _).mono ?_
        rintro x w4 ⟨rfl, hb4⟩
        obtain ⟨h1, h2⟩ := Mid_below HT3.out HR3.out hb4
        have HT4 := Aside0.mk h1
        have HR4 := Aside0.mk h2
        have HB5 := Aside0.mk (show Below w1.heap.size w2 w4 from chain HB4.out hb4 (Nat.le_trans HB2.out.1.size HB4.out.size))
        have HN4 := Aside0.mk (fun k hk => off_new h1 k hk)
        clear h1 h2 hb4
        go_wp2_with (at_builtin; refine Kd.R_append k24 (w0 := w4) (W := w4) w1.heap.size rfl (.tmp 36) (.tmp 39) 22 24 _ 24 rfl Try.underlying22 info24 rfl (by decide) (by decide) u6 ((l.take k).map cleanE) (cleanE (rd_T24 l k)) [.int .i64 (cleanE (rd_T24 l k)).f0, .int .i64 (cleanE (rd_T24 l k)).f1, .int .i64 (cleanE (rd_T24 l k)).f2] (Off tb v3) (fun _ => False) rfl rfl (k24_mkM _ _ _ _) (fun _ h => h.elim) HN4.out HR4.out (Below.refl _ _) (Nat.le_trans HB2.out.1.size HB5.out.size) (by have := HLk.out; omega) ?_; intro u1 w5 hR5 hB5 hg5 hat5; have HP5 := Aside0.mk (Mid_append HT4.out HR4.out hR5 hg5 HB5.out hB5); clear hR5 hB5 hg5 hat5)
        go_roundw
        case rel => exact ⟨k + 1, by go_num, ⟨by omega⟩, ⟨by rw [take_map_snoc l k hlt]; exact HP5.out⟩⟩
        case measure => simp [intOf]; omega
      · obtain rfl : k = l.length := by omega
        have HP1 := Aside0.mk (show St w2 wr w1.heap.size tb u6 (l.map cleanE) by have := HP.out; rwa [List.take_length] at this)
        have HL0 := Aside0.mk (show (l.map cleanE).length ≤ 200 by rw [List.length_map]; omega)
        clear HP HBr HK hk hlt
        generalize l.map cleanE = L0 at *
        obtain ⟨wo, rfl⟩ : ∃ wo : World, wo = wr := ⟨_, rfl⟩
        go_wp2_with fail
        go_loopw [9, 6] (fun v9 v6 wr => ∃ k : Nat, v9 = .int .i64 k ∧ Aside0 (k ≤ n) ∧ Aside0 (St w2 wr w1.heap.size tb v6 (L0 ++ (List.range k).map (fun i : Nat => (⟨1, (i : Int), 0⟩ : S24))))) (fun v9 _ _ => n - (intOf v9).toNat)
        case atStart => exact ⟨0, rfl, ⟨Nat.zero_le _⟩, ⟨by simpa using HP1.out⟩⟩
        case round =>
          clear HP1
          obtain ⟨k, rfl, HK, HP⟩ := hrel
          have hk := HK.out
          by_cases hlt : k < n
          · obtain ⟨v1, h1, h2, h3⟩ := HP.out
            have HT1 := Aside0.mk h1
            have HR1 := Aside0.mk h2
            have HB3 := Aside0.mk h3
            have HLk := Aside0.mk (show (L0 ++ (List.range k).map (fun i : Nat => (⟨1, (i : Int), 0⟩ : S24))).length ≤ 3200 by rw [List.length_append, List.length_map, List.length_range]; have := HL0.out; omega)
            clear h1 h2 h3
            go_wp2_with fail
            refine (spanO w1.heap.size (some tb) v1 _ (k : Int) _ HT1.out (by have := HLk.out; omega)).mono ?_
            rintro x w3 ⟨rfl, hp⟩
            obtain ⟨v3, h1, h2⟩ := Mid_put HT1.out HR1.out hp
            have HT3 := Aside0.mk h1
            have HR3 := Aside0.mk h2
            have HB4 := Aside0.mk (show Below w1.heap.size w2 w3 from HB3.out.trans (hp.below_ HT1.out (Nat.le_trans HB2.out.1.size HB3.out.size)))
            have HN4 := Aside0.mk (fun k hk => off_new h1 k hk)
            clear h1 h2 hp
            go_wp2_with (at_builtin; refine Kd.R_append k24 (w0 := w3) (W := w3) w1.heap.size rfl (.tmp 50) (.tmp 53) 22 24 _ 24 rfl Try.underlying22 info24 rfl (by decide) (by decide) _ (L0 ++ (List.range k).map (fun i : Nat => (⟨1, (i : Int), 0⟩ : S24))) ⟨1, (k : Int), 0⟩ [.int .i64 1, .int .i64 (k : Int), .int .i64 0] (Off tb v3) (fun _ => False) rfl rfl (k24_mkM _ _ _ ⟨1, (k : Int), 0⟩) (fun _ h => h.elim) HN4.out HR3.out (Below.refl _ _) (Nat.le_trans HB2.out.1.size HB4.out.size) (by have := HLk.out; omega) ?_; intro u1 w5 hR5 hB5 hg5 hat5; have HP5 := Aside0.mk (Mid_append HT3.out HR3.out hR5 hg5 HB4.out hB5); clear hR5 hB5 hg5 hat5)
            go_roundw
            case rel => exact ⟨k + 1, by go_num, ⟨by omega⟩, ⟨by rw [span_snoc]; exact HP5.out⟩⟩
            case measure => simp [intOf]; omega
          · obtain rfl : k = n := by omega
            have HLk := Aside0.mk (show (L0 ++ (List.range k).map (fun i : Nat => (⟨1, (i : Int), 0⟩ : S24))).length ≤ 3200 by rw [List.length_append, List.length_map, List.length_range]; have := HL0.out; omega)
            generalize L0 ++ (List.range k).map (fun i : Nat => (⟨1, (i : Int), 0⟩ : S24)) = L at *
            obtain ⟨v1, h1, h2, h3⟩ := HP.out
            obtain ⟨Au, cu, hu⟩ := Kd.R_slice h2
            subst hu
            obtain ⟨_, hcu, hC⟩ := C_of_R h2
            have HT1 := Aside0.mk h1
            have HCu := Aside0.mk hC
            have HB3 := Aside0.mk h3
            have HU := Aside0.mk hcu
            clear h1 h2 h3 hC hcu HP
            go_wp2_with fail
            refine (eventsS w1.heap.size tb v1 L wr HT1.out).mono ?_
            rintro x w6 ⟨xs, A1, c1, rfl, HX, HR6, HC6, HB6⟩
            have HCu6 := Aside0.mk (Kd.C_below HCu.out HB6.out)
            have HT6 := Aside0.mk (HT1.out.below HB6.out)
            have HB7 := Aside0.mk (chain HB3.out HB6.out (Nat.le_trans HB2.out.1.size HB3.out.size))
            clear HB3 HCu HT1
            go_wp2_with fail
            refine (firstL' Au cu L w6 HU.out (by have := HLk.out; omega)).mono ?_
            rintro x w7 ⟨ys, rfl, HY, rfl⟩
            have HC7 := Aside0.mk (show Kd.C k24 w6 Au ys.length ys by rw [HY.out]; exact C_take' HCu6.out 1000)
            go_wp2_with fail
            refine (sameTrue A1 c1 xs Au cu ys w6 HC6.out (C_of_R HR6.out).2.1 HC7.out (by have := HU.out; rw [HY.out, List.length_take]; omega) (by rw [HX.out, List.length_take]; omega) (HX.out.trans HY.out.symm)).mono ?_
            rintro x w8 ⟨rfl, hd⟩
            have HB8 := Aside0.mk (chain HB7.out hd.below (Nat.le_trans HB2.out.1.size HB7.out.size))
            have HT8 := Aside0.mk (HT6.out.below hd.below)
            have HC8 := Aside0.mk (Kd.C_below HCu6.out hd.below)
            clear hd HC7 HC6 HR6 HB7 HB6
            go_wp2_with fail
            refine (manyS w1.heap.size tb v1 L _ HT8.out).mono ?_
            rintro x w9 ⟨rfl, rfl⟩
            go_wp2_with fail
            refine (sumS w1.heap.size tb v1 L _ HT8.out).mono ?_
            rintro x w9 ⟨rfl, rfl⟩
            go_wp2_with fail
            refine (sumR Au cu L _ HC8.out HU.out (by have := HLk.out; omega)).mono ?_
            rintro x w9 ⟨rfl, hb9⟩
            have HB9 := Aside0.mk (chain HB8.out hb9 (Nat.le_trans HB2.out.1.size HB8.out.size))
            clear hb9
            go_wp2_with fail
            go_ret
            exact ⟨rfl, chain (chain HB1.out HB2.out.1 HS.out) HB9.out HS.out⟩
end Go.Proofs.Ytcjphioimmgbfaa.Tra
