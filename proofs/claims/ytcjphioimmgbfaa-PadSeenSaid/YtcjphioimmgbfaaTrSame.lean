/- The walk of the law TraceSame: two traces are alike just if the same was written down: true for every input. -/
import Derived.Test.YtcjphioimmgbfaaTrActs
namespace Go.Proofs.Ytcjphioimmgbfaa.Tra
open Go.RowKit Go.Proofs.YtcjphioimmgbfaaW.PrintWords Go.Proofs.YtcjphioimmgbfaaW.PrintLast Go.Proofs.YtcjphioimmgbfaaW.PrintMore Go.Proofs.Ytcjphioimmgbfaa.PTraceActs
attribute [local go_sem high] eqA24
set_option linter.unusedVariables false
set_option linter.unusedSimpArgs false

/-- A trace and a list beside it, both written from wo on: only the trace's block and what is new have turned. -/
def St2 (wo wr : World) (B tb : Nat) (u : Value) (L : List S24) : Prop :=
  ∃ v, TrO wr B (some tb) v L ∧ Kd.R k24 24 wr wo.heap.size (Off tb v) u L ∧ OnlyT wo wr (some tb) none ∧ AtOr wo (.slice none 0 0) v
section
variable {wo wr w1 w2 : World} {B tb : Nat} {u v : Value} {L L' : List S24} {e : S24}
theorem OnlyT.trans' (h : OnlyT wo wr (some tb) none) (ha : AtOr wo (.slice none 0 0) v) (k : OnlyT wr w1 (some tb) v.ownBlock) : OnlyT wo w1 (some tb) none :=
  OnlyT.trans (v := .slice none 0 0) h ha k
theorem OnlyT.below_then (h : OnlyT wo wr (some tb) none) (k : Below wr.heap.size wr w1) : OnlyT wo w1 (some tb) none :=
  ⟨k.os.trans h.os, k.tape.trans h.tape, k.output.trans h.output, Nat.le_trans h.size k.size, fun i hi h1 h2 => (k.block i (by have := h.size; omega)).trans (h.block i hi h1 h2)⟩
theorem St2_append {u1 : Value} (hT : TrO wr B (some tb) v L') (hR : Kd.R k24 24 wr wo.heap.size (Off tb v) u L) (hR1 : Kd.R k24 24 w1 wo.heap.size (Off tb v) u1 L') (hg : wr.grownBy w1 u.ownBlock) (hO : OnlyT wo wr (some tb) none) (hA : AtOr wo (.slice none 0 0) v) : St2 wo w1 B tb u1 L' := by
  refine ⟨v, Tr_grown hT hg (fun k hk => hR.1 k hk), hR1, ?_, hA⟩
  refine ⟨hg.os.trans hO.os, hg.tape.trans hO.tape, hg.output.trans hO.output, Nat.le_trans hO.size hg.size, fun i hi h1 h2 => (hg.block i (by have := hO.size; omega) ?_).trans (hO.block i hi h1 h2)⟩
  intro he
  obtain ⟨inner, hown⟩ := Kd.R_own hR
  have := own_base hown i he.symm
  omega
theorem Mid_below2 {B2 : Nat} (hT : TrO wr B (some tb) v L') (hR : Kd.R k24 24 wr B2 (Off tb v) u L) (hb : Below wr.heap.size wr w1) : TrO w1 B (some tb) v L' ∧ Kd.R k24 24 w1 B2 (Off tb v) u L := ⟨hT.below hb, Kd.R_below hR hb⟩
theorem R_put2 {B2 : Nat} {v1 : Value} {xs : List S24} (h : Kd.R k24 24 wr B2 (Off tb v) u xs) (hO : OnlyT wr w1 (some tb) v.ownBlock) (hA : AtOr wr v v1) : Kd.R k24 24 w1 B2 (Off tb v1) u xs := by
  refine Kd.R_mono (Kd.R_step (Kd.R_bound h) ?_) ?_
  · rintro k ⟨⟨h1, h2⟩, _, hlt, _⟩ _
    exact hO.block k hlt (fun e => h1 (by injection e)) h2
  · rintro k ⟨⟨h1, h2⟩, _, hlt, _⟩
    refine ⟨h1, ?_⟩
    rcases hA with e | ⟨b, e, hb⟩
    · rw [e]; exact h2
    · rw [e]; intro he; injection he with he; omega
/-- A call that writes to the trace, the list beside it untouched. -/
theorem St2_put (hR : Kd.R k24 24 wr wo.heap.size (Off tb v) u L) (hO : OnlyT wo wr (some tb) none) (hA : AtOr wo (.slice none 0 0) v) (hp : PutO wr w1 B (some tb) v L') :
    ∃ v', TrO w1 B (some tb) v' L' ∧ Kd.R k24 24 w1 wo.heap.size (Off tb v') u L ∧ OnlyT wo w1 (some tb) none ∧ AtOr wo (.slice none 0 0) v' := by
  obtain ⟨v', h1, h2, h3⟩ := hp
  exact ⟨v', h1, R_put2 hR h2 h3, hO.trans' hA h2, hA.trans hO.size h3⟩
/-- What was there of another trace and its list stays. -/
theorem other_trace {tb' : Nat} {v' : Value} {L0 : List S24} (hT : TrO wo B (some tb') v' L0) (hO : OnlyT wo wr (some tb) none) (hne : tb' ≠ tb) (hblk : ∃ cs, wo.heap[tb]? = some (.cells cs 63 (0, 0))) : TrO wr B (some tb') v' L0 := by
  refine hT.other (v' := v') hO ?_ ?_
  · rintro k he
    injection he with he
    subst he
    exact ⟨fun e => hne (by injection e with e; exact e.symm), by simp⟩
  · intro k hk
    obtain ⟨cs, hcs⟩ := hblk
    refine ⟨fun e => ?_, by simp⟩
    injection e with e
    subst e
    exact Kd.R_ne hT.2.2 hcs (by decide) hk.symm
theorem other_row {base : Nat} {ok : Nat → Prop} {L0 : List S24} (hR : Kd.R k24 24 wo base ok u L0) (hO : OnlyT wo wr (some tb) none) (hblk : ∃ cs, wo.heap[tb]? = some (.cells cs 63 (0, 0))) : Kd.R k24 24 wr base (fun _ => True) u L0 := by
  obtain ⟨cs, hcs⟩ := hblk
  have hR' : Kd.R k24 24 wo base (fun k => ok k ∧ k ≠ tb) u L0 := Kd.R_types hR hcs (by intro q hq; simp [k24, Kd.iso, Kd.pair, Kd.int, Kd.scalar] at hq; omega)
  exact Kd.R_mono (Kd.R_step hR' (fun k hk hlt => hO.block k hlt (fun e => hk.2 (by injection e)) (by simp))) (fun _ _ => trivial)
theorem St2.below {B' : Nat} (h : St2 wo wr B tb u L) (hB : B' ≤ tb) (hs : B' ≤ wo.heap.size) : Below B' wo wr := by
  obtain ⟨_, _, _, hO, _⟩ := h
  exact ⟨hO.os, hO.tape, hO.output, hO.size, fun k hk => hO.block k (by omega) (fun e => by injection e with e; omega) (by simp)⟩
end
theorem alike_iff (a b : List S24) (ha : a.length ≤ 200) (hb : b.length ≤ 200) : Alike a b ↔ a = b := by
  refine ⟨fun h => ?_, fun h => by subst h; exact ⟨rfl, rfl, rfl⟩⟩
  have := h.2.2
  rwa [List.take_of_length_le (by omega), List.take_of_length_le (by omega)] at this

set_option maxHeartbeats 2000000 in
set_option maxRecDepth 100000 in
theorem sameWalk (A : Option Addr) (c : Nat) (l : List S24) (A' : Option Addr) (c' : Nat) (l' : List S24) (w : World) (hr : Kd.C k24 w A l.length l) (hc : l.length ≤ c) (hr' : Kd.C k24 w A' l'.length l') (hc' : l'.length ≤ c') :
    Calls Try.prog 5 #[.slice A l.length c, .slice A' l'.length c'] w fun x w' => x = .returned (.bool true) ∧ Below w.heap.size w w' := by
  have hu24 := Try.underlying24
  have hu22 := Try.underlying22
  have HR := Aside0.mk hr
  have HR' := Aside0.mk hr'
  clear hr hc hr' hc'
  by_cases g1 : 200 < l.length
  · have g1' : decide ((200 : Int) < (l.length : Int)) = true := by simp; omega
    go_enter Try.func5, Try.ntmps5
    go_wp2_with fail
    refine (awakeT _).mono ?_
    rintro x w1 ⟨rfl, hb1⟩
    have HB1 := Aside0.mk hb1
    clear hb1
    go_wp2_with fail
    go_ret
    exact ⟨rfl, HB1.out⟩
  · have g1' : decide ((200 : Int) < (l.length : Int)) = false := by simp; omega
    by_cases g2 : 200 < l'.length
    · have g2' : decide ((200 : Int) < (l'.length : Int)) = true := by simp; omega
      go_enter Try.func5, Try.ntmps5
      go_wp2_with fail
      refine (awakeT _).mono ?_
      rintro x w1 ⟨rfl, hb1⟩
      have HB1 := Aside0.mk hb1
      clear hb1
      go_wp2_with fail
      go_ret
      exact ⟨rfl, HB1.out⟩
    · have g2' : decide ((200 : Int) < (l'.length : Int)) = false := by simp; omega
      have hl : l.length ≤ 200 := by omega
      have hl' : l'.length ≤ 200 := by omega
      clear g1 g2
      go_enter Try.func5, Try.ntmps5
      go_wp2_with fail
      refine (awakeT _).mono ?_
      rintro x w1 ⟨rfl, hb1⟩
      have HB1 := Aside0.mk hb1
      clear hb1
      go_wp2_with fail
      refine (newO' w1).mono ?_
      rintro x w2 ⟨tb, rfl, HT, HB2⟩
      go_wp2_with fail
      refine (newO' w2).mono ?_
      rintro x w3 ⟨tb', rfl, HT', HB3⟩
      have HTs := Aside0.mk (HT.out.below HB3.out.1)
      have HTt := Aside0.mk (show TrO w3 w1.heap.size (some tb') (.slice none 0 0) [] from ⟨by have := HT'.out.1; have := HB2.out.1.size; omega, HT'.out.2.1, Kd.R_nil _ _ _ _ _⟩)
      have hne : tb' ≠ tb := by have := blk_lt HT.out.2.1; have := HB3.out.2; omega
      have HBB := Aside0.mk (show Below w.heap.size w w3 from chain (chain HB1.out HB2.out.1 HB1.out.size) HB3.out.1 (Nat.le_trans HB1.out.size HB2.out.1.size))
      have HS := Aside0.mk (show w.heap.size ≤ w1.heap.size ∧ w1.heap.size ≤ w3.heap.size ∧ w1.heap.size ≤ tb ∧ w1.heap.size ≤ tb' from ⟨HB1.out.size, Nat.le_trans HB2.out.1.size HB3.out.1.size, HB2.out.2, Nat.le_trans HB2.out.1.size HB3.out.2⟩)
      clear HT HT' HB2 HB3
      go_wp2_with fail
      go_loopw [33, 7] (fun v33 v7 wr => ∃ k : Nat, v33 = .int .i64 k ∧ Aside0 (k ≤ l.length) ∧ Aside0 (St2 w3 wr w1.heap.size tb v7 ((l.take k).map cleanE))) (fun v33 _ _ => l.length - (intOf v33).toNat)
      case atStart => exact ⟨0, rfl, ⟨Nat.zero_le _⟩, ⟨⟨_, HTs.out, Kd.R_nil _ _ _ _ _, OnlyT.refl _ _ _, AtOr.refl _ _⟩⟩⟩
      case round =>
        obtain ⟨k, rfl, HK, HP⟩ := hrel
        have hk := HK.out
        have HBr := Aside0.mk (show Below w.heap.size w wr from HBB.out.trans (HP.out.below (by have := HS.out; omega) (by have := HS.out; omega)))
        by_cases hlt : k < l.length
        · obtain ⟨ad1, e1, a0, a1, a2⟩ := at_T24 (Kd.C_below HR.out HBr.out) (k : Int) (by omega) (by omega)
          subst e1
          simp only [Int.toNat_natCast] at a0 a1 a2
          obtain ⟨v1, h1, h2, h3, h4⟩ := HP.out
          have hbx := below_alloc (Below.refl wr.heap.size wr) (boxE (rd_T24 l k))
          obtain ⟨h1', h2'⟩ := Mid_below2 h1 h2 hbx
          have HT1 := Aside0.mk h1'
          have HT0 := Aside0.mk h1
          have HR1 := Aside0.mk h2'
          have HO1 := Aside0.mk (h3.below_then hbx)
          have HA1 := Aside0.mk h4
          have HLk := Aside0.mk (show ((l.take k).map cleanE).length ≤ 200 by rw [List.length_map, List.length_take]; omega)
          clear h1 h2 h3 h4 h1' h2' hbx
          go_wp2_with fail
          refine (putL w1.heap.size (some tb) v1 _ (rd_T24 l k) _ HT1.out (by have := HLk.out; omega)).mono ?_
          rintro x w5 ⟨rfl, hp⟩
          obtain ⟨v3, h1, h2, h3, h4⟩ := St2_put HR1.out HO1.out HA1.out hp
          have b0 : w5.cell? ⟨wr.heap.size, 0, none⟩ = some (.int .i64 (rd_T24 l k).f0) := box_kept HT0.out (by simp) hp 0 _ (by simp)
          have b1 : w5.cell? ⟨wr.heap.size, 1, none⟩ = some (.int .i64 (rd_T24 l k).f1) := box_kept HT0.out (by simp) hp 1 _ (by simp)
          have b2 : w5.cell? ⟨wr.heap.size, 2, none⟩ = some (.int .i64 (rd_T24 l k).f2) := box_kept HT0.out (by simp) hp 2 _ (by simp)
          have HT3 := Aside0.mk h1
          have HR3 := Aside0.mk h2
          have HO3 := Aside0.mk h3
          have HA3 := Aside0.mk h4
          clear h1 h2 h3 h4 hp HT0 HT1 HR1 HO1 HA1
          go_wp2_with fail
          refine (cleanL (rd_T24 l k) _).mono ?_
          rintro x w6 ⟨rfl, hb6⟩
          obtain ⟨h1, h2⟩ := Mid_below2 HT3.out HR3.out hb6
          have HN4 := Aside0.mk (fun k hk => off_new h1 k hk)
          have HT4 := Aside0.mk h1
          have HR4 := Aside0.mk h2
          have HO4 := Aside0.mk (HO3.out.below_then hb6)
          clear h1 h2 hb6
          go_wp2_with (at_builtin; refine Kd.R_append k24 (w0 := w6) (W := w6) w3.heap.size rfl (.tmp 40) (.tmp 43) 22 24 _ 24 rfl Try.underlying22 info24 rfl (by decide) (by decide) u7 ((l.take k).map cleanE) (cleanE (rd_T24 l k)) [.int .i64 (cleanE (rd_T24 l k)).f0, .int .i64 (cleanE (rd_T24 l k)).f1, .int .i64 (cleanE (rd_T24 l k)).f2] (Off tb v3) (fun _ => False) rfl rfl (k24_mkM _ _ _ _) (fun _ h => h.elim) HN4.out HR4.out (Below.refl _ _) HO4.out.size (by have := HLk.out; omega) ?_; intro u1 w7 hR7 hB7 hg7 hat7; have HP7 := Aside0.mk (St2_append HT4.out HR4.out hR7 hg7 HO4.out HA3.out); clear hR7 hB7 hg7 hat7)
          go_roundw
          case rel => exact ⟨k + 1, by go_num, ⟨by omega⟩, ⟨by rw [take_map_snoc l k hlt]; exact HP7.out⟩⟩
          case measure => simp [intOf]; omega
        · obtain rfl : k = l.length := by omega
          have HPs := Aside0.mk (show St2 w3 wr w1.heap.size tb u7 (l.map cleanE) by have := HP.out; rwa [List.take_length] at this)
          have HL0 := Aside0.mk (show (l.map cleanE).length ≤ 200 by rw [List.length_map]; omega)
          obtain ⟨v0, h1, h2, h3, h4⟩ := HPs.out
          have HTs2 := Aside0.mk h1
          have HRs := Aside0.mk h2
          have HTt2 := Aside0.mk (other_trace HTt.out h3 hne ⟨_, HTs.out.2.1⟩)
          have HBo := Aside0.mk (show w1.heap.size ≤ wr.heap.size from Nat.le_trans HS.out.2.1 h3.size)
          clear HP HK hk hlt h1 h2 h3 h4 HPs HTs HTt
          generalize l.map cleanE = L0 at *
          obtain ⟨wo, rfl⟩ : ∃ wo : World, wo = wr := ⟨_, rfl⟩
          go_wp2_with fail
          go_loopw [48, 8] (fun v48 v8 wr => ∃ k : Nat, v48 = .int .i64 k ∧ Aside0 (k ≤ l'.length) ∧ Aside0 (St2 wo wr w1.heap.size tb' v8 ((l'.take k).map cleanE))) (fun v48 _ _ => l'.length - (intOf v48).toNat)
          case atStart => exact ⟨0, rfl, ⟨Nat.zero_le _⟩, ⟨⟨_, HTt2.out, Kd.R_nil _ _ _ _ _, OnlyT.refl _ _ _, AtOr.refl _ _⟩⟩⟩
          case round =>
            obtain ⟨k, rfl, HK, HP⟩ := hrel
            have hk := HK.out
            have HBr2 := Aside0.mk (show Below w.heap.size w wr from HBr.out.trans (HP.out.below (by have := HS.out; omega) (by have := HS.out; have := HBo.out; omega)))
            by_cases hlt : k < l'.length
            · obtain ⟨ad1, e1, a0, a1, a2⟩ := at_T24 (Kd.C_below HR'.out HBr2.out) (k : Int) (by omega) (by omega)
              subst e1
              simp only [Int.toNat_natCast] at a0 a1 a2
              obtain ⟨v1, h1, h2, h3, h4⟩ := HP.out
              have hbx := below_alloc (Below.refl wr.heap.size wr) (boxE (rd_T24 l' k))
              obtain ⟨h1', h2'⟩ := Mid_below2 h1 h2 hbx
              have HT1 := Aside0.mk h1'
              have HT0 := Aside0.mk h1
              have HR1 := Aside0.mk h2'
              have HO1 := Aside0.mk (h3.below_then hbx)
              have HA1 := Aside0.mk h4
              have HLk := Aside0.mk (show ((l'.take k).map cleanE).length ≤ 200 by rw [List.length_map, List.length_take]; omega)
              clear h1 h2 h3 h4 h1' h2' hbx
              go_wp2_with fail
              refine (putL w1.heap.size (some tb') v1 _ (rd_T24 l' k) _ HT1.out (by have := HLk.out; omega)).mono ?_
              rintro x w5 ⟨rfl, hp⟩
              obtain ⟨v3, h1, h2, h3, h4⟩ := St2_put HR1.out HO1.out HA1.out hp
              have b0 : w5.cell? ⟨wr.heap.size, 0, none⟩ = some (.int .i64 (rd_T24 l' k).f0) := box_kept HT0.out (by simp) hp 0 _ (by simp)
              have b1 : w5.cell? ⟨wr.heap.size, 1, none⟩ = some (.int .i64 (rd_T24 l' k).f1) := box_kept HT0.out (by simp) hp 1 _ (by simp)
              have b2 : w5.cell? ⟨wr.heap.size, 2, none⟩ = some (.int .i64 (rd_T24 l' k).f2) := box_kept HT0.out (by simp) hp 2 _ (by simp)
              have HT3 := Aside0.mk h1
              have HR3 := Aside0.mk h2
              have HO3 := Aside0.mk h3
              have HA3 := Aside0.mk h4
              clear h1 h2 h3 h4 hp HT0 HT1 HR1 HO1 HA1
              go_wp2_with fail
              refine (cleanL (rd_T24 l' k) _).mono ?_
              rintro x w6 ⟨rfl, hb6⟩
              obtain ⟨h1, h2⟩ := Mid_below2 HT3.out HR3.out hb6
              have HN4 := Aside0.mk (fun k hk => off_new h1 k hk)
              have HT4 := Aside0.mk h1
              have HR4 := Aside0.mk h2
              have HO4 := Aside0.mk (HO3.out.below_then hb6)
              clear h1 h2 hb6
              go_wp2_with (at_builtin; refine Kd.R_append k24 (w0 := w6) (W := w6) wo.heap.size rfl (.tmp 55) (.tmp 58) 22 24 _ 24 rfl Try.underlying22 info24 rfl (by decide) (by decide) u8 ((l'.take k).map cleanE) (cleanE (rd_T24 l' k)) [.int .i64 (cleanE (rd_T24 l' k)).f0, .int .i64 (cleanE (rd_T24 l' k)).f1, .int .i64 (cleanE (rd_T24 l' k)).f2] (Off tb' v3) (fun _ => False) rfl rfl (k24_mkM _ _ _ _) (fun _ h => h.elim) HN4.out HR4.out (Below.refl _ _) HO4.out.size (by have := HLk.out; omega) ?_; intro u1 w7 hR7 hB7 hg7 hat7; have HP7 := Aside0.mk (St2_append HT4.out HR4.out hR7 hg7 HO4.out HA3.out); clear hR7 hB7 hg7 hat7)
              go_roundw
              case rel => exact ⟨k + 1, by go_num, ⟨by omega⟩, ⟨by rw [take_map_snoc l' k hlt]; exact HP7.out⟩⟩
              case measure => simp [intOf]; omega
            · obtain rfl : k = l'.length := by omega
              have HPt := Aside0.mk (show St2 wo wr w1.heap.size tb' u8 (l'.map cleanE) by have := HP.out; rwa [List.take_length] at this)
              have HL1 := Aside0.mk (show (l'.map cleanE).length ≤ 200 by rw [List.length_map]; omega)
              generalize l'.map cleanE = L1 at *
              obtain ⟨v2, h1, h2, h3, h4⟩ := HPt.out
              have HTt3 := Aside0.mk h1
              have HTs3 := Aside0.mk (other_trace HTs2.out h3 (fun e => hne e.symm) ⟨_, HTt2.out.2.1⟩)
              have q1 := other_row HRs.out h3 ⟨_, HTt2.out.2.1⟩
              obtain ⟨Ax, cx, hx⟩ := Kd.R_slice q1
              subst hx
              obtain ⟨Ay, cy, hy⟩ := Kd.R_slice h2
              subst hy
              have HCx := Aside0.mk ((C_of_R q1).2)
              have HCy := Aside0.mk ((C_of_R h2).2)
              clear h1 h2 h3 h4 q1 HP HPt HRs HTs2 HTt2 HK hk hlt
              go_wp2_with fail
              refine (sameO w1.heap.size w1.heap.size (some tb) (some tb') v0 v2 L0 L1 wr HTs3.out HTt3.out (fun e => by cases e) (fun e => by cases e)).mono ?_
              rintro x w8 ⟨r1, rfl, hr1, hb8⟩
              have HQ1 := Aside0.mk hr1
              have HB8 := Aside0.mk hb8
              clear hr1 hb8
              go_wp2_with fail
              refine (sameL Ax cx L0 Ay cy L1 w8 (Kd.C_below HCx.out.2 HB8.out) HCx.out.1 (Kd.C_below HCy.out.2 HB8.out) HCy.out.1 (by have := HL0.out; omega)).mono ?_
              rintro x w9 ⟨r2, rfl, hr2, hd⟩
              obtain rfl : r1 = r2 := by
                have h1 := HQ1.out.trans (alike_iff L0 L1 HL0.out HL1.out)
                have h2 := hr2.out
                cases r1 <;> cases r2 <;> simp_all
              have HB9 := Aside0.mk (chain HB8.out hd.below HB8.out.size)
              clear hd hr2
              go_wp2_with fail
              refine (sameO w1.heap.size w1.heap.size (some tb) (some tb) v0 v0 L0 L0 w9 (HTs3.out.below HB9.out) (HTs3.out.below HB9.out) (fun e => by cases e) (fun e => by cases e)).mono ?_
              rintro x w10 ⟨r3, rfl, hr3, hb10⟩
              obtain rfl : r3 = true := hr3.2 ⟨rfl, rfl, rfl⟩
              have HB10 := Aside0.mk (chain HB9.out hb10 HB9.out.size)
              clear hr3 hb10
              go_wp2_with fail
              go_ret
              exact ⟨rfl, chain HBr2.out HB10.out HBr2.out.size⟩
end Go.Proofs.Ytcjphioimmgbfaa.Tra
