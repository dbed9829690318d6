/- The script's iterator: what it hands over, one by one, its place moved on ahead of each. -/
import Derived.Test.YtcjphioimmgbfaaPeA
namespace Go.Proofs.Ytcjphioimmgbfaa.Tra
open Go.RowKit Go.Shelf Go.Proofs.YtcjphioimmgbfaaW.PrintWords Go.Proofs.YtcjphioimmgbfaaW.PrintLast Go.Proofs.YtcjphioimmgbfaaW.PrintMore Go.Proofs.Ytcjphioimmgbfaa.PTraceActs Go.Proofs.Ytcjphioimmgbfaa.Rf
attribute [local go_sem] Oper.semAt_some
set_option linter.unusedVariables false
set_option linter.unusedSimpArgs false

/-- What the iterator reads: its box, the script's block, the byte that is next. -/
structure ItAt (W : World) (bx sb : Nat) (A : Option Addr) (c : Nat) (bs : List Int) (i : Nat) : Prop where
  box : W.cell? ⟨bx, 0, none⟩ = some (.pointer (some ⟨sb, 0, none⟩))
  blk : W.heap[sb]? = some (scB A bs.length c (i : Int))
  byte : ∀ j : Nat, j < bs.length → ∃ ad, A = some ad ∧ W.cell? (ad.add j) = some (.int .u8 (rd bs (j : Int)))
  ne : ∀ ad, A = some ad → ad.block ≠ sb
  nebx : bx ≠ sb
theorem ItAt.drewN {W : World} {bx sb c i : Nat} {A : Option Addr} {bs : List Int} (h : ItAt W bx sb A c bs i) (k : Nat) : ItAt (W.drewN k) bx sb A c bs i := ⟨h.box, h.blk, h.byte, h.ne, h.nebx⟩
theorem ItAt.next {W : World} {bx sb c i : Nat} {A : Option Addr} {bs : List Int} (h : ItAt W bx sb A c bs i) : ItAt (W.setCell ⟨sb, 1, none⟩ (.int .i64 ((i + 1 : Nat) : Int))) bx sb A c bs (i + 1) := by
  have hf : ∀ (q : Addr) (u : Value), q.block ≠ sb → W.cell? q = some u → (W.setCell ⟨sb, 1, none⟩ (.int .i64 ((i + 1 : Nat) : Int))).cell? q = some u := fun q u hq hu => by
    rw [World.cell?_of_block (Below.heap_setCell _ _ _ _ hq)]
    exact hu
  exact ⟨hf _ _ h.nebx h.box, blk_set h.blk 1 _, fun j hj => by
    obtain ⟨ad, e, hc⟩ := h.byte j hj
    exact ⟨ad, e, hf _ _ (by rw [show (ad.add j).block = ad.block from by unfold Addr.add; split <;> rfl]; exact h.ne ad e) hc⟩, h.ne, h.nebx⟩
def placeOf (W : World) (sb : Nat) : Nat :=
  match W.cell? ⟨sb, 1, none⟩ with
  | some (.int _ x) => x.toNat
  | _ => 0
theorem ItAt.place {W : World} {bx sb c i : Nat} {A : Option Addr} {bs : List Int} (h : ItAt W bx sb A c bs i) : placeOf W sb = i := by
  unfold placeOf
  rw [show W.cell? ⟨sb, 1, none⟩ = some (.int .i64 (i : Int)) from blk_cell h.blk 1]
  exact Int.toNat_natCast i

set_option maxHeartbeats 1000000 in
set_option maxRecDepth 100000 in
theorem each1_in (n l bx sb : Nat) (A : Option Addr) (c : Nat) (bs : List Int) (hl : bs.length ≤ 1000000) (J J' : Nat → World → Prop) (Jx : World → Prop)
    (hJ : ∀ i W, J i W → ItAt W bx sb A c bs i) (hJd : ∀ i W k, J i W → J i (W.drewN k)) (hJ' : ∀ i W, J i W → i < bs.length → J' i (W.setCell ⟨sb, 1, none⟩ (.int .i64 ((i + 1 : Nat) : Int)))) (hJ'd : ∀ i W k, J' i W → J' i (W.drewN k))
    (hY : ∀ i W m, J' i W → i < bs.length → YieldAt Fence.wide m Try.prog l #[.int .u8 (rd bs (i : Int))] W fun e W' => ∃ b : Bool, e = .returned (.bool b) ∧ (b = true → J (i + 1) W') ∧ (b = false → Jx W'))
    (W : World) (h0 : J 0 W) :
    CallsIn Fence.wide n Try.prog 49 #[.func (.yield l) #[] #[], .pointer (some ⟨bx, 0, none⟩)] W fun e W' => (∃ v, e = .returned v) ∧ (J bs.length W' ∨ Jx W') := by
  have hu75 := Try.underlying75
  have HJ := Aside0.mk (And.intro hJ (And.intro hJd (And.intro hJ' (And.intro hJ'd hY))))
  have H0 := Aside0.mk h0
  clear hJ hJd hJ' hJ'd hY h0
  refine callsIn_of_wp Try.func49 rfl trivial ?_ rfl
  simp only [Try.ntmps49, List.size_toArray, List.length_cons, List.length_nil, Nat.reduceAdd, Nat.reduceSub, Array.replicate_succ, Array.replicate_zero, List.push_toArray, List.append_toArray, List.nil_append, List.cons_append]
  gi_wp2
  gi_loopw [] (fun wr => ∃ i : Nat, Aside0 (i ≤ bs.length ∧ J i wr)) (fun wr => bs.length - placeOf wr sb)
  case atStart => exact ⟨0, ⟨Nat.zero_le _, H0.out⟩⟩
  case round =>
    obtain ⟨i, HI⟩ := hrel
    have hit := HJ.out.1 i _ HI.out.2
    have hbox := hit.box
    have h0 : wr.cell? ⟨sb, 0, none⟩ = some (.slice A bs.length c) := blk_cell hit.blk 0
    have h1 : wr.cell? ⟨sb, 1, none⟩ = some (.int .i64 (i : Int)) := blk_cell hit.blk 1
    have hf1 : wr.frozen? ⟨sb, 1, none⟩ = false := blk_frozen hit.blk 1
    have hd1 : ∀ k, (wr.drewN k).cell? ⟨bx, 0, none⟩ = some (.pointer (some ⟨sb, 0, none⟩)) := fun _ => hbox
    have hd2 : ∀ k, (wr.drewN k).cell? ⟨sb, 1, none⟩ = some (.int .i64 (i : Int)) := fun _ => h1
    have hd3 : ∀ k, (wr.drewN k).frozen? ⟨sb, 1, none⟩ = false := fun _ => hf1
    have HIT := Aside0.mk hit
    have HM : ∀ q, placeOf wr sb = q → q = i := fun q hq => by rw [← hq, hit.place]
    clear hit
    by_cases hlt : i < bs.length
    · obtain ⟨ad, rfl, _⟩ := HIT.out.byte i hlt
      have hpos : decide ((bs.length : Int) - (i : Int) > 0) = true := by simp; omega
      have hw1 : wrap64 ((i : Int) + 1) = ((i + 1 : Nat) : Int) := by have := HI.out.1; unfold wrap64; omega
      gi_wp2_with (fail)
      refine ⟨trivial, (fun h => by cases h), ?_⟩
      refine (callsIn_wide.2 (leftS sb (some ad) bs.length c i _ HIT.out.blk HI.out.1 hl)).mono ?_
      rintro e w' ⟨rfl, k, rfl⟩
      gi_wp2_with (fail)
      have hJw := HJ.out.2.2.1 i _ (HJ.out.2.1 i _ k HI.out.2) hlt
      have hitw := (HIT.out.drewN k).next
      rw [show (((i + 1 : Nat) : Int)) = (i : Int) + 1 by omega] at hJw hitw
      obtain ⟨wq, hwq⟩ : ∃ wq, wq = (wr.drewN k).setCell ⟨sb, 1, none⟩ (.int .i64 ((i : Int) + 1)) := ⟨_, rfl⟩
      rw [← hwq] at hJw hitw ⊢
      clear hwq hd1 hd2 hd3 h0 h1 hf1 hbox
      have g0 : wq.drew.cell? ⟨sb, 0, none⟩ = some (.slice (some ad) bs.length c) := blk_cell hitw.blk 0
      have g1 : wq.drew.cell? ⟨sb, 1, none⟩ = some (.int .i64 ((i : Int) + 1)) := (blk_cell hitw.blk 1).trans (by simp)
      have g2 : wq.drew.cell? ⟨bx, 0, none⟩ = some (.pointer (some ⟨sb, 0, none⟩)) := hitw.box
      have g3 : wq.drew.cell? (ad.add i) = some (.int .u8 (rd bs (i : Int))) := by
        obtain ⟨ad2, e, hc⟩ := hitw.byte i hlt
        injection e with e
        subst e
        exact hc
      have hw2 : wrap64 ((i : Int) + 1 - 1) = (i : Int) := by have := HI.out.1; unfold wrap64; omega
      have hw3 : wrap64 (i : Int) = (i : Int) := by have := HI.out.1; unfold wrap64; omega
      have hw4 : IntKind.i64.wrap (i : Int) = (i : Int) := (i64_w _).trans hw3
      have hlb : (i : Int) < (bs.length : Int) := by omega
      have hmix : Try.prog.follows .mixedOrders = true := by kernel_rfl
      obtain ⟨fn, tmps, assign, body, hy, hR⟩ := HJ.out.2.2.2.2 i wq.drew (n - 1) (HJ.out.2.2.2.1 i wq 1 hJw) hlt
      gi_region_with_o (refine ⟨(fun h => by cases h), ?_⟩; refine hR.mono ?_; rintro e W3 ⟨b, rfl, hb⟩; have HB3 := Aside0.mk hb; clear hb)
      all_goals cases b
      all_goals gi_wp2
      all_goals first
        | (refine bodyPost_ret (results_none rfl _ _ _) rfl ?_; exact ⟨⟨_, rfl⟩, .inr (HB3.out.2 (by simp))⟩)
        | (have hj := HB3.out.1 (by simp); exact ⟨⟨i + 1, ⟨by omega, hj⟩⟩, by rw [(HJ.out.1 (i + 1) W3 hj).place]; omega⟩)
    · obtain rfl : i = bs.length := by have := HI.out.1; omega
      have hpos : decide ((bs.length : Int) - (bs.length : Int) > 0) = false := by simp
      gi_wp2_with (fail)
      refine ⟨trivial, (fun h => by cases h), ?_⟩
      refine (callsIn_wide.2 (leftS sb A bs.length c bs.length _ HIT.out.blk (Nat.le_refl _) hl)).mono ?_
      rintro e w' ⟨rfl, k, rfl⟩
      gi_wp2_with (fail)
      go_end0
      exact ⟨⟨_, rfl⟩, .inl (HJ.out.2.1 _ _ _ HI.out.2)⟩
end Go.Proofs.Ytcjphioimmgbfaa.Tra
