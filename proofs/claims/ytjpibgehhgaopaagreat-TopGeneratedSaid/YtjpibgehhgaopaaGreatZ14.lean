/- nat's from, for one word. -/
import Derived.Shelf.Abstract
import Derived.Shelf.RegionOpen
import Derived.WalkKit
import Derived.OwnWalkIn
import Derived.TacticsInMore
import Derived.LoopNIn
import Derived.LoopIn
import Derived.Maps.AppendAt
import Derived.Test.YtjpibgehhgaopaaGreatZ10
import Derived.Test.YtjpibgehhgaopaaGreatTgRf
import Derived.Test.YtjpibgehhgaopaaGreatTgW
namespace Go.Proofs.YtjpibgehhgaopaaGreat.Top
open Go.RowKit Go.Shelf Go.Proofs.YtjpibgehhgaopaaGreatW.PrintWords Go.Proofs.YtjpibgehhgaopaaGreatW.PrintLast Go.Proofs.YtjpibgehhgaopaaGreat.PTopGenerated Go.Proofs.YtjpibgehhgaopaaGreat.Rf
attribute [local go_sem] Oper.semAt_some
set_option linter.unusedVariables false
set_option linter.unusedSimpArgs false

set_option maxHeartbeats 1000000 in
set_option maxRecDepth 100000 in
theorem from1_in (n l bx : Nat) (A : Option Addr) (c : Nat) (bs : List Int) (hl1 : 1 ≤ bs.length) (hl : bs.length ≤ 8) (hcap : bs.length ≤ c) (hby : ∀ i : Nat, Byt (rd bs (i : Int))) (J0 J1 J2 Jx : World → Prop)
    (h0 : ∀ W, J0 W → W.cell? ⟨bx, 0, none⟩ = some (.slice A bs.length c) ∧ ReadsInt W .u8 A bs.length bs)
    (h1 : ∀ W, J1 W → W.cell? ⟨bx, 0, none⟩ = some (.slice A bs.length c) ∧ W.frozen? ⟨bx, 0, none⟩ = false ∧ J2 (W.setCell ⟨bx, 0, none⟩ (.slice A 0 c)))
    (h2 : ∀ W, J2 W → W.cell? ⟨bx, 0, none⟩ = some (.slice A 0 c))
    (hY : ∀ W m, J0 W → YieldAt Fence.wide m Tryz.prog l #[.int .i64 0, .int .u64 (getI bs)] W fun e W' => ∃ b : Bool, e = .returned (.bool b) ∧ (b = true → J1 W') ∧ (b = false → Jx W'))
    (W : World) (hW : J0 W) :
    CallsIn Fence.wide n Tryz.prog 139 #[.func (.yield l) #[] #[], .pointer (some ⟨bx, 0, none⟩)] W fun e W' => (∃ v, e = .returned v) ∧ (J2 W' ∨ Jx W') := by
  have HJ := Aside0.mk (And.intro h0 (And.intro h1 (And.intro h2 hY)))
  have H0 := Aside0.mk hW
  have HC := Aside0.mk (And.intro hcap (And.intro hl1 (And.intro hl hby)))
  have m8 : max ((bs.length : Int) - 8) 0 = 0 := by omega
  have w8 : wrap64 ((bs.length : Int) - 8) = (bs.length : Int) - 8 := wrap64_id (by omega) (by omega)
  have hpos : 0 < bs.length := hl1
  clear h0 h1 h2 hY hW hl1 hby
  refine callsIn_of_wp Tryz.func139 rfl trivial ?_ rfl
  simp only [Tryz.ntmps139, List.size_toArray, List.length_cons, List.length_nil, Nat.reduceAdd, Nat.reduceSub, Array.replicate_succ, Array.replicate_zero, List.push_toArray, List.append_toArray, List.nil_append, List.cons_append]
  gi_wp2
  gi_loopw [3] (fun v3 wr => ∃ i : Nat, v3 = .int .i64 (i : Int) ∧ Aside0 ((i = 0 ∧ J0 wr) ∨ (i = 1 ∧ J2 wr))) (fun v3 _ => 1 - (intOf v3).toNat)
  case atStart => exact ⟨0, rfl, ⟨.inl ⟨rfl, H0.out⟩⟩⟩
  case round =>
    obtain ⟨i, rfl, HI⟩ := hrel
    rcases HI.out with ⟨rfl, hj⟩ | ⟨rfl, hj⟩
    · obtain ⟨c0, hr⟩ := HJ.out.1 _ hj
      have HR := Aside0.mk hr
      have HJ0 := Aside0.mk hj
      clear hr hj HI
      obtain ⟨fn, tmps, assign, body, hy, hRd⟩ := HJ.out.2.2.2 wr (n - 1) HJ0.out
      gi_wp2_with (fail)
      refine ⟨trivial, (fun h => by cases h), ?_⟩
      refine (callsIn_wide.2 (getN A c bs _ HR.out HC.out.2.2.1 HC.out.2.2.2)).mono ?_
      rintro e w' ⟨rfl, rfl⟩
      gi_wp2_with (fail)
      refine ⟨(fun h => by cases h), ?_⟩
      refine hRd.mono ?_
      rintro e W3 ⟨b, rfl, hb1, hb2⟩
      cases b
      · have HX := Aside0.mk (hb2 rfl)
        clear hb1 hb2
        gi_wp2_with (fail)
        refine bodyPost_ret (results_none rfl _ _ _) rfl ?_
        exact ⟨⟨_, rfl⟩, .inr HX.out⟩
      · obtain ⟨g1, g2, g3⟩ := HJ.out.2.1 _ (hb1 rfl)
        have HX := Aside0.mk g3
        clear hb1 hb2 g3
        gi_wp2_with (fail)
        exact ⟨⟨1, rfl, ⟨.inr ⟨rfl, HX.out⟩⟩⟩, by simp [intOf]⟩
    · have c0 := HJ.out.2.2.1 _ hj
      gi_wp2_with (fail)
      go_end0
      exact ⟨⟨_, rfl⟩, .inl hj⟩
end Go.Proofs.YtjpibgehhgaopaaGreat.Top
/- nat's Of, for one word. -/
namespace Go.Proofs.YtjpibgehhgaopaaGreat.Top
open Go.RowKit Go.Shelf Go.Proofs.YtjpibgehhgaopaaGreatW.PrintWords Go.Proofs.YtjpibgehhgaopaaGreatW.PrintLast Go.Proofs.YtjpibgehhgaopaaGreat.PTopGenerated Go.Proofs.YtjpibgehhgaopaaGreat.Rf
attribute [local go_sem] Oper.semAt_some
set_option linter.unusedVariables false
set_option linter.unusedSimpArgs false

theorem getI_U (xs : List Int) : U64 (getI xs) := by
  unfold getI
  have : ∀ (ys : List Int) (a : Int), U64 a → U64 (ys.foldl (fun a x => Go.bits .or .u64 (IntKind.u64.wrap (a * 256)) x) a) := by
    intro ys
    induction ys with
    | nil => intro a h; exact h
    | cons y r ih => intro a h; exact ih _ (bits64_u _ _ _)
  exact this xs 0 ⟨by omega, by omega⟩
set_option maxRecDepth 100000 in
theorem fromN (A : Option Addr) (n c : Nat) (w : World) : Calls Tryz.prog 91 #[.slice A n c] w fun x w' => x = .returned (.func (.func 139) #[] #[.pointer (some ⟨w.heap.size, 0, none⟩)]) ∧ w' = w.alloc (.cells #[.slice A n c] 22) := by
  go_enter Tryz.func91, Tryz.ntmps91
  go_wp2_with fail
  go_ret
  exact ⟨rfl, rfl⟩
/-- Of's blocks. -/
def OfL (s : Nat) (u : Value) (x : Int) (bv : Value) (r : Loop) : List (Nat × Obj) :=
  [(s, .cells #[.int .i64 1] 3), (s + 1, .cells #[u] 26), (s + 1 + 1, .cells #[.int .i64 0] 29), (s + 1 + 1 + 1, .cells #[.int .u64 x] 23),
   (s + 1 + 1 + 1 + 1, .cells #[.slice (some ⟨s + 1 + 1 + 1, 0, none⟩) 1 1] 26), (s + 1 + 1 + 1 + 1 + 1, .cells #[bv] 22), (s + 1 + 1 + 1 + 1 + 1 + 1, .deferred (some [])), (s + 1 + 1 + 1 + 1 + 1 + 1 + 1, .loop r)]

set_option maxHeartbeats 2000000 in
set_option maxRecDepth 100000 in
theorem ofN (A : Option Addr) (c : Nat) (bs : List Int) (w : World) (hr : ReadsInt w .u8 A bs.length bs) (hl1 : 1 ≤ bs.length) (hl : bs.length ≤ 8) (hcap : bs.length ≤ c) (hby : ∀ i : Nat, Byt (rd bs (i : Int))) :
    Calls Tryz.prog 48 #[.slice A bs.length c, .int .i64 1] w fun e w' => ∃ v, e = .returned (.tuple #[v, .int .i64 0]) ∧ Res w w' v [(getI bs).toNat] := by
  have HY := Aside0.mk (And.intro hr (And.intro hl1 (And.intro hl (And.intro hcap hby))))
  have hmk := make23_1
  clear hr hl1 hl hcap hby
  refine (callsIn_wide (n := 3)).1 ?_
  refine callsIn_of_wp_marks Tryz.func48 rfl trivial ?_ rfl
  simp only [Tryz.ntmps48, List.size_toArray, List.length_cons, List.length_nil, Nat.reduceAdd, Nat.reduceSub, Array.replicate_succ, Array.replicate_zero, List.push_toArray, List.append_toArray, List.nil_append, List.cons_append]
  gi_wp2_with fail
  refine ⟨trivial, ?_⟩
  refine (callsIn_wide.2 (fromN _ _ _ _)).mono ?_
  rintro e w' ⟨rfl, rfl⟩
  gi_wp2_with fail
  obtain ⟨s, hs⟩ : ∃ s, s = w.heap.size := ⟨_, rfl⟩
  have H0 := Aside0.mk (fun r => ((((((((Fr.nil w).alloc (.cells #[.int .i64 1] 3)).alloc (.cells #[.slice none 0 0] 26)).alloc (.cells #[.int .i64 0] 29)).alloc (.cells #[.int .u64 0] 23)).alloc (.cells #[.slice (some ⟨s + 1 + 1 + 1, 0, none⟩) 1 1] 26)).alloc (.cells #[.slice A bs.length c] 22)).alloc (.deferred (some []))).alloc (.loop r))
  simp only [World.size_alloc, ← hs, List.nil_append, List.cons_append] at H0
  rw [← hs]
  obtain ⟨wl, hwl⟩ : ∃ wl, wl = (((((w.alloc (.cells #[.int .i64 1] 3)).alloc (.cells #[.slice none 0 0] 26)).alloc (.cells #[.int .i64 0] 29)).alloc (.cells #[.int .u64 0] 23)).alloc (.cells #[.slice (some ⟨s + 1 + 1 + 1, 0, none⟩) 1 1] 26)).alloc (.cells #[.slice A bs.length c] 22) := ⟨_, rfl⟩
  rw [← hwl] at H0 ⊢
  have hsz : wl.heap.size = s + 1 + 1 + 1 + 1 + 1 + 1 := by rw [hwl, hs]; simp
  change Aside0 (∀ r, Fr w ((wl.alloc (.deferred (some []))).alloc (.loop r)) (OfL s (.slice none 0 0) 0 (.slice A bs.length c) r)) at H0
  have HS := Aside0.mk hs
  clear hwl hs
  obtain ⟨g, hg⟩ : ∃ g, g = getI bs := ⟨_, rfl⟩
  have HG := Aside0.mk (show U64 g from hg ▸ getI_U bs)
  refine wp_rangeFunc (gf := 139) (lb := #[.pointer (some ⟨s + 1 + 1 + 1 + 1 + 1, 0, none⟩)]) rfl (enters_of Tryz.func139 (by kernel_rfl) rfl)
    (fun W => ∃ r, Fr w W (OfL s (.slice none 0 0) g (.slice A 0 c) r)) (fun k W => False) ?call ?done ?stop
  case call =>
    intro fn rec hrec
    rw [hsz]
    refine (from1_in 2 (s + 1 + 1 + 1 + 1 + 1 + 1 + 1) (s + 1 + 1 + 1 + 1 + 1) A c bs HY.out.2.1 HY.out.2.2.1 HY.out.2.2.2.1 HY.out.2.2.2.2
      (fun W => Fr w W (OfL s (.slice none 0 0) 0 (.slice A bs.length c) (rec .ready none))) (fun W => Fr w W (OfL s (.slice none 0 0) g (.slice A bs.length c) (rec .ready none)))
      (fun W => Fr w W (OfL s (.slice none 0 0) g (.slice A 0 c) (rec .ready none))) (fun W => False) ?_ ?_ ?_ ?_ _ (H0.out _)).mono ?_
    · intro W h
      exact ⟨h.cell 5 rfl 0 rfl, HY.out.1.below h.bel⟩
    · intro W h
      exact ⟨h.cell 5 rfl 0 rfl, h.frozen 5 rfl 0, h.set_ 5 rfl 0 _⟩
    · intro W h
      exact h.cell 5 rfl 0 rfl
    · intro W m h
      have HF0 := Aside0.mk h
      rw [← hg]
      clear h hg
      refine yield_at hrec (HF0.out.at 7 rfl) rfl ?_
      gi_wp2_with fail
      refine ⟨HF0.out.at 7 rfl, ?_⟩
      have HF := Aside0.mk (HF0.out.put 7 rfl (.loop (rec .busy none)))
      obtain ⟨Wb, hWb⟩ : ∃ Wb, Wb = W.putObj (s + 1 + 1 + 1 + 1 + 1 + 1 + 1) (.loop (rec .busy none)) := ⟨_, rfl⟩
      rw [← hWb] at HF ⊢
      clear hWb HF0
      have g3 : Wb.cell? ⟨s, 0, none⟩ = some (.int .i64 1) := HF.out.cell 0 rfl 0 rfl
      have g6 : Wb.cell? ⟨s + 1 + 1 + 1 + 1, 0, none⟩ = some (.slice (some ⟨s + 1 + 1 + 1, 0, none⟩) 1 1) := HF.out.cell 4 rfl 0 rfl
      have g7 : Wb.cell? ⟨s + 1 + 1 + 1, 0, none⟩ = some (.int .u64 0) := HF.out.cell 3 rfl 0 rfl
      have f7 : Wb.frozen? ⟨s + 1 + 1 + 1, 0, none⟩ = false := HF.out.frozen 3 rfl 0
      gi_wp2_with fail
      have HN := HF.out.set_ 3 rfl 0 (.int .u64 g)
      exact ⟨HN.at 7 rfl, true, rfl, fun _ => HN.put 7 rfl _, fun h => by cases h⟩
    · rintro e W ⟨he, hW⟩
      refine ⟨he, ?_⟩
      rcases hW with h | h
      · exact .inl ⟨h.at 7 rfl, _, h⟩
      · exact h.elim
  case done =>
    rintro W o ⟨r, h⟩ hlo o'
    rw [hsz] at hlo ⊢
    have HF := Aside0.mk (h.put 7 rfl (.loop o'))
    obtain ⟨Wb, hWb⟩ : ∃ Wb, Wb = W.putObj (s + 1 + 1 + 1 + 1 + 1 + 1 + 1) (.loop o') := ⟨_, rfl⟩
    rw [← hWb] at HF ⊢
    clear hWb h hlo
    have g4 : Wb.cell? ⟨s + 1, 0, none⟩ = some (.slice none 0 0) := HF.out.cell 1 rfl 0 rfl
    have g5 : Wb.cell? ⟨s + 1 + 1, 0, none⟩ = some (.int .i64 0) := HF.out.cell 2 rfl 0 rfl
    have g6 : Wb.cell? ⟨s + 1 + 1 + 1 + 1, 0, none⟩ = some (.slice (some ⟨s + 1 + 1 + 1, 0, none⟩) 1 1) := HF.out.cell 4 rfl 0 rfl
    have f4 : Wb.frozen? ⟨s + 1, 0, none⟩ = false := HF.out.frozen 1 rfl 0
    have f5 : Wb.frozen? ⟨s + 1 + 1, 0, none⟩ = false := HF.out.frozen 2 rfl 0
    gi_wp2_with fail
    have HR := Aside0.mk ((HF.out.set_ 1 rfl 0 (.slice (some ⟨s + 1 + 1 + 1, 0, none⟩) 1 1)).set_ 2 rfl 0 (.int .i64 0))
    refine ⟨by simp, .inl ⟨_, _, rfl, run_takeDeferred (HR.out.at 6 rfl), ?_⟩⟩
    have HD := HR.out.put 6 rfl (.deferred none)
    obtain ⟨gn, hgn⟩ := Int.eq_ofNat_of_zero_le HG.out.1
    have hg2 : (getI bs).toNat = gn := by rw [← hg, hgn]; exact Int.toNat_natCast gn
    refine ⟨.tuple #[.slice (some ⟨s + 1 + 1 + 1, 0, none⟩) 1 1, .int .i64 0], ?_, _, rfl, ?_⟩
    · have q4 := HD.cell 1 rfl 0 rfl
      have q5 := HD.cell 2 rfl 0 rfl
      simp [results, Tryz.f48, go_sem, q4, q5]
    · rw [hg2]
      have hb := HD.at 3 rfl
      rw [hgn] at hb
      exact ⟨own_of_blk (r := [gn]) hb (by rw [HS.out]; omega) (by simp), W64_one (by have := HG.out.2; omega), HD.bel⟩
  case stop =>
    rintro k W o h
    exact h.elim
end Go.Proofs.YtjpibgehhgaopaaGreat.Top
/- short's Raw, of one word: squares and products, bit by bit. -/
namespace Go.Proofs.YtjpibgehhgaopaaGreat.Top
open Go.RowKit Go.Shelf Go.Proofs.YtjpibgehhgaopaaGreatW.PrintWords Go.Proofs.YtjpibgehhgaopaaGreatW.PrintLast Go.Proofs.YtjpibgehhgaopaaGreat.PTopGenerated Go.Proofs.YtjpibgehhgaopaaGreat.Rf
attribute [local go_sem] Oper.semAt_some
set_option linter.unusedVariables false
set_option linter.unusedSimpArgs false

theorem product0 (v : Value) (M a b : Nat) (Aa Ab : Option Addr) (ca cb : Nat) (w : World) (hM : Md w v M) (h0 : 0 < M) (ha : Num w Aa ca [a]) (hb : Num w Ab cb [b]) :
    Calls Tryz.prog 93 #[.pointer none, v, .slice Aa 1 ca, .slice Ab 1 cb] w fun e w' => ∃ v', e = .returned v' ∧ Res w w' v' [prodW M a b] := by
  refine (productT w.heap.size none 0 M a b v Aa Ab ca cb w (T_none w 0) (by omega) hM h0 ha hb (Nat.le_refl _)).mono ?_
  rintro e w' ⟨v', e1, h1, h2, _⟩
  refine ⟨v', e1, h1, W64_one ?_, h2.bel⟩
  unfold prodW
  simp only []
  split <;> exact Nat.mod_lt _ (by omega)
/-- A bit of a word. -/
def bitB (E i : Nat) : Bool := decide (E / 2 ^ i % 2 = 1)
theorem bitB_eq (E i : Nat) : (((E / 2 ^ i % 2 : Nat) : Int) == 1) = bitB E i := by
  unfold bitB
  generalize E / 2 ^ i % 2 = x
  rw [Bool.eq_iff_iff, beq_iff_eq, decide_eq_true_eq]
  omega
set_option maxHeartbeats 1000000 in
set_option maxRecDepth 100000 in
/-- The iterator of an exponent's bits, the highest ahead. -/
theorem down_in (n l bx : Nat) (A : Option Addr) (c E : Nat) (J : Nat → World → Prop)
    (h0 : ∀ k W, J k W → W.cell? ⟨bx, 0, none⟩ = some (.slice A 1 c) ∧ Num W A c [E])
    (hY : ∀ k W m, k < bl E → J k W → YieldAt Fence.wide m Tryz.prog l #[.bool (bitB E (bl E - 1 - k))] W fun e W' => e = .returned (.bool true) ∧ J (k + 1) W')
    (W : World) (hW : J 0 W) :
    CallsIn Fence.wide n Tryz.prog 143 #[.func (.yield l) #[] #[], .pointer (some ⟨bx, 0, none⟩)] W fun e W' => (∃ v, e = .returned v) ∧ J (bl E) W' := by
  have HJ := Aside0.mk (And.intro h0 hY)
  have H0 := Aside0.mk hW
  obtain ⟨g0, hn0⟩ := h0 _ _ hW
  have hEw : E < 18446744073709551616 := hn0.w64 E (by simp)
  have hbl : bl E ≤ 64 := bl_le64 hEw
  have HB := Aside0.mk (bitsN A c [E] W hn0 (by simp))
  rw [val_one] at HB
  have wb : wrap64 ((bl E : Int) - 1) = (bl E : Int) - 1 := wrap64_id (by omega) (by omega)
  obtain ⟨L, hL⟩ : ∃ L, L = bl E := ⟨_, rfl⟩
  rw [← hL] at HB wb HJ hbl ⊢
  clear h0 hY hW hn0 hL
  refine callsIn_of_wp Tryz.func143 rfl trivial ?_ rfl
  simp only [Tryz.ntmps143, List.size_toArray, List.length_cons, List.length_nil, Nat.reduceAdd, Nat.reduceSub, Array.replicate_succ, Array.replicate_zero, List.push_toArray, List.append_toArray, List.nil_append, List.cons_append]
  gi_wp2
  refine ⟨trivial, (fun h => by cases h), ?_⟩
  refine (callsIn_wide.2 HB.out).mono ?_
  rintro e w' ⟨rfl, rfl⟩
  gi_wp2_with (fail)
  gi_loopw [3] (fun v3 wr => ∃ j : Nat, v3 = .int .i64 ((j : Int) - 1) ∧ Aside0 (j ≤ L ∧ J (L - j) wr)) (fun v3 _ => (intOf v3 + 1).toNat)
  case atStart => exact ⟨L, rfl, ⟨Nat.le_refl _, by rw [Nat.sub_self]; exact H0.out⟩⟩
  case round =>
    obtain ⟨j, rfl, HI⟩ := hrel
    clear g0
    rcases j with _ | j
    · have t2 : decide (((0 : Nat) : Int) - 1 ≥ 0) = false := by decide
      gi_wp2_with (fail)
      go_end0
      exact ⟨⟨_, rfl⟩, HI.out.2⟩
    · have ej : ((j + 1 : Nat) : Int) - 1 = (j : Int) := by omega
      rw [ej]
      have hj : j < L := HI.out.1
      have t2 : decide ((j : Int) ≥ 0) = true := by rw [decide_eq_true_eq]; omega
      have w9 : wrap64 ((j : Int) - 1) = (j : Int) - 1 := wrap64_id (by omega) (by omega)
      obtain ⟨g1, hn1⟩ := HJ.out.1 _ _ HI.out.2
      have HBt := Aside0.mk (bitN A c [E] j wr hn1 (by omega))
      rw [show j / 64 = 0 by omega, show j % 64 = j by omega, show ([E] : List Nat).getD 0 0 = E from rfl] at HBt
      have tb := bitB_eq E j
      obtain ⟨fn, tmps, assign, body, hy, hRd⟩ := HJ.out.2 _ wr (n - 1) (show L - (j + 1) < L by omega) HI.out.2
      rw [show L - 1 - (L - (j + 1)) = j by omega] at hy
      rw [show L - (j + 1) + 1 = L - j by omega] at hRd
      generalize E / 2 ^ j % 2 = x at *
      generalize bitB E j = p at *
      clear hn1
      gi_wp2_with (fail)
      refine ⟨trivial, (fun h => by cases h), ?_⟩
      refine (callsIn_wide.2 HBt.out).mono ?_
      rintro e w' ⟨rfl, rfl⟩
      gi_wp2_with (fail)
      refine ⟨(fun h => by cases h), ?_⟩
      refine hRd.mono ?_
      rintro e W3 ⟨rfl, hJ3⟩
      have HJ3 := Aside0.mk hJ3
      clear hJ3 HBt
      gi_wp2_with (fail)
      exact ⟨⟨j, by first | rfl | exact congrArg (Value.int .i64) w9, ⟨by omega, HJ3.out⟩⟩, by first | exact msr_dn j | (rw [w9]; exact msr_dn j)⟩
set_option maxRecDepth 100000 in
theorem downN (A : Option Addr) (n c : Nat) (w : World) : Calls Tryz.prog 94 #[.slice A n c] w fun x w' => x = .returned (.func (.func 143) #[] #[.pointer (some ⟨w.heap.size, 0, none⟩)]) ∧ w' = w.alloc (.cells #[.slice A n c] 26) := by
  go_enter Tryz.func94, Tryz.ntmps94
  go_wp2_with fail
  go_ret
  exact ⟨rfl, rfl⟩
end Go.Proofs.YtjpibgehhgaopaaGreat.Top
