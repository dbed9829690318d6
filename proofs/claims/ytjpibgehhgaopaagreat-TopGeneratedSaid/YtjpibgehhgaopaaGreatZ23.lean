/- The script's Read. -/
import Derived.Test.YtjpibgehhgaopaaGreatZ22
namespace Go.Proofs.YtjpibgehhgaopaaGreat.Top
open Go.RowKit Go.Proofs.YtjpibgehhgaopaaGreatW.PrintWords Go.Proofs.YtjpibgehhgaopaaGreatW.PrintLast Go.Proofs.YtjpibgehhgaopaaGreat.PTopGenerated
set_option linter.unusedVariables false
set_option linter.unusedSimpArgs false

theorem add_add (ad : Addr) (i j : Nat) : (ad.add i).add j = ad.add (i + j) := by
  unfold Addr.add
  by_cases hi : i = 0
  · subst hi; simp
  · by_cases hj : j = 0
    · subst hj; simp [hi]
    · rw [if_neg hi, if_neg hj, if_neg (by omega)]
      simp [Nat.add_assoc]
theorem reads_sub {w : World} {ad : Addr} {N i n : Nat} {bs : List Int} (h : ReadsInt w .u8 (some ad) N bs) (hn : i + n ≤ N) : ReadsInt w .u8 (some (ad.add i)) n ((bs.drop i).take n) := by
  obtain ⟨h1, h2, h3⟩ := h
  refine ⟨by simp; omega, by omega, fun hp => ⟨_, rfl, fun j hj => ?_⟩⟩
  obtain ⟨ad', e, hc⟩ := h3 (by omega)
  injection e with e
  subst e
  rw [add_add, hc (i + j) (by omega)]
  simp [List.getD, List.getElem?_take, List.getElem?_drop, hj]
theorem rd_sub {bs : List Int} {i n : Nat} (h : ∀ j : Nat, Byt (rd bs (j : Int))) : ∀ j : Nat, Byt (rd ((bs.drop i).take n) (j : Int)) := by
  intro j
  have := h (i + j)
  unfold rd at this ⊢
  rw [Int.toNat_natCast] at this ⊢
  rw [List.getD_eq_getElem?_getD, List.getElem?_take]
  split
  · rw [List.getElem?_drop, ← List.getD_eq_getElem?_getD]
    exact this
  · exact ⟨by simp, by simp⟩
set_option maxHeartbeats 1000000 in
set_option maxRecDepth 100000 in
theorem readOk (sb n : Nat) (bs : List Int) (i : Nat) (w : World) (h : Scr w sb bs i) (hn1 : 1 ≤ n) (hn : i + n ≤ bs.length) :
    Calls Tryz.prog 47 #[.pointer (some ⟨sb, 0, none⟩), .int .i64 (n : Int)] w fun x w' => ∃ v, x = .returned (.tuple #[v, .int .i64 0]) ∧ w'.ownsRow w.heap.size 5 1 v n (nums .u8 ((bs.drop i).take n)) ∧ Scr w' sb bs (i + n) ∧ But sb w w' := by
  have HS := Aside0.mk h
  have hl := h.len
  have t1 : decide ((n : Int) < 0) = false := by rw [decide_eq_false_iff_not]; omega
  have t2 : decide ((n : Int) > (bs.length : Int) - (i : Int)) = false := by rw [decide_eq_false_iff_not]; omega
  have t3 : ((n : Int) == 0) = false := by simp; omega
  have HL := Aside0.mk (leftS sb bs i w h)
  have hu84 := Tryz.underlying84
  clear h
  go_enter Tryz.func47, Tryz.ntmps47
  go_wp2_with fail
  refine HL.out.mono ?_
  rintro e w1 ⟨rfl, k, rfl⟩
  have hsc := HS.out.below (pw_below_drewN (Below.refl _ _) k)
  obtain ⟨A, c, hb, hrd, hcap, hty⟩ := hsc.has
  obtain ⟨ad, rfl, _⟩ := hrd.2.2 (by omega)
  have h0 := blk_cell hb 0
  have h1 := blk_cell hb 1
  have f1 := frozen_of_row _ sb 1 _ _ hb
  obtain ⟨hm, hbut⟩ := hsc.move (j := i + n) hn
  have w5 : wrap64 ((i : Int) + (n : Int)) = (i : Int) + (n : Int) := wrap64_id (by omega) (by omega)
  have HM := Aside0.mk (And.intro hm hbut)
  have HR := Aside0.mk (And.intro hrd hcap)
  have HTY := Aside0.mk hty
  have HBK := Aside0.mk hb
  clear hsc hb hrd hm hbut hty
  go_upto_region 9 with (fail)
  have HM2 := HM.out
  have hm2 := HM2.1
  have hsub := reads_sub (w := w.drewN k) HR.out.1 hn
  have hk5 := reads_bytes (w' := (w.drewN k).setCell ⟨sb, 1, none⟩ (.int .i64 ((i + n : Nat) : Int))) HR.out.1 HTY.out (fun q cur hc => by
    rw [Below.heap_setCell]
    · exact hc
    · rintro rfl
      rw [HBK.out] at hc
      injection hc with hc
      injection hc with _ hc
      exact absurd hc (by decide))
  have hsub := reads_sub hk5 hn
  have HC := Aside0.mk (fun W hb => cloneB (some (ad.add i)) (c - i) n ((bs.drop i).take n) W (hsub.below hb) (by omega))
  have HQ := Aside0.mk (And.intro HM2.1 HM2.2)
  have k0 : ((w.drewN k).setCell ⟨sb, 1, none⟩ (.int .i64 ((i + n : Nat) : Int))).cell? ⟨sb, 0, none⟩ = some (.slice (some ad) bs.length c) := by
    rw [World.cell?_setCell_other _ _ _ _ (by simp)]
    exact h0
  have k1 : ((w.drewN k).setCell ⟨sb, 1, none⟩ (.int .i64 ((i + n : Nat) : Int))).cell? ⟨sb, 1, none⟩ = some (.int .i64 ((i + n : Nat) : Int)) := World.cell?_setCell_same _ _ _ h1
  clear h0 h1 f1 HM2 hm2 hsub hk5 HM
  rw [show ((i : Int) + (n : Int)) = ((i + n : Nat) : Int) by simp]
  obtain ⟨j, hj⟩ : ∃ j, j = i + n := ⟨_, rfl⟩
  rw [← hj] at HC HQ k0 k1 ⊢
  obtain ⟨w2, hw2⟩ : ∃ w2, w2 = (w.drewN k).setCell ⟨sb, 1, none⟩ (.int .i64 (j : Int)) := ⟨_, rfl⟩
  rw [← hw2] at HC HQ k0 k1 ⊢
  have HJ := Aside0.mk hj
  have w6 : IntKind.i64.wrap ((j : Int) - (n : Int)) = (i : Int) := by rw [i64_w]; exact (wrap64_id (by omega) (by omega)).trans (by omega)
  have b1 : (i : Int) ≤ (j : Int) := by omega
  have b2 : (j : Int) ≤ (c : Int) := by have := HR.out.2; omega
  have b3 : (0 : Int) ≤ (i : Int) := by omega
  have HE := Aside0.mk (show j - i = n by omega)
  have HCI := Aside0.mk (show ¬ c = i by have := HR.out.2; omega)
  clear hj hw2 w5 t1 t2 t3
  go_region_held3 (fun W => W.cell? ⟨sb, 0, none⟩ = some (.slice (some ad) bs.length c) ∧ W.cell? ⟨sb, 1, none⟩ = some (.int .i64 (j : Int))) (first | go_keep | exact ⟨by assumption, by assumption⟩) (first | (go_at_call 31; rw [HE.out, if_neg HCI.out]; refine (HC.out _ (pw_below_drewN (Below.refl _ _) _)).mono ?_; rintro x w3 ⟨v, rfl, ho, hb3⟩; have HO := Aside0.mk (And.intro ho hb3); have m0 := pw_cell_below hb3 k0; have m1 := pw_cell_below hb3 k1; clear ho hb3))
  all_goals go_wp2_with fail
  all_goals go_ret2
  all_goals
    have hl8 : ((bs.drop i).take n).length = n := by have := HJ.out; simp; omega
    have hb0 := pw_below_drewN (Below.refl w2.heap.size w2) 1
    have ho := HO.out.1
    rw [hl8] at ho
    refine ⟨v, rfl, own_weaken ho (Nat.le_trans HQ.out.2.size (by simp)), ?_, ?_⟩
    · rw [← HJ.out]
      exact (HQ.out.1.below (pw_below_drewN (Below.refl _ _) _)).below HO.out.2
    · exact (((But.of_below (pw_below_drewN (Below.refl _ _) k)).trans HQ.out.2).trans (But.of_below (pw_below_drewN (Below.refl _ _) _))).trans (But.of_below HO.out.2)
set_option maxHeartbeats 1000000 in
set_option maxRecDepth 100000 in
theorem readSpent (sb n : Nat) (bs : List Int) (i : Nat) (w : World) (h : Scr w sb bs i) (hn : bs.length < i + n) (hn2 : n ≤ 100000) :
    Calls Tryz.prog 47 #[.pointer (some ⟨sb, 0, none⟩), .int .i64 (n : Int)] w fun x w' => x = .returned (.tuple #[.slice none 0 0, .int .i64 150]) ∧ Scr w' sb bs bs.length ∧ But sb w w' := by
  have HS := Aside0.mk h
  have hl := h.len
  have hle := h.le
  have t1 : decide ((n : Int) < 0) = false := by rw [decide_eq_false_iff_not]; omega
  have t2 : decide ((n : Int) > (bs.length : Int) - (i : Int)) = true := by rw [decide_eq_true_eq]; omega
  have HL := Aside0.mk (leftS sb bs i w h)
  clear h
  go_enter Tryz.func47, Tryz.ntmps47
  go_wp2_with fail
  refine HL.out.mono ?_
  rintro e w1 ⟨rfl, k, rfl⟩
  have HS1 := Aside0.mk (spendS sb bs i _ (HS.out.below (pw_below_drewN (Below.refl _ _) k)))
  go_wp2_with fail
  refine HS1.out.mono ?_
  rintro e w2 ⟨rfl, h1, h2⟩
  have HR := Aside0.mk (And.intro h1 ((But.of_below (pw_below_drewN (Below.refl _ _) k)).trans h2))
  clear h1 h2
  go_wp2_with fail
  go_ret2
  exact ⟨rfl, HR.out.1, HR.out.2⟩
/-! ### A script, word by word -/
def wordOf (l : List Int) : Nat := (getI l).toNat
/-- The words of bytes, eight by eight. -/
def wordsOf (l : List Int) : List Nat := if h : 8 ≤ l.length then wordOf (l.take 8) :: wordsOf (l.drop 8) else []
  termination_by l.length
  decreasing_by simp; omega
theorem wordsOf_cons {l : List Int} (h : 8 ≤ l.length) : wordsOf l = wordOf (l.take 8) :: wordsOf (l.drop 8) := by
  rw [wordsOf, dif_pos h]
theorem wordsOf_nil {l : List Int} (h : ¬ 8 ≤ l.length) : wordsOf l = [] := by
  rw [wordsOf, dif_neg h]
theorem wordOf_lt (l : List Int) : wordOf l < 18446744073709551616 := by
  have := getI_U l
  unfold wordOf
  unfold U64 at this
  omega
/-- A script's words that are left. -/
def SW (w : World) (sb : Nat) (ws : List Nat) : Prop := ∃ bs i, Scr w sb bs i ∧ wordsOf (bs.drop i) = ws
theorem SW.kb {w w' : World} {sb : Nat} {ws : List Nat} (h : SW w sb ws) (hk : Kb w w') : SW w' sb ws := by
  obtain ⟨bs, i, h1, h2⟩ := h
  exact ⟨bs, i, h1.kb hk, h2⟩
theorem SW.below {w w' : World} {sb : Nat} {ws : List Nat} (h : SW w sb ws) (hb : Below w.heap.size w w') : SW w' sb ws := h.kb (Kb.of_below hb)
/-- Eight bytes are read, or the script is spent. -/
theorem read8 (sb x : Nat) (r : List Nat) (w : World) (h : SW w sb (x :: r)) :
    Calls Tryz.prog 47 #[.pointer (some ⟨sb, 0, none⟩), .int .i64 8] w fun e w' => ∃ A c xs, e = .returned (.tuple #[.slice A 8 c, .int .i64 0]) ∧ w'.ownsRow w.heap.size 5 1 (.slice A 8 c) 8 (nums .u8 xs) ∧ xs.length = 8 ∧ wordOf xs = x ∧ (∀ j : Nat, Byt (rd xs (j : Int))) ∧ SW w' sb r ∧ But sb w w' := by
  obtain ⟨bs, i, h1, h2⟩ := h
  have h8 : 8 ≤ (bs.drop i).length := by
    by_cases h8 : 8 ≤ (bs.drop i).length
    · exact h8
    · rw [wordsOf_nil h8] at h2; cases h2
  rw [wordsOf_cons h8] at h2
  injection h2 with h2 h3
  simp only [List.length_drop] at h8
  refine (readOk sb 8 bs i w h1 (by omega) (by omega)).mono ?_
  rintro e w' ⟨v, rfl, ho, hs, hb⟩
  obtain ⟨A, c, rfl⟩ := own_slice ho
  refine ⟨A, c, (bs.drop i).take 8, rfl, ho, by simp; omega, h2, rd_sub h1.byt, ⟨bs, i + 8, hs, ?_⟩, hb⟩
  rw [← h3, List.drop_drop]
theorem read8spent (sb : Nat) (w : World) (h : SW w sb []) :
    Calls Tryz.prog 47 #[.pointer (some ⟨sb, 0, none⟩), .int .i64 8] w fun e w' => e = .returned (.tuple #[.slice none 0 0, .int .i64 150]) ∧ SW w' sb [] ∧ But sb w w' := by
  obtain ⟨bs, i, h1, h2⟩ := h
  have h8 : ¬ 8 ≤ (bs.drop i).length := fun h8 => by
    rw [wordsOf_cons h8] at h2; cases h2
  simp only [List.length_drop] at h8
  refine (readSpent sb 8 bs i w h1 (by have := h1.le; omega) (by omega)).mono ?_
  rintro e w' ⟨rfl, hs, hb⟩
  exact ⟨rfl, ⟨bs, bs.length, hs, wordsOf_nil (by simp)⟩, hb⟩
end Go.Proofs.YtjpibgehhgaopaaGreat.Top
/- The script's Below, by one word of 64 bits. -/
namespace Go.Proofs.YtjpibgehhgaopaaGreat.Top
open Go.RowKit Go.Proofs.YtjpibgehhgaopaaGreatW.PrintWords Go.Proofs.YtjpibgehhgaopaaGreatW.PrintLast Go.Proofs.YtjpibgehhgaopaaGreat.PTopGenerated
set_option linter.unusedVariables false
set_option linter.unusedSimpArgs false

theorem setCell_self {w : World} {g i : Nat} {cs : Array Value} {t : TypeId} {v : Value} (h : w.heap[g]? = some (.cells cs t (0, 0))) (hv : cs[i]? = some v) : w.setCell ⟨g, i, none⟩ v = w := by
  have h1 := heap_setCell_same w g i cs t v h
  have hcs : cs.setIfInBounds i v = cs := by
    apply Array.ext_getElem?
    intro k
    rw [Array.getElem?_setIfInBounds]
    split
    · rename_i e
      subst e
      rw [hv]
      split
      · rfl
      · rename_i hn
        exact absurd (Array.getElem?_eq_some_iff.1 hv).1 hn
    · rfl
  rw [hcs] at h1
  have hh : (w.setCell ⟨g, i, none⟩ v).heap = w.heap := by
    apply Array.ext_getElem?
    intro k
    by_cases hk : k = g
    · subst hk; rw [h1, h]
    · exact Below.heap_setCell _ _ _ _ hk
  have e : w.setCell ⟨g, i, none⟩ v = { w with heap := (w.setCell ⟨g, i, none⟩ v).heap } := rfl
  rw [e, hh]
theorem and255 {x : Int} (h : Byt x) : Go.bits .and .u8 x 255 = x := by
  obtain ⟨h1, h2⟩ := h
  obtain ⟨n, rfl⟩ := Int.eq_ofNat_of_zero_le h1
  have hn : n < 256 := by omega
  have : ∀ m : Fin 256, Go.bits .and .u8 ((m.val : Nat) : Int) 255 = ((m.val : Nat) : Int) := by decide +kernel
  exact this ⟨n, hn⟩
/-- A number below M out of words. -/
def belowW (M : Nat) : List Nat → Option (Nat × List Nat)
  | [] => none
  | x :: r => if 0 < x ∧ x < M then some (x, r) else belowW M r
/-- What Below comes to. -/
def BelowP (w : World) (sb M : Nat) (ws : List Nat) (e : Ending) (w' : World) : Prop :=
  (∃ x r v k, belowW M ws = some (x, r) ∧ e = .returned (.tuple #[v, .int .i64 k, .int .i64 0]) ∧ w'.ownsRow w.heap.size 23 1 v 1 (nums .u64 (nz [x])) ∧ SW w' sb r ∧ But sb w w') ∨
  (belowW M ws = none ∧ e = .returned (.tuple #[.slice none 0 0, .int .i64 0, .int .i64 150]) ∧ SW w' sb [] ∧ But sb w w')
theorem wordsOf_len (l : List Int) : (wordsOf l).length * 8 ≤ l.length := by
  rw [wordsOf]
  split
  · rename_i h
    have ih := wordsOf_len (l.drop 8)
    simp only [List.length_cons]
    simp only [List.length_drop] at ih
    omega
  · simp
  termination_by l.length
  decreasing_by simp; omega
theorem SW.len {w : World} {sb : Nat} {ws : List Nat} (h : SW w sb ws) : ws.length ≤ 12500 := by
  obtain ⟨bs, i, h1, rfl⟩ := h
  have h2 := wordsOf_len (bs.drop i)
  have h4 := h1.len
  have h3 : (bs.drop i).length ≤ bs.length := by simp
  omega
theorem SW.kp {w w' : World} {sb : Nat} {ws : List Nat} (h : SW w sb ws) (hb : But sb w w') : Kp w w' := by
  obtain ⟨bs, i, h1, _⟩ := h
  obtain ⟨A, c, h2, _⟩ := h1.has
  exact hb.kp (fun cur e => by rw [h2] at e; injection e with e; injection e with _ e; exact absurd e (by decide))
set_option maxHeartbeats 2000000 in
set_option maxRecDepth 100000 in
theorem belowS (sb M : Nat) (ws : List Nat) (A : Option Addr) (c : Nat) (w : World) (h : SW w sb ws) (hM : Num w A c [M]) (h64 : bl M = 64) :
    Calls Tryz.prog 27 #[.pointer (some ⟨sb, 0, none⟩), .slice A 1 c] w (BelowP w sb M ws) := by
  have H := Aside0.mk (And.intro h hM)
  have HL := Aside0.mk h.len
  have HB := Aside0.mk (bitsN A c [M] w hM (by simp))
  rw [val_one, h64] at HB
  clear h hM h64
  go_enter Tryz.func27, Tryz.ntmps27
  go_wp2_with fail
  refine HB.out.mono ?_
  rintro e w' ⟨rfl, rfl⟩
  go_wp2_with fail
  go_loopg [8] ws.length (fun n v8 wr => ∃ (k : Nat) (ws' : List Nat), v8 = .int .i64 (k : Int) ∧ Aside0 (n = ws'.length ∧ k + ws'.length ≤ 20000) ∧ Aside0 (SW wr sb ws' ∧ But sb w' wr ∧ belowW M ws' = belowW M ws))
  case atStart => exact ⟨1, ws, rfl, ⟨rfl, by have := HL.out; omega⟩, ⟨H.out.1, But.of_below (Below.refl _ _), rfl⟩⟩
  case round =>
    obtain ⟨k, ws', rfl, HK, HS⟩ := hrel
    rcases ws' with _ | ⟨x, r⟩
    · have HR := Aside0.mk (read8spent sb wr HS.out.1)
      go_wp2_with fail
      refine HR.out.mono ?_
      rintro e w2 ⟨rfl, hs, hb⟩
      have HE := Aside0.mk (And.intro hs (HS.out.2.1.trans hb))
      clear hs hb
      go_wp2_with fail
      go_ret3
      exact .inr ⟨by rw [← HS.out.2.2]; rfl, rfl, HE.out.1, HE.out.2⟩
    · have HR := Aside0.mk (read8 sb x r wr HS.out.1)
      go_wp2_with fail
      refine HR.out.mono ?_
      rintro e w2 ⟨A2, c2, xs, rfl, ho, hxl, hx, hby, hs, hb⟩
      obtain ⟨g, cap, e', _⟩ := ho.form (by omega)
      injection e' with e1 e2 e3
      subst e1
      subst e3
      obtain ⟨q1, q2⟩ := own_at ho 0 (by omega) (by omega)
      have a0 := and255 (hby 0)
      rw [show ((0 : Nat) : Int) = 0 from rfl] at a0
      have hself : w2.setCell ⟨g, 0, none⟩ (.int .u8 (rd xs 0)) = w2 := by
        rcases ho.2 with ⟨h1, _⟩ | ⟨g', cap', cur, h1, _, hg, _⟩
        · cases h1
        · injection h1 with h1
          injection h1 with h1
          injection h1 with h1
          subst h1
          exact setCell_self hg ((blk_cell hg 0).symm.trans q1)
      have HOf := Aside0.mk (fun W (hb : Below w2.heap.size w2 W) => ofN (some ⟨g, 0, none⟩) c2 xs W (by rw [hxl]; exact (own_reads' ho).below hb) (by omega) (by omega) (by rw [hxl]; exact own_cap ho) hby)
      rw [hxl, show (getI xs).toNat = x from hx] at HOf
      have hxw : x < 18446744073709551616 := hx ▸ wordOf_lt xs
      have HE := Aside0.mk (And.intro hs (And.intro hb hxw))
      have hM0 : M < 18446744073709551616 := H.out.2.w64 M (by simp)
      have HBW := Aside0.mk (show belowW M (x :: r) = if 0 < x ∧ x < M then some (x, r) else belowW M r from rfl)
      generalize rd xs 0 = b0 at *
      rw [Int.toNat_zero] at q1 q2
      clear ho hxl hx hby hs hb
      go_wp2_with fail
      go_region
      go_wp2_with fail
      refine (HOf.out _ (pw_below_drewN (Below.refl _ _) 1)).mono ?_
      rintro e w5 ⟨v5, rfl, hr5⟩
      obtain ⟨A5, c5, rfl, hn5⟩ := hr5.num
      have hbw : But sb w' w5 := ((HS.out.2.1.trans HE.out.2.1).trans (But.of_below (pw_below_drewN (Below.refl _ _) 1))).trans (But.of_below hr5.bel)
      have hsw : SW w5 sb r := (HE.out.1.below (pw_below_drewN (Below.refl _ _) 1)).below hr5.bel
      have hown := own_weaken hr5.own (show w'.heap.size ≤ (w2.drewN 1).heap.size from Nat.le_trans (HS.out.2.1.trans HE.out.2.1).size (Nat.le_refl _))
      have H5 := Aside0.mk (And.intro hbw (And.intro hsw (And.intro hown (And.intro hn5 (H.out.2.kp (H.out.1.kp hbw))))))
      have HBx := Aside0.mk (bitsN A5 c5 [x] w5 hn5 (by simp))
      rw [val_one] at HBx
      have HCx := Aside0.mk (compareN A5 A c5 c [x] [M] w5 H5.out.2.2.2.1 H5.out.2.2.2.2 (by simp) (by simp))
      simp only [val_one, List.length_singleton] at HCx
      have w9 : wrap64 ((k : Int) + 1) = ((k + 1 : Nat) : Int) := wrap64_id (by have := HK.out.2; omega) (by have := HK.out.2; omega)
      have HK2 := Aside0.mk (show r.length < gk ∧ k + 1 + r.length ≤ 20000 by have := HK.out; simp at this; omega)
      clear hr5 hn5 hbw hsw hown hself q1 q2 a0 HOf
      by_cases hx0 : x = 0
      · have t1 : decide ((bl x : Int) > 0) = false := by rw [hx0]; decide
        have t1' : decide (0 < bl x) = false := by rw [hx0]; decide
        have HB2 := Aside0.mk (show belowW M r = belowW M ws by rw [← HS.out.2.2, HBW.out, if_neg (by omega)])
        generalize bl x = bx at *
        clear hx0
        go_wp2_with fail
        refine HBx.out.mono ?_
        rintro e w' ⟨rfl, rfl⟩
        go_wp2_with fail
        go_roundg (r.length)
        case rel => exact ⟨k + 1, r, by first | rfl | exact congrArg (Value.int .i64) w9, ⟨rfl, HK2.out.2⟩, ⟨H5.out.2.1, H5.out.1, HB2.out⟩⟩
        case measure => exact HK2.out.1
      · have t1 : decide ((bl x : Int) > 0) = true := bl_pos_ hx0
        have t1' : decide (0 < bl x) = true := decide_eq_true (bl_pos.2 hx0)
        by_cases hlt : x < M
        · have t2 : decide (cmpI x M < 0) = true := by unfold cmpI; rw [if_pos hlt]; decide
          have HB2 := Aside0.mk (show belowW M ws = some (x, r) by rw [← HS.out.2.2, HBW.out, if_pos ⟨by omega, hlt⟩])
          generalize bl x = bx at *
          generalize cmpI x M = cx at *
          clear hx0 hlt
          go_wp2_with fail
          refine HBx.out.mono ?_
          rintro e w' ⟨rfl, rfl⟩
          go_wp2_with fail
          refine HCx.out.mono ?_
          rintro e w' ⟨rfl, rfl⟩
          go_wp2_with fail
          go_ret3
          exact .inl ⟨x, r, _, _, HB2.out, rfl, H5.out.2.2.1, H5.out.2.1, H5.out.1⟩
        · have t2 : decide (cmpI x M < 0) = false := by unfold cmpI; rw [if_neg hlt]; split <;> decide
          have HB2 := Aside0.mk (show belowW M r = belowW M ws by rw [← HS.out.2.2, HBW.out, if_neg (fun h => hlt h.2)])
          generalize bl x = bx at *
          generalize cmpI x M = cx at *
          clear hx0 hlt
          go_wp2_with fail
          refine HBx.out.mono ?_
          rintro e w' ⟨rfl, rfl⟩
          go_wp2_with fail
          refine HCx.out.mono ?_
          rintro e w' ⟨rfl, rfl⟩
          go_wp2_with fail
          go_roundg (r.length)
          case rel => exact ⟨k + 1, r, by first | rfl | exact congrArg (Value.int .i64) w9, ⟨rfl, HK2.out.2⟩, ⟨H5.out.2.1, H5.out.1, HB2.out⟩⟩
          case measure => exact HK2.out.1
end Go.Proofs.YtjpibgehhgaopaaGreat.Top
/- miller's of, by one word. -/
namespace Go.Proofs.YtjpibgehhgaopaaGreat.Top
open Go.RowKit Go.Proofs.YtjpibgehhgaopaaGreatW.PrintWords Go.Proofs.YtjpibgehhgaopaaGreatW.PrintLast Go.Proofs.YtjpibgehhgaopaaGreat.PTopGenerated
set_option linter.unusedVariables false
set_option linter.unusedSimpArgs false

set_option maxRecDepth 100000 in
theorem mustI (e : Int) (w : World) : Calls Tryz.prog 26 #[.bool true, .int .i64 e] w fun x w' => x = .returned (.tuple #[]) ∧ w' = w := by
  go_enter Tryz.func26, Tryz.ntmps26
  go_wp2_with fail
  go_end0
  exact ⟨rfl, rfl⟩
set_option maxRecDepth 100000 in
theorem mustIbad (e : Int) (w : World) : Calls Tryz.prog 26 #[.bool false, .int .i64 e] w fun x w' => x = .panicked [{ v := .iface 99 (.agg #[.int .i64 e]), recovered := false }] ∧ w' = w := by
  go_enter Tryz.func26, Tryz.ntmps26
  go_wp2_with fail
  exact ⟨rfl, rfl, rfl⟩
/-- The odd part of a number, and how many halvings. -/
def oddP (d s : Nat) : Nat × Nat := if h : d % 2 = 0 ∧ 0 < d then oddP (d / 2) (s + 1) else (d, s)
  termination_by d
  decreasing_by omega
theorem oddP_even {d : Nat} (h : d % 2 = 0) (h0 : 0 < d) (s : Nat) : oddP d s = oddP (d / 2) (s + 1) := by
  rw [oddP, dif_pos ⟨h, h0⟩]
theorem oddP_odd {d : Nat} (h : d % 2 = 1) (s : Nat) : oddP d s = (d, s) := by
  rw [oddP, dif_neg (by omega)]
theorem Res.store1 {w w' : World} {g c x y : Nat} (h : Res w w' (.slice (some ⟨g, 0, none⟩) 1 c) [x]) (hy : y < 18446744073709551616) : Res w (w'.setCell ⟨g, 0, none⟩ (.int .u64 (y : Int))) (.slice (some ⟨g, 0, none⟩) 1 c) [y] := by
  have hs := (own_store h.own 0 (y : Int)).1
  refine ⟨hs, W64_one hy, h.bel.setCell ?_ _⟩
  exact own_base h.own g rfl
/-- A tested number's cells. -/
structure TesC (W : World) (cs : Array Value) (M : Nat) : Prop where
  has : ∃ A1 c1 A2 c2 A3 c3 A4 c4, cs = #[.slice A1 1 c1, .int .u64 (KI M), .slice A2 1 c2, .slice A3 1 c3, .slice A4 1 c4, .int .i64 ((oddP (M - 1) 0).2 : Int)] ∧
    Num W A1 c1 [M] ∧ Num W A2 c2 [18446744073709551616 ^ 2 % M] ∧ Num W A3 c3 [M - 1] ∧ Num W A4 c4 [(oddP (M - 1) 0).1]
theorem size75 : (Tryz.prog.info? 75).map (·.size) = some 6 := by kernel_rfl
theorem size73 : (Tryz.prog.info? 73).map (·.size) = some 3 := by kernel_rfl
theorem six_one (a0 : Value) (a1 : Int) (a2 a3 a4 : Value) (a5 : Int) (h0 : a0.oneCell' = true) (h2 : a2.oneCell' = true) (h3 : a3.oneCell' = true) (h4 : a4.oneCell' = true) : (#[a0, .int .u64 a1, a2, a3, a4, .int .i64 a5] : Array Value).all (·.oneCell') = true := by
  simp [h0, h2, h3, h4]
  exact ⟨rfl, rfl⟩
set_option maxHeartbeats 2000000 in
set_option maxRecDepth 100000 in
theorem ofI (A : Option Addr) (c M : Nat) (w : World) (h : Num w A c [M]) (ho : M % 2 = 1) (h3 : 3 < M) :
    Calls Tryz.prog 25 #[.slice A 1 c] w fun e w' => ∃ cs, e = .returned (.agg cs) ∧ TesC w' cs M ∧ Below w.heap.size w w' := by
  have hMw := h.w64 M (by simp)
  have HF0 := Aside0.mk ((Fr.nil w).alloc (.cells #[.slice none 0 0, .int .u64 0, .slice none 0 0, .slice none 0 0, .slice none 0 0, .int .i64 0] 75))
  simp only [List.nil_append] at HF0
  have H := Aside0.mk h
  have HB := Aside0.mk (bitsN A c [M] _ (h.fr HF0.out) (by simp))
  rw [val_one] at HB
  have hbl := bl_le64 hMw
  have hb1 := bl_pos.2 (show M ≠ 0 by omega)
  have HSe := Aside0.mk (setupN A c M _ (h.fr HF0.out) ho (by omega))
  have t3 : decide ((M : Int) > 3) = true := by rw [decide_eq_true_eq]; omega
  have tw : wrap64 (((bl M : Nat) : Int) + 63) = ((bl M : Nat) : Int) + 63 := wrap64_id (by omega) (by omega)
  have tb : decide ((((bl M : Nat) : Int) + 63) / 64 ≤ 130) = true := by rw [decide_eq_true_eq]; omega
  generalize bl M = bm at *
  clear h
  go_enter Tryz.func25, Tryz.ntmps25
  go_wp2_with fail
  refine HB.out.mono ?_
  rintro e w' ⟨rfl, rfl⟩
  go_wp2_with fail
  refine (mustI _ _).mono ?_
  rintro e w' ⟨rfl, rfl⟩
  go_wp2_with fail
  refine HSe.out.mono ?_
  rintro e w1 ⟨v1, rfl, ⟨A1, c1, A2, c2, rfl, hm1, hm2⟩, hb⟩
  obtain ⟨kk, hkk⟩ : ∃ kk, kk = KI M := ⟨_, rfl⟩
  obtain ⟨rr, hrr⟩ : ∃ rr, rr = 18446744073709551616 ^ 2 % M := ⟨_, rfl⟩
  rw [← hrr] at hm2
  have HRR := Aside0.mk hrr
  clear hrr
  have HF1 := Aside0.mk ((HF0.out.mv hb).alloc (.cells #[.slice A1 1 c1, .int .u64 kk, .slice A2 1 c2] 73))
  simp only [List.nil_append, List.cons_append] at HF1
  have hb2 := below_alloc (Below.refl _ w1) (.cells #[.slice A1 1 c1, .int .u64 kk, .slice A2 1 c2] 73)
  have HN1 := Aside0.mk (((NL.nil _).snoc (hm1.below hb2)).snoc (hm2.below hb2))
  simp only [List.nil_append, List.cons_append] at HN1
  obtain ⟨ad, rfl, hc⟩ := (hm1.below hb2).one
  have k0 := HF1.out.cell 1 rfl 0 rfl
  have m0 := hc _ (Below.refl _ _)
  rw [← hkk]
  have HKK := Aside0.mk hkk
  clear hb hm1 hm2 hb2 hc hkk HSe HB
  go_wp2_with fail
  refine (mustI _ _).mono ?_
  rintro e w' ⟨rfl, rfl⟩
  go_wp2_with fail
  refine (cloneN (some ad) c1 [M] _ (HN1.out.at 0 rfl) (by simp)).mono ?_
  rintro e w3 ⟨v3, rfl, hr3⟩
  obtain ⟨g, cap, rfl, _⟩ := hr3.own.form (by simp)
  obtain ⟨q1, q2⟩ := own_at hr3.own 0 (by omega) (by simp)
  rw [Int.toNat_zero] at q1 q2
  rw [show rd (nz [M]) 0 = (M : Int) from rfl] at q1
  obtain ⟨L, hL⟩ : ∃ L, L = M - 1 := ⟨_, rfl⟩
  have hM1 : L < 18446744073709551616 := by omega
  have hs3 := hr3.store1 hM1
  obtain ⟨A3, c3, e3, hn3⟩ := hs3.num
  injection e3 with e3 e5 e4
  clear e5
  subst e3
  subst e4
  have HF3 := Aside0.mk ((HF1.out.mv hs3.bel).alloc (.cells #[.slice (some ad) 1 c1, .int .u64 kk, .slice A2 1 c2, .slice (some ⟨g, 0, none⟩) 1 cap, .slice (some ⟨g, 0, none⟩) 1 cap, .int .i64 0] 75))
  have hb4 := below_alloc (Below.refl _ (w3.setCell ⟨g, 0, none⟩ (.int .u64 (L : Int)))) (.cells #[.slice (some ad) 1 c1, .int .u64 kk, .slice A2 1 c2, .slice (some ⟨g, 0, none⟩) 1 cap, .slice (some ⟨g, 0, none⟩) 1 cap, .int .i64 0] 75)
  have HN3 := Aside0.mk (((HN1.out.below hs3.bel).snoc hn3).below hb4)
  have hsz : (w3.setCell ⟨g, 0, none⟩ (.int .u64 (L : Int))).heap.size = w3.heap.size := by simp
  rw [hsz] at HF3
  simp only [List.nil_append, List.cons_append] at HF3 HN3
  obtain ⟨j0, j1, j2⟩ := (HF1.out.mv hs3.bel).mo 1 rfl
  have wp := u64_pred (show 1 ≤ M by omega) hMw
  rw [← hL] at wp
  have HM1 := Aside0.mk (show 0 < L ∧ L < 18446744073709551616 ∧ L = M - 1 by omega)
  clear hr3 hs3 hn3 hb4 HF1 HN1 hM1 HF0 hL hsz
  go_wp2_with fail
  clear j0 j1 j2 q1 q2 wp k0 m0
  obtain ⟨b2, hb2⟩ : ∃ b2, b2 = w.heap.size := ⟨_, rfl⟩
  obtain ⟨b3, hb3⟩ : ∃ b3, b3 = w1.heap.size := ⟨_, rfl⟩
  obtain ⟨b6, hb6⟩ : ∃ b6, b6 = w3.heap.size := ⟨_, rfl⟩
  obtain ⟨W4, hW4⟩ : ∃ W4, W4 = (w3.setCell ⟨g, 0, none⟩ (.int .u64 (L : Int))).alloc (.cells #[.slice (some ad) 1 c1, .int .u64 kk, .slice A2 1 c2, .slice (some ⟨g, 0, none⟩) 1 cap, .slice (some ⟨g, 0, none⟩) 1 cap, .int .i64 0] 75) := ⟨_, rfl⟩
  rw [← hb2, ← hb3, ← hb6, ← hW4] at HF3
  rw [← hW4] at HN3
  rw [← hb2, ← hb3, ← hb6, ← hW4]
  clear hb2 hb3 hb6 hW4
  go_loopg [] L (fun n wr => ∃ A4 c4 s, Aside0 (Fr w wr [(b2, .cells #[.slice none 0 0, .int .u64 0, .slice none 0 0, .slice none 0 0, .slice none 0 0, .int .i64 0] 75), (b3, .cells #[.slice (some ad) 1 c1, .int .u64 kk, .slice A2 1 c2] 73), (b6, .cells #[.slice (some ad) 1 c1, .int .u64 kk, .slice A2 1 c2, .slice (some ⟨g, 0, none⟩) 1 cap, .slice A4 1 c4, .int .i64 ((s : Nat) : Int)] 75)]) ∧
    Aside0 (NL wr [(some ad, c1, [M]), (A2, c2, [rr]), (some ⟨g, 0, none⟩, cap, [L]), (A4, c4, [n])]) ∧ Aside0 (0 < n ∧ n * 2 ^ s ≤ L ∧ oddP n s = oddP L 0))
  case atStart => exact ⟨_, _, 0, HF3, ⟨HN3.out.snoc (HN3.out.at 2 rfl)⟩, ⟨HM1.out.1, by simp, rfl⟩⟩
  case round =>
    clear HF3 HN3
    obtain ⟨A4, c4, s, HF, HN, HO⟩ := hrel
    have x4 := HF.out.cell 2 rfl 4 rfl
    have HBt := Aside0.mk (bitN A4 c4 [gk] 0 wr (HN.out.at 3 rfl) (by omega))
    rw [show ([gk].getD (0 / 64) 0 / 2 ^ (0 % 64) % 2 : Nat) = gk % 2 by simp [List.getD]] at HBt
    by_cases he : gk % 2 = 0
    · have te : (((gk % 2 : Nat) : Int) == 0) = true := by rw [he]; rfl
      have hs63 : s ≤ 63 := by
        have h1 := HO.out.2.1
        have h2 : 1 * 2 ^ s ≤ gk * 2 ^ s := Nat.mul_le_mul_right _ HO.out.1
        have h3 : 2 ^ s < 2 ^ 64 := by
          have := HM1.out.2.1
          rw [show (2 : Nat) ^ 64 = 18446744073709551616 by decide]
          omega
        have := (Nat.pow_lt_pow_iff_right (a := 2) (by omega)).1 h3
        omega
      have hO2 : 0 < gk / 2 ∧ gk / 2 * 2 ^ (s + 1) ≤ L ∧ oddP (gk / 2) (s + 1) = oddP L 0 := by
        refine ⟨by have := HO.out.1; omega, ?_, ?_⟩
        · rw [Nat.pow_succ, Nat.mul_comm (2 ^ s) 2, ← Nat.mul_assoc, show gk / 2 * 2 = gk by omega]
          exact HO.out.2.1
        · rw [← oddP_even he HO.out.1]; exact HO.out.2.2
      have HO2 := Aside0.mk (And.intro hO2 (show gk / 2 < gk by have := HO.out.1; omega))
      have HR := Aside0.mk (fun W h => right1 A4 c4 gk W h)
      obtain ⟨par, hpar⟩ : ∃ par, par = gk % 2 := ⟨_, rfl⟩
      rw [← hpar] at te HBt
      generalize gk / 2 = hk at *
      have ws : wrap64 ((s : Int) + 1) = ((s + 1 : Nat) : Int) := wrap64_id (by omega) (by omega)
      clear hO2 he hpar
      go_wp2_with fail
      refine HBt.out.mono ?_
      rintro e w' ⟨rfl, rfl⟩
      go_wp2_with fail
      refine (HR.out _ (HN.out.at 3 rfl)).mono ?_
      rintro e w5 ⟨v5, rfl, hr5⟩
      obtain ⟨A5, c5, rfl, hn5⟩ := hr5.num
      have HF5 := Aside0.mk (HF.out.mv hr5.bel)
      have y4 := HF5.out.cell 2 rfl 4 rfl
      have f4 := HF5.out.frozen 2 rfl 4
      have HF6 := Aside0.mk (HF5.out.set_ 2 rfl 4 (.slice A5 1 c5))
      have y5 := HF6.out.cell 2 rfl 5 rfl
      have f5 := HF6.out.frozen 2 rfl 5
      have HF7 := Aside0.mk (HF6.out.set_ 2 rfl 5 (.int .i64 ((s + 1 : Nat) : Int)))
      have HN7 := Aside0.mk ((((HN.out.below hr5.bel).snoc hn5).kp (HF5.out.kp_set 2 rfl (by decide) 4 (.slice A5 1 c5))).kp (HF6.out.kp_set 2 rfl (by decide) 5 (.int .i64 ((s + 1 : Nat) : Int))))
      clear hr5 hn5
      go_wp2_with fail
      go_roundg hk
      case rel =>
        refine ⟨A5, c5, s + 1, ⟨?_⟩, ⟨?_⟩, ⟨HO2.out.1⟩⟩
        · exact HF7.out
        · exact (((NL.nil _).snoc (HN7.out.at 0 rfl)).snoc (HN7.out.at 1 rfl)).snoc (HN7.out.at 2 rfl) |>.snoc (HN7.out.at 4 rfl)
      case measure => exact HO2.out.2
    · have te : (((gk % 2 : Nat) : Int) == 0) = false := by simp; omega
      have HOD := Aside0.mk (show oddP L 0 = (gk, s) by rw [← HO.out.2.2, oddP_odd (by omega)])
      generalize gk % 2 = par at *
      clear he
      go_wp2_with fail
      refine HBt.out.mono ?_
      rintro e w' ⟨rfl, rfl⟩
      go_wp2_with (first | (refine wpList_load_row rfl 75 (.tmp 6) rfl b6 rfl 75 _ (0, 0) _ (HF.out.at 2 rfl) Tryz.underlying75 rfl size75 ?_; have tokL : True := trivial) | (refine wpList_store_row rfl 75 (.tmp 2) (.tmp 61) rfl b2 _ rfl rfl 75 _ (HF.out.at 0 rfl) size75 rfl (six_one _ _ _ _ _ _ rfl rfl rfl rfl) ?_))
      have hold := HF.out.at 0 rfl
      have hrow := setRow_heap _ b2 _ #[.slice (some ad) 1 c1, .int .u64 kk, .slice A2 1 c2, .slice (some ⟨g, 0, none⟩) 1 cap, .slice A4 1 c4, .int .i64 ((s : Nat) : Int)] 75 (0, 0) hold
      have hN := HN.out.kp (Kp.row hold (by decide) #[.slice (some ad) 1 c1, .int .u64 kk, .slice A2 1 c2, .slice (some ⟨g, 0, none⟩) 1 cap, .slice A4 1 c4, .int .i64 ((s : Nat) : Int)])
      have hF := HF.out.row 0 rfl #[.slice (some ad) 1 c1, .int .u64 kk, .slice A2 1 c2, .slice (some ⟨g, 0, none⟩) 1 cap, .slice A4 1 c4, .int .i64 ((s : Nat) : Int)]
      refine bodyPost_ret (v := .agg #[.slice (some ad) 1 c1, .int .u64 kk, .slice A2 1 c2, .slice (some ⟨g, 0, none⟩) 1 cap, .slice A4 1 c4, .int .i64 ((s : Nat) : Int)]) (results_cell_row rfl _ _ b2 75 _ (0, 0) _ rfl hrow Tryz.underlying75 rfl size75) rfl ?_
      refine ⟨_, rfl, ⟨⟨some ad, c1, A2, c2, some ⟨g, 0, none⟩, cap, A4, c4, ?_, hN.at 0 rfl, ?_, ?_, ?_⟩⟩, hF.bel⟩
      · rw [HKK.out, ← HM1.out.2.2, HOD.out]
      · have := hN.at 1 rfl
        rwa [HRR.out] at this
      · rw [← HM1.out.2.2]; exact hN.at 2 rfl
      · rw [← HM1.out.2.2, HOD.out]; exact hN.at 3 rfl
end Go.Proofs.YtjpibgehhgaopaaGreat.Top
