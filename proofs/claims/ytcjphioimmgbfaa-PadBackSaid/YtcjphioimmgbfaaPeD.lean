/- The script's Filled: bytes other than nought, as many as were asked for; or the script is spent. -/
import Derived.Test.YtcjphioimmgbfaaPeC
namespace Go.Proofs.Ytcjphioimmgbfaa.Tra
open Go.RowKit Go.Shelf Go.Proofs.YtcjphioimmgbfaaW.PrintWords Go.Proofs.YtcjphioimmgbfaaW.PrintLast Go.Proofs.YtcjphioimmgbfaaW.PrintMore Go.Proofs.Ytcjphioimmgbfaa.PTraceActs Go.Proofs.Ytcjphioimmgbfaa.Rf
attribute [local go_sem] Oper.semAt_some
set_option linter.unusedVariables false
set_option linter.unusedSimpArgs false

/-- How a round of Filled ends: it goes on, or both results are written. -/
def FlR (w : World) (s sb : Nat) (A : Option Addr) (c : Nat) (bs : List Int) (n base : Nat) (rec : LoopState → Option Code → Loop) (p : Nat) (b : Bool) (W : World) : Prop :=
  (b = true → ∃ v xs, Fl w s sb A c bs n base (rec .ready none) (.slice none 0 0) 0 p v xs W ∧ xs.length < n) ∧
  (b = false → ∃ v xs, Fl w s sb A c bs n base (rec .done (some .ret)) v 0 p v xs W ∧ xs.length = n)

theorem fill_start (sb : Nat) (A : Option Addr) (c : Nat) (bs : List Int) (n base : Nat) (w : World) (s : Nat) (wl : World) (hs : s = w.heap.size)
    (hwl : wl = (((((w.alloc (.cells #[.int .i64 (n : Int)] 3)).alloc (.cells #[.slice none 0 0] 42)).alloc (.cells #[.int .i64 0] 44)).alloc (.cells #[.slice none 0 0] 42)).alloc (.cells #[.pointer (some ⟨sb, 0, none⟩)] 58)))
    (hb : w.heap[sb]? = some (scB A bs.length c 0)) (hO : w.ownsRow base 5 1 (.slice A bs.length c) bs.length (nums .u8 bs)) (r : Loop) :
    Fl w s sb A c bs n base r (.slice none 0 0) 0 0 (.slice none 0 0) [] ((wl.alloc (.deferred (some []))).alloc (.loop r)) := by
  have hlt := blk_lt hb
  have e0 : ∀ (W : World) (k : Nat) (o : Obj), W.heap.size = k → (W.alloc o).heap[k]? = some o := fun W k o h => by rw [← h]; exact blk_new W o
  subst hwl
  refine ⟨hs, ?_, ?_, ?_, ?_, ?_, ?_, ?_, ?_, own_nil _ _ _ _, ?_, fun k hk => by rw [hs]; exact own_lt hO k hk, ?_, by omega, fun x hx => by simp at hx⟩
  · exact blk_alloc (blk_alloc (blk_alloc (blk_alloc (blk_alloc (blk_alloc (e0 w s _ hs.symm) _) _) _) _) _) _
  · exact blk_alloc (blk_alloc (blk_alloc (blk_alloc (blk_alloc (e0 _ (s + 1) _ (by simp [hs])) _) _) _) _) _
  · exact blk_alloc (blk_alloc (blk_alloc (blk_alloc (e0 _ (s + 1 + 1) _ (by simp [hs])) _) _) _) _
  · exact blk_alloc (blk_alloc (blk_alloc (e0 _ (s + 1 + 1 + 1) _ (by simp [hs])) _) _) _
  · exact blk_alloc (blk_alloc (e0 _ (s + 1 + 1 + 1 + 1) _ (by simp [hs])) _) _
  · exact blk_alloc (e0 _ (s + 1 + 1 + 1 + 1 + 1) _ (by simp [hs])) _
  · exact e0 _ (s + 1 + 1 + 1 + 1 + 1 + 1) _ (by simp [hs])
  · exact blk_alloc (blk_alloc (blk_alloc (blk_alloc (blk_alloc (blk_alloc (blk_alloc hb _) _) _) _) _) _) _
  · exact own_alloc (own_alloc (own_alloc (own_alloc (own_alloc (own_alloc (own_alloc hO _) _) _) _) _) _) _
  · exact OnlyT.of_below (((((((Below.refl w.heap.size w).alloc (Nat.le_refl _) _).alloc (by simp) _).alloc (by simp; omega) _).alloc (by simp; omega) _).alloc (by simp; omega) _).alloc (by simp; omega) _ |>.alloc (by simp; omega) _) _ _

set_option maxHeartbeats 2000000 in
set_option maxRecDepth 100000 in
theorem filledS (sb : Nat) (A : Option Addr) (c : Nat) (bs : List Int) (n base : Nat) (w : World) (hb : w.heap[sb]? = some (scB A bs.length c 0)) (hO : w.ownsRow base 5 1 (.slice A bs.length c) bs.length (nums .u8 bs)) (hby : ∀ i, Byte (rd bs i)) (hn1 : 1 ≤ n) (hn : n ≤ 100000) (hl : bs.length ≤ 1000000) :
    Calls Try.prog 42 #[.pointer (some ⟨sb, 0, none⟩), .int .i64 (n : Int)] w fun e w' => ((∃ v xs, e = .returned (.tuple #[v, .int .i64 0]) ∧ Aside0 (xs.length = n ∧ FillOk xs) ∧ Aside0 (w'.ownsRow w.heap.size 5 1 v n (nums .u8 xs))) ∨ e = .returned (.tuple #[.slice none 0 0, .int .i64 150])) ∧ Aside0 (OnlyT w w' (some sb) none) := by
  have HB := Aside0.mk (And.intro hb hO)
  have HY := Aside0.mk (And.intro hby hl)
  obtain ⟨i0, hi, hz0, hz1, hz2⟩ := info_parts info5'
  have h1 : decide ((n : Int) < 0) = false := by simp
  have h2 : ((n : Int) == 0) = false := by simp; omega
  clear hb hO hby hl
  refine (callsIn_wide (n := 3)).1 ?_
  refine callsIn_of_wp_marks Try.func42 rfl trivial ?_ rfl
  simp only [Try.ntmps42, List.size_toArray, List.length_cons, List.length_nil, Nat.reduceAdd, Nat.reduceSub, Array.replicate_succ, Array.replicate_zero, List.push_toArray, List.append_toArray, List.nil_append, List.cons_append]
  gi_wp2_with fail
  refine ⟨trivial, ?_⟩
  refine (callsIn_wide.2 (eachS _ _)).mono ?_
  rintro e w' ⟨rfl, rfl⟩
  gi_wp2_with fail
  obtain ⟨s, hs⟩ : ∃ s, s = w.heap.size := ⟨_, rfl⟩
  rw [← hs]
  have HS := Aside0.mk hs
  obtain ⟨wl, hwl⟩ : ∃ wl, wl = (((((w.alloc (.cells #[.int .i64 (n : Int)] 3)).alloc (.cells #[.slice none 0 0] 42)).alloc (.cells #[.int .i64 0] 44)).alloc (.cells #[.slice none 0 0] 42)).alloc (.cells #[.pointer (some ⟨sb, 0, none⟩)] 58)) := ⟨_, rfl⟩
  rw [← hwl]
  have hsz : wl.heap.size = s + 1 + 1 + 1 + 1 + 1 := by rw [hwl, hs]; simp
  have H0 := Aside0.mk (fill_start sb A c bs n base w s wl hs hwl HB.out.1 HB.out.2)
  clear hwl hs
  refine wp_rangeFunc (gf := 49) (lb := #[.pointer (some ⟨s + 1 + 1 + 1 + 1, 0, none⟩)]) rfl (enters_of Try.func49 (by kernel_rfl) rfl)
    (fun W => ∃ r p v xs, Fl w s sb A c bs n base r (.slice none 0 0) 0 p v xs W)
    (fun k W => k = .ret ∧ ∃ r p v xs, Fl w s sb A c bs n base r v 0 p v xs W ∧ xs.length = n) ?call ?done ?stop
  case call =>
    intro fn rec hrec
    rw [hsz]
    refine (each1_in 2 (s + 1 + 1 + 1 + 1 + 1 + 1) (s + 1 + 1 + 1 + 1) sb A c bs HY.out.2
      (fun p W => ∃ v xs, Fl w s sb A c bs n base (rec .ready none) (.slice none 0 0) 0 p v xs W ∧ xs.length < n)
      (fun p W => ∃ v xs, Fl w s sb A c bs n base (rec .ready none) (.slice none 0 0) 0 (p + 1) v xs W ∧ xs.length < n)
      (fun W => ∃ p v xs, Fl w s sb A c bs n base (rec .done (some .ret)) v 0 p v xs W ∧ xs.length = n) ?_ ?_ ?_ ?_ ?_ _ ?_).mono ?_
    · rintro p W ⟨v, xs, h, _⟩
      exact h.it
    · rintro p W k ⟨v, xs, h, hx⟩
      exact ⟨v, xs, h.drewN k, hx⟩
    · rintro p W ⟨v, xs, h, hx⟩ _
      exact ⟨v, xs, h.place (p + 1), hx⟩
    · rintro p W k ⟨v, xs, h, hx⟩
      exact ⟨v, xs, h.drewN k, hx⟩
    · rintro p W m ⟨v, xs, h, hx⟩ hlt
      have HF0 := Aside0.mk h
      have hxb := HY.out.1 (p : Int)
      obtain ⟨x, hxe⟩ : ∃ x, x = rd bs (p : Int) := ⟨_, rfl⟩
      rw [← hxe] at hxb ⊢
      clear h hxe
      refine yield_at hrec HF0.out.ll rfl ?_
      gi_wp2_with fail
      refine ⟨HF0.out.ll, ?_⟩
      have HF := Aside0.mk (HF0.out.turn (rec .busy none))
      obtain ⟨Wb, hWb⟩ : ∃ Wb, Wb = W.putObj (s + 1 + 1 + 1 + 1 + 1 + 1) (.loop (rec .busy none)) := ⟨_, rfl⟩
      rw [← hWb] at HF ⊢
      clear hWb HF0
      obtain ⟨A1, c1, hv⟩ := own_slice HF.out.row
      subst hv
      have g6 : Wb.cell? ⟨s + 1 + 1 + 1, 0, none⟩ = some (.slice A1 xs.length c1) := blk_cell HF.out.b6 0
      have g3 : Wb.cell? ⟨s, 0, none⟩ = some (.int .i64 (n : Int)) := blk_cell HF.out.b3 0
      by_cases hx0 : x = 0
      · have t1 : (x != 0) = false := by simp [hx0]
        have t2 : ((xs.length : Int) == (n : Int)) = false := by simp; omega
        clear hx0
        gi_wp2_with fail
        exact ⟨HF.out.ll, true, rfl, fun _ => ⟨_, xs, HF.out.turn _, hx⟩, fun h => by cases h⟩
      · have t1 : (x != 0) = true := by simp [hx0]
        have HX := Aside0.mk (And.intro hx0 hxb)
        clear hx0 hxb
        by_cases hen : xs.length + 1 = n
        · have t2 : (((xs.length + 1 : Nat) : Int) == (n : Int)) = true := by simp; omega
          have t3 : (((xs.length : Nat) : Int) + 1 == (n : Int)) = true := by simp; omega
          gi_wp2_with (gi_at_builtin; refine wpListIn_append_own _ rfl _ _ 42 rfl s 5 i0 (.int .u8 0) 1 1 Try.underlying42 hi hz0 hz1 hz2 rfl (by decide) _ _ _ rfl (own_alloc HF.out.row _) ⟨Wb.heap.size, 0, none⟩ 1 1 [.int .u8 x] rfl rfl (cell_one_new _ _ _) (by simp [Value.oneCell']) (by unfold maxLen; omega) (by omega) (by have := HF.out.size; simp; omega) ?_; intro v' w1 hown' hgrow _; obtain ⟨g', cap', rfl⟩ := ownsRow_succ hown'; have HN := Aside0.mk (HF.out.append hgrow hown' HX.out); obtain ⟨q3, q4, q5, q6, r4, r5, r6⟩ := HF.out.through hgrow; clear hgrow hown')
          have HM := HN.out.results (.slice (some ⟨g', 0, none⟩) (xs.length + 1) cap') 0
          rw [hen] at HM
          exact ⟨HM.ll, false, rfl, (fun h => by cases h), fun _ => ⟨_, _, xs ++ [x], HM.turn _, by simp; omega⟩⟩
        · have t2 : (((xs.length + 1 : Nat) : Int) == (n : Int)) = false := by simp; omega
          have t3 : (((xs.length : Nat) : Int) + 1 == (n : Int)) = false := by simp; omega
          gi_wp2_with (gi_at_builtin; refine wpListIn_append_own _ rfl _ _ 42 rfl s 5 i0 (.int .u8 0) 1 1 Try.underlying42 hi hz0 hz1 hz2 rfl (by decide) _ _ _ rfl (own_alloc HF.out.row _) ⟨Wb.heap.size, 0, none⟩ 1 1 [.int .u8 x] rfl rfl (cell_one_new _ _ _) (by simp [Value.oneCell']) (by unfold maxLen; omega) (by omega) (by have := HF.out.size; simp; omega) ?_; intro v' w1 hown' hgrow _; obtain ⟨g', cap', rfl⟩ := ownsRow_succ hown'; have HN := Aside0.mk (HF.out.append hgrow hown' HX.out); obtain ⟨q3, q4, q5, q6, r4, r5, r6⟩ := HF.out.through hgrow; clear hgrow hown')
          exact ⟨HN.out.ll, true, rfl, (fun _ => ⟨_, xs ++ [x], HN.out.turn _, by simp; omega⟩), (fun h => by cases h)⟩
    · exact ⟨_, _, H0.out _, by simp; omega⟩
    · rintro e W ⟨he, hW⟩
      refine ⟨he, ?_⟩
      rcases hW with ⟨v, xs, h, _⟩ | ⟨p, v, xs, h, hx⟩
      · exact .inl ⟨h.ll, _, _, _, _, h⟩
      · exact .inr ⟨_, h.ll, rfl, _, _, _, _, h, hx⟩
  case done =>
    rintro W o ⟨r, p, v, xs, h⟩ hlo o'
    rw [hsz] at hlo ⊢
    have HF := Aside0.mk (h.turn o')
    obtain ⟨Wb, hWb⟩ : ∃ Wb, Wb = W.putObj (s + 1 + 1 + 1 + 1 + 1 + 1) (.loop o') := ⟨_, rfl⟩
    rw [show s + 1 + 1 + 1 + 1 + 1 + 1 = s + 1 + 1 + 1 + 1 + 1 + 1 from rfl, ← hWb] at HF ⊢
    clear hWb h hlo
    have g4 : Wb.cell? ⟨s + 1, 0, none⟩ = some (.slice none 0 0) := blk_cell HF.out.b4 0
    have g5 : Wb.cell? ⟨s + 1 + 1, 0, none⟩ = some (.int .i64 0) := blk_cell HF.out.b5 0
    have f4 : Wb.frozen? ⟨s + 1, 0, none⟩ = false := blk_frozen HF.out.b4 0
    have f5 : Wb.frozen? ⟨s + 1 + 1, 0, none⟩ = false := blk_frozen HF.out.b5 0
    gi_wp2_with fail
    have HR := Aside0.mk (HF.out.results (.slice none 0 0) 150)
    refine ⟨by simp, .inl ⟨_, _, rfl, run_takeDeferred HR.out.dd, ?_⟩⟩
    obtain ⟨q4, q5, _, ho⟩ := HR.out.leave rfl
    refine ⟨.tuple #[.slice none 0 0, .int .i64 150], ?_, .inr rfl, ⟨ho⟩⟩
    simp [results, Try.f42, go_sem, q4, q5]
  case stop =>
    rintro k W o ⟨rfl, r, p, v, xs, h, hx⟩ hlo o'
    rw [hsz] at hlo ⊢
    have HF := Aside0.mk (h.turn o')
    obtain ⟨Wb, hWb⟩ : ∃ Wb, Wb = W.putObj (s + 1 + 1 + 1 + 1 + 1 + 1) (.loop o') := ⟨_, rfl⟩
    rw [← hWb] at HF ⊢
    clear hWb h hlo
    gi_wp2_with fail
    refine ⟨by simp, .inl ⟨_, _, rfl, run_takeDeferred HF.out.dd, ?_⟩⟩
    obtain ⟨q4, q5, hr, ho⟩ := HF.out.leave rfl
    refine ⟨.tuple #[v, .int .i64 0], ?_, .inl ⟨v, xs, rfl, ⟨hx, HF.out.okx⟩, ⟨by rw [← HS.out]; rw [hx] at hr; exact hr⟩⟩, ⟨ho⟩⟩
    simp [results, Try.f42, go_sem, q4, q5]
end Go.Proofs.Ytcjphioimmgbfaa.Tra
