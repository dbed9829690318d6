/- rsa's Do, by what done comes to. -/
import Derived.Test.YtjpibgehhgaopaaGreatTjB
import Derived.Test.YtjpibgehhgaopaaGreatTkI
namespace Go.Proofs.YtjpibgehhgaopaaGreat.Top
open Go.RowKit Go.Proofs.YtjpibgehhgaopaaGreatW.PrintWords Go.Proofs.YtjpibgehhgaopaaGreatW.PrintLast Go.Proofs.YtjpibgehhgaopaaGreat.PTopGenerated
set_option linter.unusedVariables false
set_option linter.unusedSimpArgs false

theorem exec_load {o : Oper} {a : Act} {w : World} (ty : TypeId) (x : Operand) (ho : o.op = .load ty x) (g : Nat) (hx : a.eval x = .pointer (some ⟨g, 0, none⟩)) (t : TypeId) (cs : Array Value) (fr : Nat × Nat) (fs : Array Field) (hg : w.heap[g]? = some (.cells cs t fr))
    (hu : Tryz.prog.underlying ty = some (.struct fs)) (hi : (Tryz.prog.info? ty).map (·.size) = some cs.size) : (execOp a.eval o).run Tryz.prog w = .ok (.value (.agg cs)) w := by
  unfold execOp
  simp only [ho, hx, Instr.loadAt, Instr.sureAddr, Sem.run_bind, Sem.run_pure, Result.andThen_ok, run_loadVar_row w g t ty cs fr (.struct fs) hg hu rfl hi]
/-- A region that draws, where nothing is thrown. -/
theorem startN_ {P : Program} {ops : Array Oper} {Q : Exit → Act → World → Prop} {S : World → Prop} {ds : List Nat} {id n : Nat} {a : Act} {w : World} (l : Array Bool) (hm : P.follows .mixedOrders = true) (hn : ops.size = n) (hl : Array.replicate n false = l) (hS : S w.drew)
    (h : S w.drew → wpAnyLast P .any ops (fun e a w => e = .normal ∧ Q .normal a w) S ds n l a w.drew) : (Code.region id ops true).wp P Q a w :=
  Code.wp_mono (fun e a w (hq : e = .normal ∧ Q .normal a w) => by obtain ⟨rfl, h⟩ := hq; exact h) (start_ l hm hn hl hS h)
theorem size38 : (Tryz.prog.info? 38).map (·.size) = some 20 := by kernel_rfl
theorem Fr.perm {w W : World} {L L' : List (Nat × Obj)} (h : Fr w W L) (hp : L.Perm L') : Fr w W L' :=
  ⟨h.bel, fun p hp' => h.ge p (hp.mem_iff.2 hp'), fun p hp' => h.has p (hp.mem_iff.2 hp'), (hp.pairwise_iff (fun {a b} hab e => hab e.symm)).1 h.ne⟩
/-- What holds an answer, a pointer to a task, or a task stays. -/
structure Keep3 (W W' : World) : Prop where
  size : W.heap.size ≤ W'.heap.size
  keep : ∀ (k : Nat) (cur : Array Value) (t : TypeId), t = 31 ∨ t = 52 ∨ t = 56 → W.heap[k]? = some (.cells cur t (0, 0)) → W'.heap[k]? = some (.cells cur t (0, 0))
set_option maxRecDepth 100000 in
set_option maxHeartbeats 8000000 in
theorem doG (w : World) (m e bits rounds : Int) (tx gr : Option Addr × Nat × Nat) (A : Option Addr) (n c : Nat) (bs : List Int) (hr : ReadsInt w .u8 A n bs) (hn : n = bs.length) (hl : bs.length ≤ 100000) (hby : ∀ j : Nat, Byt (rd bs (j : Int)))
    (Q : Option Addr × Nat × Nat → Bool → Option Addr × Nat × Nat → Int → Option Addr × Nat × Nat → Option Addr × Nat × Nat → Option Addr × Nat × Nat → Option Addr × Nat × Nat → Option Addr × Nat × Nat → Option Addr × Nat × Nat → Int → World → Prop) (hQ : ∀ pb h p0 x1 p2 p3 p4 p5 p6 p7 x W W', Kp W W' → Kb W W' → Q pb h p0 x1 p2 p3 p4 p5 p6 p7 x W → Q pb h p0 x1 p2 p3 p4 p5 p6 p7 x W')
    (hD : ∀ (W : World) (pt tb sb : Nat), Below w.heap.size w W → w.heap.size ≤ sb → w.heap.size ≤ pt → W.heap[pt]? = some (objC m e (.slice tx.1 tx.2.1 tx.2.2) (.slice A n c) (.slice gr.1 gr.2.1 gr.2.2) bits rounds tb sb) → T W w.heap.size (some tb) 0 → Scr W sb bs 0 →
      Calls Tryz.prog 17 #[.pointer (some ⟨pt, 0, none⟩)] W fun en W' => ∃ (pb : Option Addr × Nat × Nat) (h : Bool) (p0 : Option Addr × Nat × Nat) (x1 : Int) (p2 p3 p4 p5 p6 p7 : Option Addr × Nat × Nat) (x : Int), en = .returned (.agg #[.slice pb.1 pb.2.1 pb.2.2, .bool h, .slice p0.1 p0.2.1 p0.2.2, .int .u64 x1, .slice p2.1 p2.2.1 p2.2.2, .slice p3.1 p3.2.1 p3.2.2, .slice p4.1 p4.2.1 p4.2.2, .slice p5.1 p5.2.1 p5.2.2, .slice p6.1 p6.2.1 p6.2.2, .slice p7.1 p7.2.1 p7.2.2, .int .i64 x, .int .i64 0, .int .u64 0]) ∧ Below w.heap.size w W' ∧ Keep3 W W' ∧ (∃ tv mm ss, W'.heap[tb]? = some (.cells #[tv, .int .i64 mm, .int .u64 ss] 90 (0, 0))) ∧ Q pb h p0 x1 p2 p3 p4 p5 p6 p7 x W') :
    Calls Tryz.prog 5 #[.agg #[.int .i64 m, .slice none 0 0, .int .u64 e, .slice none 0 0, .slice none 0 0, .slice none 0 0, .slice none 0 0, .slice none 0 0, .slice none 0 0, .int .i64 0, .slice none 0 0, .slice tx.1 tx.2.1 tx.2.2, .slice none 0 0, .slice A n c, .int .i64 0, .int .i64 bits, .int .i64 rounds, .slice gr.1 gr.2.1 gr.2.2, .int .i64 0, .slice none 0 0]] w fun en w' => ∃ (pb : Option Addr × Nat × Nat) (h : Bool) (p0 : Option Addr × Nat × Nat) (x1 : Int) (p2 p3 p4 p5 p6 p7 : Option Addr × Nat × Nat) (x mm ss : Int), en = .returned (.agg #[.slice pb.1 pb.2.1 pb.2.2, .bool h, .slice p0.1 p0.2.1 p0.2.2, .int .u64 x1, .slice p2.1 p2.2.1 p2.2.2, .slice p3.1 p3.2.1 p3.2.2, .slice p4.1 p4.2.1 p4.2.2, .slice p5.1 p5.2.1 p5.2.2, .slice p6.1 p6.2.1 p6.2.2, .slice p7.1 p7.2.1 p7.2.2, .int .i64 x, .int .i64 mm, .int .u64 ss]) ∧ Below w.heap.size w w' ∧ Q pb h p0 x1 p2 p3 p4 p5 p6 p7 x w' := by
  subst hn
  have hmf : ∀ (fn : Fn) (first cap : Array Value) (w : World), (Instr.makeFunc fn first cap).run Tryz.prog w = .ok (.func fn first cap) w := fun _ _ _ _ => rfl
  have HF0 := Aside0.mk (((Fr.nil w).alloc (.cells #[.int .i64 m, .slice none 0 0, .int .u64 e, .slice none 0 0, .slice none 0 0, .slice none 0 0, .slice none 0 0, .slice none 0 0, .slice none 0 0, .int .i64 0, .slice none 0 0, .slice tx.1 tx.2.1 tx.2.2, .slice none 0 0, .slice A bs.length c, .int .i64 0, .int .i64 bits, .int .i64 rounds, .slice gr.1 gr.2.1 gr.2.2, .int .i64 0, .slice none 0 0] 38)).alloc ansZ)
  simp only [List.nil_append, List.cons_append, World.size_alloc] at HF0
  have HA := Aside0.mk (And.intro hr (And.intro hl hby))
  have HQ := Aside0.mk hQ
  have HD := Aside0.mk hD
  obtain ⟨w0, hw0⟩ : ∃ w0, w0 = (w.alloc (.cells #[.int .i64 m, .slice none 0 0, .int .u64 e, .slice none 0 0, .slice none 0 0, .slice none 0 0, .slice none 0 0, .slice none 0 0, .slice none 0 0, .int .i64 0, .slice none 0 0, .slice tx.1 tx.2.1 tx.2.2, .slice none 0 0, .slice A bs.length c, .int .i64 0, .int .i64 bits, .int .i64 rounds, .slice gr.1 gr.2.1 gr.2.2, .int .i64 0, .slice none 0 0] 38)).alloc ansZ := ⟨_, rfl⟩
  have HW0 := Aside0.mk hw0
  rw [← hw0] at HF0
  clear hr hl hby hQ hD
  have hu38 := Tryz.underlying38
  have hu56 := Tryz.underlying56
  have k0 := HF0.out.at 0 rfl
  have k1 : w0.cell? ⟨w.heap.size, 13, none⟩ = some (.slice A bs.length c) := blk_cell k0 13
  go_enter_defers Tryz.func5, Tryz.ntmps5
  go_wp2_with fail
  rw [← HW0.out]
  clear HW0 hw0
  have HFd : Aside0 (Fr w w0.drew [(w.heap.size, .cells #[.int .i64 m, .slice none 0 0, .int .u64 e, .slice none 0 0, .slice none 0 0, .slice none 0 0, .slice none 0 0, .slice none 0 0, .slice none 0 0, .int .i64 0, .slice none 0 0, .slice tx.1 tx.2.1 tx.2.2, .slice none 0 0, .slice A bs.length c, .int .i64 0, .int .i64 bits, .int .i64 rounds, .slice gr.1 gr.2.1 gr.2.2, .int .i64 0, .slice none 0 0] 38), (w.heap.size + 1, ansZ)]) := ⟨HF0.out.drewN 1⟩
  -- BEGIN D1
  refine startN_ (n := 9) (S := fun w' => w'.heap[w.heap.size]? = some (.cells #[.int .i64 m, .slice none 0 0, .int .u64 e, .slice none 0 0, .slice none 0 0, .slice none 0 0, .slice none 0 0, .slice none 0 0, .slice none 0 0, .int .i64 0, .slice none 0 0, .slice tx.1 tx.2.1 tx.2.2, .slice none 0 0, .slice A bs.length c, .int .i64 0, .int .i64 bits, .int .i64 rounds, .slice gr.1 gr.2.1 gr.2.2, .int .i64 0, .slice none 0 0] 38 (0, 0)) ∧ w'.cell? ⟨w.heap.size, 13, none⟩ = some (.slice A bs.length c)) (ds := [8]) #[false, false, false, false, false, false, false, false, false] (by kernel_rfl) rfl rfl ⟨k0, k1⟩ (fun hHeld => ?_)
  refine pure_ (i := 2) (N := some 6) (v := ?_) (a' := ?_) #[false, false, true, false, false, false, false, false, false] rfl rfl (by kernel_rfl) (fun _ _ _ h => absurd h.1 (by simp)) (Or.inl ⟨by rfl, ?_⟩) ?_ ?_
  rotate_left
  · intro w'
    go_simp
    with_reducible rfl
  rotate_left
  · simp only [Act.put, List.setIfInBounds_toArray, List.set_cons_zero, List.set_cons_succ, i64_w, i32_w]
    rfl
  refine take_ (i := 0) (N := some 4) (v := ?_) (a' := ?_) #[true, false, true, false, false, false, false, false, false] rfl rfl (by kernel_rfl) (fun _ _ _ h => absurd h.1 (by simp)) (Or.inl ⟨by rfl, ?_⟩) hHeld ?_ ?_
  rotate_left
  · rintro w' ⟨s0, s1⟩
    refine exec_load (ty := 38) (x := .tmp 1) ?_ w.heap.size ?_ 38 _ (0, 0) _ s0 Tryz.underlying38 size38 <;> rfl
  rotate_left
  · simp only [Act.put, List.setIfInBounds_toArray, List.set_cons_zero, List.set_cons_succ, i64_w, i32_w]
    rfl
  refine take_ (i := 3) (N := some 7) (v := ?_) (a' := ?_) #[true, false, true, true, false, false, false, false, false] rfl rfl (by kernel_rfl) (fun _ _ _ h => absurd h.1 (by simp)) (Or.inl ⟨by rfl, ?_⟩) hHeld ?_ ?_
  rotate_left
  · rintro w' ⟨s0, s1⟩
    go_simp
    with_reducible rfl
  rotate_left
  · simp only [Act.put, List.setIfInBounds_toArray, List.set_cons_zero, List.set_cons_succ, i64_w, i32_w]
    rfl
  refine join_ (σ := Nat × Nat × Nat × Nat) 1 #[true, true, true, true, true, true, true, true, false] (fun s => [(5, .pointer (some ⟨s.1, 0, none⟩)), (8, .pointer (some ⟨s.2.1, 0, none⟩)), (9, .agg #[.int .i64 m, .slice none 0 0, .int .u64 e, .slice none 0 0, .slice none 0 0, .slice none 0 0, .slice none 0 0, .slice none 0 0, .slice none 0 0, .int .i64 0, .slice none 0 0, .slice tx.1 tx.2.1 tx.2.2, .slice none 0 0, .slice A bs.length c, .int .i64 0, .int .i64 bits, .int .i64 rounds, .slice gr.1 gr.2.1 gr.2.2, .int .i64 0, .slice none 0 0, .pointer (some ⟨s.1, 0, none⟩), .pointer (some ⟨s.2.1, 0, none⟩)]), (10, .pointer (some ⟨s.2.2.1, 0, none⟩)), (3, .pointer (some ⟨s.2.2.2, 0, none⟩))]) (fun s w' => Fr w w' [(w.heap.size, .cells #[.int .i64 m, .slice none 0 0, .int .u64 e, .slice none 0 0, .slice none 0 0, .slice none 0 0, .slice none 0 0, .slice none 0 0, .slice none 0 0, .int .i64 0, .slice none 0 0, .slice tx.1 tx.2.1 tx.2.2, .slice none 0 0, .slice A bs.length c, .int .i64 0, .int .i64 bits, .int .i64 rounds, .slice gr.1 gr.2.1 gr.2.2, .int .i64 0, .slice none 0 0] 38), (w.heap.size + 1, ansZ), (s.1, .cells #[.slice none 0 0, .int .i64 0, .int .u64 14695981039346656037] 90), (s.2.2.1, (objC m e (.slice tx.1 tx.2.1 tx.2.2) (.slice A bs.length c) (.slice gr.1 gr.2.1 gr.2.2) bits rounds s.1 s.2.1)), (s.2.2.2, .cells #[.pointer none] 52)] ∧ Scr w' s.2.1 bs 0 ∧ w.heap.size ≤ s.2.1) ?_ ?_
  rotate_left
  · intro hCont
    refine two_ (i := 1) (j := 7) (Ni := some 5) (Nj := some 3) #[true, true, true, true, false, false, false, false, false] #[true, false, true, true, false, false, false, true, false] rfl rfl rfl rfl (by kernel_rfl) (by decide) (by decide) (fun K hK => ?_) (fun K hK => ?_)
    · skip
      refine goes_ Tryz.func13 (by kernel_rfl) rfl #[] (by rfl) rfl rfl (by simp) ?_
      with_reducible refine (traceNew (w0.drew)).mono ?_
      rintro e_ w_ ⟨rfl, rfl⟩
      refine ⟨_, rfl, ?_⟩
      refine hK.out _ _ ⟨(blk_alloc k0 _), (blk_cell (blk_alloc k0 _) 13)⟩ (fun hHeld => ?_)
      clear hK K
      refine norm_ (a' := ?_) ?_ ?_
      rotate_left
      · show Act.put _ (some 5) _ = _
        simp only [Act.put, List.setIfInBounds_toArray, List.set_cons_zero, List.set_cons_succ, i64_w, i32_w]
        rfl
      refine two_ (i := 4) (j := 7) (Ni := some 8) (Nj := some 3) #[true, true, true, true, true, false, false, false, false] #[true, true, true, true, false, false, false, true, false] rfl rfl rfl rfl (by kernel_rfl) (by decide) (by decide) (fun K hK => ?_) (fun K hK => ?_)
      · skip
        refine goes_ Tryz.func11 (by kernel_rfl) rfl #[.slice A bs.length c] (by rfl) rfl rfl (by simp only [List.map_toArray, List.map_cons, List.map_nil]; rfl) ?_
        with_reducible refine (newS A c bs (w0.drew.alloc (.cells #[.slice none 0 0, .int .i64 0, .int .u64 14695981039346656037] 90)) (HA.out.1.below ((HFd.out.alloc (.cells #[.slice none 0 0, .int .i64 0, .int .u64 14695981039346656037] 90))).bel) HA.out.2.1 HA.out.2.2).mono ?_
        rintro e_ ws ⟨sb, rfl, hsb, hsc, hb4⟩
        have HS4 := Aside0.mk (And.intro hsb (And.intro hsc hb4))
        have HF4 := Aside0.mk (((HFd.out.alloc (.cells #[.slice none 0 0, .int .i64 0, .int .u64 14695981039346656037] 90))).mv hb4)
        have hk4 := (HF4.out.at 0 rfl)
        clear hsb hsc hb4
        refine ⟨_, rfl, ?_⟩
        refine hK.out _ _ ⟨hk4, (blk_cell hk4 13)⟩ (fun hHeld => ?_)
        clear hK K
        refine norm_ (a' := ?_) ?_ ?_
        rotate_left
        · show Act.put _ (some 8) _ = _
          simp only [Act.put, List.setIfInBounds_toArray, List.set_cons_zero, List.set_cons_succ, i64_w, i32_w]
          rfl
        refine pure_ (i := 5) (N := some 9) (v := ?_) (a' := ?_) #[true, true, true, true, true, true, false, false, false] rfl rfl (by kernel_rfl) (fun _ _ _ h => absurd h.1 (by simp)) (Or.inl ⟨by rfl, ?_⟩) ?_ ?_
        rotate_left
        · intro w'
          go_simp
          with_reducible rfl
        rotate_left
        · simp only [Act.put, List.setIfInBounds_toArray, List.set_cons_zero, List.set_cons_succ, i64_w, i32_w]
          rfl
        refine two_ (i := 6) (j := 7) (Ni := some 10) (Nj := some 3) #[true, true, true, true, true, true, true, false, false] #[true, true, true, true, true, true, false, true, false] rfl rfl rfl rfl (by kernel_rfl) (by decide) (by decide) (fun K hK => ?_) (fun K hK => ?_)
        · skip
          refine value_ (w1 := ws.alloc (objC m e (.slice tx.1 tx.2.1 tx.2.2) (.slice A bs.length c) (.slice gr.1 gr.2.1 gr.2.2) bits rounds w0.drew.heap.size sb)) (v := .pointer (some ⟨ws.heap.size, 0, none⟩)) (by rfl) rfl ?_ ?_
          · go_simp
          refine hK.out _ _ ⟨(blk_alloc hk4 _), (blk_cell (blk_alloc hk4 _) 13)⟩ (fun hHeld => ?_)
          clear hK K
          refine norm_ (a' := ?_) ?_ ?_
          rotate_left
          · show Act.put _ (some 10) _ = _
            simp only [Act.put, List.setIfInBounds_toArray, List.set_cons_zero, List.set_cons_succ, i64_w, i32_w]
            rfl
          refine one_ (i := 7) (N := some 3) #[true, true, true, true, true, true, true, true, false] rfl rfl (by kernel_rfl) (by decide) (fun K hK => ?_)
          refine value_ (w1 := (ws.alloc (objC m e (.slice tx.1 tx.2.1 tx.2.2) (.slice A bs.length c) (.slice gr.1 gr.2.1 gr.2.2) bits rounds w0.drew.heap.size sb)).alloc (.cells #[.pointer none] 52)) (v := .pointer (some ⟨(ws.alloc (objC m e (.slice tx.1 tx.2.1 tx.2.2) (.slice A bs.length c) (.slice gr.1 gr.2.1 gr.2.2) bits rounds w0.drew.heap.size sb)).heap.size, 0, none⟩)) (by rfl) rfl ?_ ?_
          · go_simp
          refine hK.out _ _ ⟨(blk_alloc (blk_alloc hk4 _) _), (blk_cell (blk_alloc (blk_alloc hk4 _) _) 13)⟩ (fun hHeld => ?_)
          clear hK K
          refine norm_ (a' := ?_) ?_ ?_
          rotate_left
          · show Act.put _ (some 3) _ = _
            simp only [Act.put, List.setIfInBounds_toArray, List.set_cons_zero, List.set_cons_succ, i64_w, i32_w]
            rfl
          exact norm_ (by first | (simp only [putAll, Act.put, List.setIfInBounds_toArray, List.set_cons_zero, List.set_cons_succ]; done) | (simp only [putAll, Act.put, List.setIfInBounds_toArray, List.set_cons_zero, List.set_cons_succ]; rfl) | (simp only [putAll, Act.put, List.setIfInBounds_toArray, List.set_cons_zero, List.set_cons_succ]; simp [World.size_alloc]; done)) (hCont (w0.drew.heap.size, sb, ws.heap.size, (ws.alloc (objC m e (.slice tx.1 tx.2.1 tx.2.2) (.slice A bs.length c) (.slice gr.1 gr.2.1 gr.2.2) bits rounds w0.drew.heap.size sb)).heap.size) _ ⟨(((HF4.out.alloc ((objC m e (.slice tx.1 tx.2.1 tx.2.2) (.slice A bs.length c) (.slice gr.1 gr.2.1 gr.2.2) bits rounds w0.drew.heap.size sb))).alloc (.cells #[.pointer none] 52))).perm (List.Perm.refl _), ((HS4.out.2.1.below (below_alloc (Below.refl _ _) _)).below (below_alloc (Below.refl _ _) _)), Nat.le_trans (by have := HF0.out.bel.size; first | exact this | (simp; omega)) HS4.out.1⟩)
        · skip
          refine value_ (w1 := ws.alloc (.cells #[.pointer none] 52)) (v := .pointer (some ⟨ws.heap.size, 0, none⟩)) (by rfl) rfl ?_ ?_
          · go_simp
          refine hK.out _ _ ⟨(blk_alloc hk4 _), (blk_cell (blk_alloc hk4 _) 13)⟩ (fun hHeld => ?_)
          clear hK K
          refine norm_ (a' := ?_) ?_ ?_
          rotate_left
          · show Act.put _ (some 3) _ = _
            simp only [Act.put, List.setIfInBounds_toArray, List.set_cons_zero, List.set_cons_succ, i64_w, i32_w]
            rfl
          refine one_ (i := 6) (N := some 10) #[true, true, true, true, true, true, true, true, false] rfl rfl (by kernel_rfl) (by decide) (fun K hK => ?_)
          refine value_ (w1 := (ws.alloc (.cells #[.pointer none] 52)).alloc (objC m e (.slice tx.1 tx.2.1 tx.2.2) (.slice A bs.length c) (.slice gr.1 gr.2.1 gr.2.2) bits rounds w0.drew.heap.size sb)) (v := .pointer (some ⟨(ws.alloc (.cells #[.pointer none] 52)).heap.size, 0, none⟩)) (by rfl) rfl ?_ ?_
          · go_simp
          refine hK.out _ _ ⟨(blk_alloc (blk_alloc hk4 _) _), (blk_cell (blk_alloc (blk_alloc hk4 _) _) 13)⟩ (fun hHeld => ?_)
          clear hK K
          refine norm_ (a' := ?_) ?_ ?_
          rotate_left
          · show Act.put _ (some 10) _ = _
            simp only [Act.put, List.setIfInBounds_toArray, List.set_cons_zero, List.set_cons_succ, i64_w, i32_w]
            rfl
          exact norm_ (by first | (simp only [putAll, Act.put, List.setIfInBounds_toArray, List.set_cons_zero, List.set_cons_succ]; done) | (simp only [putAll, Act.put, List.setIfInBounds_toArray, List.set_cons_zero, List.set_cons_succ]; rfl) | (simp only [putAll, Act.put, List.setIfInBounds_toArray, List.set_cons_zero, List.set_cons_succ]; simp [World.size_alloc]; done)) (hCont (w0.drew.heap.size, sb, (ws.alloc (.cells #[.pointer none] 52)).heap.size, ws.heap.size) _ ⟨(((HF4.out.alloc (.cells #[.pointer none] 52)).alloc ((objC m e (.slice tx.1 tx.2.1 tx.2.2) (.slice A bs.length c) (.slice gr.1 gr.2.1 gr.2.2) bits rounds w0.drew.heap.size sb)))).perm (((((List.Perm.swap _ _ _).cons _).cons _).cons _)), ((HS4.out.2.1.below (below_alloc (Below.refl _ _) _)).below (below_alloc (Below.refl _ _) _)), Nat.le_trans (by have := HF0.out.bel.size; first | exact this | (simp; omega)) HS4.out.1⟩)
      · skip
        refine value_ (w1 := (w0.drew.alloc (.cells #[.slice none 0 0, .int .i64 0, .int .u64 14695981039346656037] 90)).alloc (.cells #[.pointer none] 52)) (v := .pointer (some ⟨(w0.drew.alloc (.cells #[.slice none 0 0, .int .i64 0, .int .u64 14695981039346656037] 90)).heap.size, 0, none⟩)) (by rfl) rfl ?_ ?_
        · go_simp
        refine hK.out _ _ ⟨(blk_alloc (blk_alloc k0 _) _), (blk_cell (blk_alloc (blk_alloc k0 _) _) 13)⟩ (fun hHeld => ?_)
        clear hK K
        refine norm_ (a' := ?_) ?_ ?_
        rotate_left
        · show Act.put _ (some 3) _ = _
          simp only [Act.put, List.setIfInBounds_toArray, List.set_cons_zero, List.set_cons_succ, i64_w, i32_w]
          rfl
        refine one_ (i := 4) (N := some 8) #[true, true, true, true, true, false, false, true, false] rfl rfl (by kernel_rfl) (by decide) (fun K hK => ?_)
        refine goes_ Tryz.func11 (by kernel_rfl) rfl #[.slice A bs.length c] (by rfl) rfl rfl (by simp only [List.map_toArray, List.map_cons, List.map_nil]; rfl) ?_
        with_reducible refine (newS A c bs ((w0.drew.alloc (.cells #[.slice none 0 0, .int .i64 0, .int .u64 14695981039346656037] 90)).alloc (.cells #[.pointer none] 52)) (HA.out.1.below (((HFd.out.alloc (.cells #[.slice none 0 0, .int .i64 0, .int .u64 14695981039346656037] 90)).alloc (.cells #[.pointer none] 52))).bel) HA.out.2.1 HA.out.2.2).mono ?_
        rintro e_ ws ⟨sb, rfl, hsb, hsc, hb4⟩
        have HS4 := Aside0.mk (And.intro hsb (And.intro hsc hb4))
        have HF4 := Aside0.mk ((((HFd.out.alloc (.cells #[.slice none 0 0, .int .i64 0, .int .u64 14695981039346656037] 90)).alloc (.cells #[.pointer none] 52))).mv hb4)
        have hk4 := (HF4.out.at 0 rfl)
        clear hsb hsc hb4
        refine ⟨_, rfl, ?_⟩
        refine hK.out _ _ ⟨hk4, (blk_cell hk4 13)⟩ (fun hHeld => ?_)
        clear hK K
        refine norm_ (a' := ?_) ?_ ?_
        rotate_left
        · show Act.put _ (some 8) _ = _
          simp only [Act.put, List.setIfInBounds_toArray, List.set_cons_zero, List.set_cons_succ, i64_w, i32_w]
          rfl
        refine pure_ (i := 5) (N := some 9) (v := ?_) (a' := ?_) #[true, true, true, true, true, true, false, true, false] rfl rfl (by kernel_rfl) (fun _ _ _ h => absurd h.1 (by simp)) (Or.inl ⟨by rfl, ?_⟩) ?_ ?_
        rotate_left
        · intro w'
          go_simp
          with_reducible rfl
        rotate_left
        · simp only [Act.put, List.setIfInBounds_toArray, List.set_cons_zero, List.set_cons_succ, i64_w, i32_w]
          rfl
        refine one_ (i := 6) (N := some 10) #[true, true, true, true, true, true, true, true, false] rfl rfl (by kernel_rfl) (by decide) (fun K hK => ?_)
        refine value_ (w1 := ws.alloc (objC m e (.slice tx.1 tx.2.1 tx.2.2) (.slice A bs.length c) (.slice gr.1 gr.2.1 gr.2.2) bits rounds w0.drew.heap.size sb)) (v := .pointer (some ⟨ws.heap.size, 0, none⟩)) (by rfl) rfl ?_ ?_
        · go_simp
        refine hK.out _ _ ⟨(blk_alloc hk4 _), (blk_cell (blk_alloc hk4 _) 13)⟩ (fun hHeld => ?_)
        clear hK K
        refine norm_ (a' := ?_) ?_ ?_
        rotate_left
        · show Act.put _ (some 10) _ = _
          simp only [Act.put, List.setIfInBounds_toArray, List.set_cons_zero, List.set_cons_succ, i64_w, i32_w]
          rfl
        exact norm_ (by first | (simp only [putAll, Act.put, List.setIfInBounds_toArray, List.set_cons_zero, List.set_cons_succ]; done) | (simp only [putAll, Act.put, List.setIfInBounds_toArray, List.set_cons_zero, List.set_cons_succ]; rfl) | (simp only [putAll, Act.put, List.setIfInBounds_toArray, List.set_cons_zero, List.set_cons_succ]; simp [World.size_alloc]; done)) (hCont (w0.drew.heap.size, sb, ws.heap.size, (w0.drew.alloc (.cells #[.slice none 0 0, .int .i64 0, .int .u64 14695981039346656037] 90)).heap.size) _ ⟨((HF4.out.alloc ((objC m e (.slice tx.1 tx.2.1 tx.2.2) (.slice A bs.length c) (.slice gr.1 gr.2.1 gr.2.2) bits rounds w0.drew.heap.size sb)))).perm (((((List.Perm.swap _ _ _).cons _).cons _).cons _)), (HS4.out.2.1.below (below_alloc (Below.refl _ _) _)), Nat.le_trans (by have := HF0.out.bel.size; first | exact this | (simp; omega)) HS4.out.1⟩)
    · skip
      refine value_ (w1 := w0.drew.alloc (.cells #[.pointer none] 52)) (v := .pointer (some ⟨w0.drew.heap.size, 0, none⟩)) (by rfl) rfl ?_ ?_
      · go_simp
      refine hK.out _ _ ⟨(blk_alloc k0 _), (blk_cell (blk_alloc k0 _) 13)⟩ (fun hHeld => ?_)
      clear hK K
      refine norm_ (a' := ?_) ?_ ?_
      rotate_left
      · show Act.put _ (some 3) _ = _
        simp only [Act.put, List.setIfInBounds_toArray, List.set_cons_zero, List.set_cons_succ, i64_w, i32_w]
        rfl
      refine one_ (i := 1) (N := some 5) #[true, true, true, true, false, false, false, true, false] rfl rfl (by kernel_rfl) (by decide) (fun K hK => ?_)
      refine goes_ Tryz.func13 (by kernel_rfl) rfl #[] (by rfl) rfl rfl (by simp) ?_
      with_reducible refine (traceNew ((w0.drew.alloc (.cells #[.pointer none] 52)))).mono ?_
      rintro e_ w_ ⟨rfl, rfl⟩
      refine ⟨_, rfl, ?_⟩
      refine hK.out _ _ ⟨(blk_alloc (blk_alloc k0 _) _), (blk_cell (blk_alloc (blk_alloc k0 _) _) 13)⟩ (fun hHeld => ?_)
      clear hK K
      refine norm_ (a' := ?_) ?_ ?_
      rotate_left
      · show Act.put _ (some 5) _ = _
        simp only [Act.put, List.setIfInBounds_toArray, List.set_cons_zero, List.set_cons_succ, i64_w, i32_w]
        rfl
      refine one_ (i := 4) (N := some 8) #[true, true, true, true, true, false, false, true, false] rfl rfl (by kernel_rfl) (by decide) (fun K hK => ?_)
      refine goes_ Tryz.func11 (by kernel_rfl) rfl #[.slice A bs.length c] (by rfl) rfl rfl (by simp only [List.map_toArray, List.map_cons, List.map_nil]; rfl) ?_
      with_reducible refine (newS A c bs ((w0.drew.alloc (.cells #[.pointer none] 52)).alloc (.cells #[.slice none 0 0, .int .i64 0, .int .u64 14695981039346656037] 90)) (HA.out.1.below (((HFd.out.alloc (.cells #[.pointer none] 52)).alloc (.cells #[.slice none 0 0, .int .i64 0, .int .u64 14695981039346656037] 90))).bel) HA.out.2.1 HA.out.2.2).mono ?_
      rintro e_ ws ⟨sb, rfl, hsb, hsc, hb4⟩
      have HS4 := Aside0.mk (And.intro hsb (And.intro hsc hb4))
      have HF4 := Aside0.mk ((((HFd.out.alloc (.cells #[.pointer none] 52)).alloc (.cells #[.slice none 0 0, .int .i64 0, .int .u64 14695981039346656037] 90))).mv hb4)
      have hk4 := (HF4.out.at 0 rfl)
      clear hsb hsc hb4
      refine ⟨_, rfl, ?_⟩
      refine hK.out _ _ ⟨hk4, (blk_cell hk4 13)⟩ (fun hHeld => ?_)
      clear hK K
      refine norm_ (a' := ?_) ?_ ?_
      rotate_left
      · show Act.put _ (some 8) _ = _
        simp only [Act.put, List.setIfInBounds_toArray, List.set_cons_zero, List.set_cons_succ, i64_w, i32_w]
        rfl
      refine pure_ (i := 5) (N := some 9) (v := ?_) (a' := ?_) #[true, true, true, true, true, true, false, true, false] rfl rfl (by kernel_rfl) (fun _ _ _ h => absurd h.1 (by simp)) (Or.inl ⟨by rfl, ?_⟩) ?_ ?_
      rotate_left
      · intro w'
        go_simp
        with_reducible rfl
      rotate_left
      · simp only [Act.put, List.setIfInBounds_toArray, List.set_cons_zero, List.set_cons_succ, i64_w, i32_w]
        rfl
      refine one_ (i := 6) (N := some 10) #[true, true, true, true, true, true, true, true, false] rfl rfl (by kernel_rfl) (by decide) (fun K hK => ?_)
      refine value_ (w1 := ws.alloc (objC m e (.slice tx.1 tx.2.1 tx.2.2) (.slice A bs.length c) (.slice gr.1 gr.2.1 gr.2.2) bits rounds (w0.drew.alloc (.cells #[.pointer none] 52)).heap.size sb)) (v := .pointer (some ⟨ws.heap.size, 0, none⟩)) (by rfl) rfl ?_ ?_
      · go_simp
      refine hK.out _ _ ⟨(blk_alloc hk4 _), (blk_cell (blk_alloc hk4 _) 13)⟩ (fun hHeld => ?_)
      clear hK K
      refine norm_ (a' := ?_) ?_ ?_
      rotate_left
      · show Act.put _ (some 10) _ = _
        simp only [Act.put, List.setIfInBounds_toArray, List.set_cons_zero, List.set_cons_succ, i64_w, i32_w]
        rfl
      exact norm_ (by first | (simp only [putAll, Act.put, List.setIfInBounds_toArray, List.set_cons_zero, List.set_cons_succ]; done) | (simp only [putAll, Act.put, List.setIfInBounds_toArray, List.set_cons_zero, List.set_cons_succ]; rfl) | (simp only [putAll, Act.put, List.setIfInBounds_toArray, List.set_cons_zero, List.set_cons_succ]; simp [World.size_alloc]; done)) (hCont ((w0.drew.alloc (.cells #[.pointer none] 52)).heap.size, sb, ws.heap.size, w0.drew.heap.size) _ ⟨((HF4.out.alloc ((objC m e (.slice tx.1 tx.2.1 tx.2.2) (.slice A bs.length c) (.slice gr.1 gr.2.1 gr.2.2) bits rounds (w0.drew.alloc (.cells #[.pointer none] 52)).heap.size sb)))).perm ((((List.Perm.swap _ _ _).trans ((List.Perm.swap _ _ _).cons _)).cons _).cons _), (HS4.out.2.1.below (below_alloc (Below.refl _ _) _)), Nat.le_trans (by have := HF0.out.bel.size; first | exact this | (simp; omega)) HS4.out.1⟩)
  rintro ⟨tb, sb, pt, px⟩ w' ⟨hF1, hF2, hF3⟩
  dsimp only at hF1 hF2 hF3
  have hHeld : (w'.heap[w.heap.size]? = some (.cells #[.int .i64 m, .slice none 0 0, .int .u64 e, .slice none 0 0, .slice none 0 0, .slice none 0 0, .slice none 0 0, .slice none 0 0, .slice none 0 0, .int .i64 0, .slice none 0 0, .slice tx.1 tx.2.1 tx.2.2, .slice none 0 0, .slice A bs.length c, .int .i64 0, .int .i64 bits, .int .i64 rounds, .slice gr.1 gr.2.1 gr.2.2, .int .i64 0, .slice none 0 0] 38 (0, 0))) ∧ w'.cell? ⟨w.heap.size, 13, none⟩ = some (.slice A bs.length c) := ⟨hF1.at 0 rfl, blk_cell (hF1.at 0 rfl) 13⟩
  have HF1 := Aside0.mk hF1
  have HS1 := Aside0.mk (And.intro hF2 hF3)
  have x4 := hF1.c0 4 rfl
  have f4 := hF1.frozen 4 rfl 0
  clear hF1 hF2 hF3
  refine norm_ (a' := ?_) ?_ ?_
  rotate_left
  · simp only [putAll, Act.put, List.setIfInBounds_toArray, List.set_cons_zero, List.set_cons_succ]
    rfl
  refine last_ (i := 8) (N := none) #[true, true, true, true, true, true, true, true, true] rfl rfl (by kernel_rfl) (by decide) (fun K hK => ?_)
  refine skip_ (w1 := ?_) (by rfl) rfl ?_ ?_
  rotate_left
  · go_simp
    rfl
  refine hK.out _ _ ?_
  clear hK K
  refine done_ (by kernel_rfl) ?_
  -- END D1
  refine ⟨rfl, ?_⟩
  have HF2 := Aside0.mk (HF1.out.set_ 4 rfl 0 (.pointer (some ⟨pt, 0, none⟩)))
  simp only [List.set, Array.setIfInBounds] at HF2
  have HS2 := Aside0.mk (HS1.out.1.kb (Kb.set_ (HF1.out.at 4 rfl) (by decide) 0 (.pointer (some ⟨pt, 0, none⟩))))
  have HSb := Aside0.mk HS1.out.2
  obtain ⟨w1, hw1⟩ : ∃ w1, w1 = w'.setCell ⟨px, 0, none⟩ (.pointer (some ⟨pt, 0, none⟩)) := ⟨_, rfl⟩
  rw [← hw1] at HF2 HS2 ⊢
  clear hw1 x4 f4 HF1 HS1 HFd k0 k1 HF0 HA hHeld
  have x4 := HF2.out.c0 4 rfl
  have HDn := Aside0.mk (HD.out w1 pt tb sb HF2.out.bel HSb.out (HF2.out.lt 3 rfl).1 (HF2.out.at 3 rfl) ⟨HF2.out.bel.size, .slice none 0 0, [], ⟨(HF2.out.lt 2 rfl).1, HF2.out.at 2 rfl, Kd.R_nil _ _ _ _ _⟩, Nat.zero_le _⟩ HS2.out)
  clear HD
  go_wp2_with fail
  refine HDn.out.mono ?_
  rintro en w2 ⟨pb, h, p0, x1, p2, p3, p4, p5, p6, p7, x, rfl, hb2, hk2, ⟨tv, mm, ss, htr⟩, hq⟩
  have hold := hk2.keep _ _ 31 (.inl rfl) (HF2.out.at 1 rfl)
  have hpx := hk2.keep _ _ 52 (.inr (.inl rfl)) (HF2.out.at 4 rfl)
  have hpt := hk2.keep _ _ 56 (.inr (.inr rfl)) (HF2.out.at 3 rfl)
  have hkp := Kp.row hold (by decide) #[.slice pb.1 pb.2.1 pb.2.2, .bool h, .slice p0.1 p0.2.1 p0.2.2, .int .u64 x1, .slice p2.1 p2.2.1 p2.2.2, .slice p3.1 p3.2.1 p3.2.2, .slice p4.1 p4.2.1 p4.2.2, .slice p5.1 p5.2.1 p5.2.2, .slice p6.1 p6.2.1 p6.2.2, .slice p7.1 p7.2.1 p7.2.2, .int .i64 x, .int .i64 0, .int .u64 0]
  have hkb := Kb.row hold (by decide) #[.slice pb.1 pb.2.1 pb.2.2, .bool h, .slice p0.1 p0.2.1 p0.2.2, .int .u64 x1, .slice p2.1 p2.2.1 p2.2.2, .slice p3.1 p3.2.1 p3.2.2, .slice p4.1 p4.2.1 p4.2.2, .slice p5.1 p5.2.1 p5.2.2, .slice p6.1 p6.2.1 p6.2.2, .slice p7.1 p7.2.1 p7.2.2, .int .i64 x, .int .i64 0, .int .u64 0]
  have hrow := setRow_heap _ _ _ #[.slice pb.1 pb.2.1 pb.2.2, .bool h, .slice p0.1 p0.2.1 p0.2.2, .int .u64 x1, .slice p2.1 p2.2.1 p2.2.2, .slice p3.1 p3.2.1 p3.2.2, .slice p4.1 p4.2.1 p4.2.2, .slice p5.1 p5.2.1 p5.2.2, .slice p6.1 p6.2.1 p6.2.2, .slice p7.1 p7.2.1 p7.2.2, .int .i64 x, .int .i64 0, .int .u64 0] _ _ hold
  have n1 : w.heap.size + 1 ≠ px := blk_ne hold hpx (by decide)
  have n2 : w.heap.size + 1 ≠ pt := blk_ne hold hpt (by decide)
  have n3 : w.heap.size + 1 ≠ tb := blk_ne hold htr (by decide)
  have hpx3 := (setRow_other w2 (w.heap.size + 1) px #[.slice pb.1 pb.2.1 pb.2.2, .bool h, .slice p0.1 p0.2.1 p0.2.2, .int .u64 x1, .slice p2.1 p2.2.1 p2.2.2, .slice p3.1 p3.2.1 p3.2.2, .slice p4.1 p4.2.1 p4.2.2, .slice p5.1 p5.2.1 p5.2.2, .slice p6.1 p6.2.1 p6.2.2, .slice p7.1 p7.2.1 p7.2.2, .int .i64 x, .int .i64 0, .int .u64 0] (fun e => n1 e.symm)).trans hpx
  have hpt3 := (setRow_other w2 (w.heap.size + 1) pt #[.slice pb.1 pb.2.1 pb.2.2, .bool h, .slice p0.1 p0.2.1 p0.2.2, .int .u64 x1, .slice p2.1 p2.2.1 p2.2.2, .slice p3.1 p3.2.1 p3.2.2, .slice p4.1 p4.2.1 p4.2.2, .slice p5.1 p5.2.1 p5.2.2, .slice p6.1 p6.2.1 p6.2.2, .slice p7.1 p7.2.1 p7.2.2, .int .i64 x, .int .i64 0, .int .u64 0] (fun e => n2 e.symm)).trans hpt
  have htr3 := (setRow_other w2 (w.heap.size + 1) tb #[.slice pb.1 pb.2.1 pb.2.2, .bool h, .slice p0.1 p0.2.1 p0.2.2, .int .u64 x1, .slice p2.1 p2.2.1 p2.2.2, .slice p3.1 p3.2.1 p3.2.2, .slice p4.1 p4.2.1 p4.2.2, .slice p5.1 p5.2.1 p5.2.2, .slice p6.1 p6.2.1 p6.2.2, .slice p7.1 p7.2.1 p7.2.2, .int .i64 x, .int .i64 0, .int .u64 0] (fun e => n3 e.symm)).trans htr
  have hb3 : Below w.heap.size w (w2.setRow (w.heap.size + 1) #[.slice pb.1 pb.2.1 pb.2.2, .bool h, .slice p0.1 p0.2.1 p0.2.2, .int .u64 x1, .slice p2.1 p2.2.1 p2.2.2, .slice p3.1 p3.2.1 p3.2.2, .slice p4.1 p4.2.1 p4.2.2, .slice p5.1 p5.2.1 p5.2.2, .slice p6.1 p6.2.1 p6.2.2, .slice p7.1 p7.2.1 p7.2.2, .int .i64 x, .int .i64 0, .int .u64 0]) := ⟨hb2.os, hb2.tape, hb2.output, by simpa using hb2.size, fun k hk => (setRow_other w2 _ k _ (by omega)).trans (hb2.block k hk)⟩
  have HE := Aside0.mk (And.intro hrow (And.intro hpx3 (And.intro hpt3 (And.intro htr3 (And.intro n2 (And.intro hb3 (HQ.out _ _ _ _ _ _ _ _ _ _ _ _ _ hkp hkb hq)))))))
  clear hpx hpt hkp hkb hrow n1 n2 n3 hpx3 hpt3 htr3 hb3 hb2 hk2 htr hq HDn x4
  go_wp2_with (refine wpList_store_row rfl 31 (.tmp 2) (.tmp 13) rfl (w.heap.size + 1) #[.slice pb.1 pb.2.1 pb.2.2, .bool h, .slice p0.1 p0.2.1 p0.2.2, .int .u64 x1, .slice p2.1 p2.2.1 p2.2.2, .slice p3.1 p3.2.1 p3.2.2, .slice p4.1 p4.2.1 p4.2.2, .slice p5.1 p5.2.1 p5.2.2, .slice p6.1 p6.2.1 p6.2.2, .slice p7.1 p7.2.1 p7.2.2, .int .i64 x, .int .i64 0, .int .u64 0] rfl rfl 31 _ hold size31 rfl (ans_one _ _ _ _ _ _ _ _ _ _ _ _ _ rfl) ?_)
  refine leaves_cons (f := 14) (args := #[.pointer (some ⟨w.heap.size + 1, 0, none⟩), .pointer (some ⟨px, 0, none⟩)]) (by simp) (by simp [go_sem]) ?_
  refine (idle14 (w.heap.size + 1) px pt tb _ _ _ _ _ _ _ _ _ _ _ _ _ tv mm ss _ HE.out.1 HE.out.2.1 (blk_cell HE.out.2.2.1 20) HE.out.2.2.2.2.1 HE.out.2.2.2.1).mono ?_
  rintro en2 u' w4 ⟨rfl, rfl, s', k, rfl⟩
  have h1 := HE.out.1
  have h2 := HE.out.2.2.2.2.2.1
  have h3 := HE.out.2.2.2.2.2.2
  obtain ⟨w3, hw3⟩ : ∃ w3, w3 = w2.setRow (w.heap.size + 1) #[.slice pb.1 pb.2.1 pb.2.2, .bool h, .slice p0.1 p0.2.1 p0.2.2, .int .u64 x1, .slice p2.1 p2.2.1 p2.2.2, .slice p3.1 p3.2.1 p3.2.2, .slice p4.1 p4.2.1 p4.2.2, .slice p5.1 p5.2.1 p5.2.2, .slice p6.1 p6.2.1 p6.2.2, .slice p7.1 p7.2.1 p7.2.2, .int .i64 x, .int .i64 0, .int .u64 0] := ⟨_, rfl⟩
  rw [← hw3] at h1 h2 h3 ⊢
  have g1 := heap_setCell_same w3 (w.heap.size + 1) 11 _ 31 (.int .i64 mm) h1
  have g2 := heap_setCell_same _ (w.heap.size + 1) 12 _ 31 (.int .u64 s') g1
  have hfin : (((w3.setCell ⟨w.heap.size + 1, 11, none⟩ (.int .i64 mm)).setCell ⟨w.heap.size + 1, 12, none⟩ (.int .u64 s')).drewN k).heap[w.heap.size + 1]? = some (.cells #[.slice pb.1 pb.2.1 pb.2.2, .bool h, .slice p0.1 p0.2.1 p0.2.2, .int .u64 x1, .slice p2.1 p2.2.1 p2.2.2, .slice p3.1 p3.2.1 p3.2.2, .slice p4.1 p4.2.1 p4.2.2, .slice p5.1 p5.2.1 p5.2.2, .slice p6.1 p6.2.1 p6.2.2, .slice p7.1 p7.2.1 p7.2.2, .int .i64 x, .int .i64 mm, .int .u64 s'] 31 (0, 0)) := g2
  refine ⟨_, results_cell_row rfl _ _ (w.heap.size + 1) 31 _ (0, 0) _ rfl hfin Tryz.underlying31 rfl size31, pb, h, p0, x1, p2, p3, p4, p5, p6, p7, x, mm, s', rfl, ?_, ?_⟩
  · exact pw_below_drewN ((h2.setCell (by simp) _).setCell (by simp) _) k
  · have kd := pw_below_drewN (Below.refl ((w3.setCell ⟨w.heap.size + 1, 11, none⟩ (.int .i64 mm)).setCell ⟨w.heap.size + 1, 12, none⟩ (.int .u64 s')).heap.size ((w3.setCell ⟨w.heap.size + 1, 11, none⟩ (.int .i64 mm)).setCell ⟨w.heap.size + 1, 12, none⟩ (.int .u64 s'))) k
    exact HQ.out _ _ _ _ _ _ _ _ _ _ _ _ _ (((Kp.set_ h1 (by decide) 11 _).trans (Kp.set_ g1 (by decide) 12 _)).trans (Kp.of_below kd)) (((Kb.set_ h1 (by decide) 11 _).trans (Kb.set_ g1 (by decide) 12 _)).trans (Kb.of_below kd)) h3
end Go.Proofs.YtjpibgehhgaopaaGreat.Top
