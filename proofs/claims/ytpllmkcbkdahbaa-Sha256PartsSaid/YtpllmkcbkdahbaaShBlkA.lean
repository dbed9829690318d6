/- The walk of sha256.Block: of 64 bytes it makes 'blk' of the state; other bytes are refused. -/
import Derived.Test.YtpllmkcbkdahbaaShSpec
namespace Go.Proofs.Ytpllmkcbkdahbaa.Sha
open Go.RowKit Go.Proofs.YtpllmkcbkdahbaaW.PrintWords Go.Proofs.YtpllmkcbkdahbaaW.PrintLast Go.Proofs.YtpllmkcbkdahbaaW.PrintMore
set_option linter.unusedVariables false
set_option linter.unusedSimpArgs false

abbrev s8V (s : St8) : Value := .agg #[.int .u32 s.a, .int .u32 s.b, .int .u32 s.c, .int .u32 s.d, .int .u32 s.e, .int .u32 s.f, .int .u32 s.g, .int .u32 s.h]
abbrev s8O (s : St8) : Obj := .cells #[.int .u32 s.a, .int .u32 s.b, .int .u32 s.c, .int .u32 s.d, .int .u32 s.e, .int .u32 s.f, .int .u32 s.g, .int .u32 s.h] 28
def wO (ws : List Int) : Obj := .cells (nums .u32 ws).toArray 36
/-- The schedule's block behind i words: the rest is nought still. -/
def padW (ws : List Int) : List Int := ws ++ List.replicate (64 - ws.length) 0

/-- The memory of a block's work: the state's box, the answer's cell, the schedule. -/
structure Mem (w wr : World) (gw : Nat) (s : St8) (ws : List Int) : Prop where
  gw_ : gw = w.heap.size + 2
  below : Below w.heap.size w wr
  box : wr.heap[w.heap.size]? = some (s8O s)
  ans : wr.heap[w.heap.size + 1]? = some (.cells (nums .u32 (List.replicate 8 0)).toArray 28)
  sch : wr.heap[gw]? = some (wO ws)
theorem Mem.cell {w wr : World} {gw : Nat} {s : St8} {ws : List Int} (h : Mem w wr gw s ws) (i : Nat) (hi : i < ws.length) : wr.cell? ⟨gw, i, none⟩ = some (.int .u32 (at0 ws i)) := by
  have := blk_cell (t := 36) h.sch i
  rw [this]
  simp [nums, at0, List.getD, hi]
theorem Mem.frozen {w wr : World} {gw : Nat} {s : St8} {ws : List Int} (h : Mem w wr gw s ws) (i : Nat) : wr.frozen? ⟨gw, i, none⟩ = false := blk_frozen (t := 36) h.sch i
theorem Mem.set {w wr : World} {gw : Nat} {s : St8} {ws : List Int} (h : Mem w wr gw s ws) (i : Nat) (x : Int) : Mem w (wr.setCell ⟨gw, i, none⟩ (.int .u32 x)) gw s (ws.set i x) := by
  have hU := Upd.cell (t := 36) h.sch i (.int .u32 x)
  refine ⟨h.gw_, hU.below h.below (by have := h.gw_; omega), hU.keep h.box (by have := h.gw_; omega), hU.keep h.ans (by have := h.gw_; omega), ?_⟩
  rw [hU.at_]
  simp [wO, nums, List.map_set]
theorem Mem.below_ {w wr w1 : World} {gw : Nat} {s : St8} {ws : List Int} (h : Mem w wr gw s ws) (hb : Below wr.heap.size wr w1) : Mem w w1 gw s ws :=
  ⟨h.gw_, h.below.trans (hb.mono h.below.size), (hb.block _ (blk_lt h.box)).trans h.box, (hb.block _ (blk_lt h.ans)).trans h.ans, (hb.block _ (blk_lt h.sch)).trans h.sch⟩

theorem Mem.drew_ {w wr : World} {gw : Nat} {s : St8} {ws : List Int} (h : Mem w wr gw s ws) : Mem w wr.drew gw s ws := h.below_ (below_drew (Below.refl _ _))
theorem mid4 (A : Option Addr) (c : Nat) (b : List Int) (i : Nat) (hi : i < 16) (hb : b.length = 64) (hc : b.length ≤ c) :
    ∃ A' : Option Addr, (∀ W : World, (Instr.slice 22 (.slice A b.length c) (some (.int .i64 (4 * (i : Int)))) (some (.int .i64 (4 * (i : Int) + 4))) none).run Try.prog W = .ok (.slice A' 4 (c - 4 * i)) W) ∧
      (∀ w : World, Kd.C (Kd.int .u8) w A b.length b → ReadsInt w .u8 A' 4 (four b i)) := by
  obtain ⟨i0, hi0, hz⟩ := Option.map_eq_some_iff.1 (show (Try.prog.info? 5).map (·.size) = some 1 by kernel_rfl)
  obtain ⟨A', h1, h2, h3⟩ := print_mid_int (P := Try.prog) (k := .u8) 22 5 Try.underlying22 hi0 hz A c b (4 * (i : Int)) (4 * (i : Int) + 4) (by omega) (by omega) (by omega) hc
  have e1 : (4 * (i : Int)).toNat = 4 * i := by omega
  have e2 : (4 * (i : Int) + 4).toNat = 4 * i + 4 := by omega
  have hf : ((b.take (4 * i + 4)).drop (4 * i)) = four b i := by
    unfold four
    rw [List.drop_take]
    congr 1
    omega
  have hl : (four b i).length = 4 := by unfold four; rw [List.length_take, List.length_drop]; omega
  rw [e1, e2, hf, hl] at h1 h2
  exact ⟨A', h1, fun w hC => h2 w (Kd.reads_of_C (enc := Value.int .u8) (d := (0 : Int)) (h1 := fun _ => rfl) hC)⟩

/-- The schedule while its i-th word is being read. -/
def mixW (b : List Int) (i k : Nat) : List Int := sched b i ++ part4 b i k :: List.replicate (63 - i) 0
theorem mixW_zero (b : List Int) (i : Nat) (hi : i < 16) : mixW b i 0 = padW (sched b i) := by
  unfold mixW padW
  rw [sched_length, show 64 - i = (63 - i) + 1 by omega, List.replicate_succ]
  rfl
theorem mixW_length (b : List Int) (i k : Nat) (hi : i < 16) : (mixW b i k).length = 64 := by
  unfold mixW
  simp [sched_length]
  omega
theorem mixW_at (b : List Int) (i k : Nat) : at0 (mixW b i k) i = part4 b i k := by
  unfold mixW at0
  rw [List.getD_eq_getElem?_getD, List.getElem?_append_right (by rw [sched_length]; omega), sched_length]
  simp
theorem mixW_set (b : List Int) (i k : Nat) (x : Int) (hx : x = part4 b i (k + 1)) : (mixW b i k).set i x = mixW b i (k + 1) := by
  subst hx
  unfold mixW
  rw [List.set_append_right _ _ (by rw [sched_length]; omega), sched_length, Nat.sub_self]
  rfl
theorem mixW_done (b : List Int) (i : Nat) (hi : i < 16) : mixW b i 4 = padW (sched b (i + 1)) := by
  have hl := sched_length b (i + 1)
  unfold padW
  rw [hl]
  unfold mixW
  rw [show 64 - (i + 1) = 63 - i by omega]
  simp [sched, hi, be4]

theorem padW_at (ws : List Int) (j : Nat) (hj : j < ws.length) : at0 (padW ws) j = at0 ws j := by
  unfold padW at0
  simp [List.getD, List.getElem?_append_left hj]
theorem padW_length (ws : List Int) (h : ws.length ≤ 64) : (padW ws).length = 64 := by unfold padW; simp; omega
theorem padW_set (ws : List Int) (h : ws.length < 64) (x : Int) : (padW ws).set ws.length x = padW (ws ++ [x]) := by
  unfold padW
  rw [List.set_append_right _ _ (Nat.le_refl _), Nat.sub_self, show 64 - ws.length = (63 - ws.length) + 1 by omega, List.replicate_succ, List.set_cons_zero, List.length_append, List.length_singleton, show 64 - (ws.length + 1) = 63 - ws.length by omega, List.append_assoc]
  rfl
theorem sched_set (b : List Int) (i : Nat) (x : Int) (h16 : 16 ≤ i) (hi : i < 64) (hx : x = nextW (sched b i) i) : (padW (sched b i)).set i x = padW (sched b (i + 1)) := by
  have hl := sched_length b i
  have := padW_set (sched b i) (by omega) x
  rw [hl] at this
  rw [this, hx]
  simp [sched, show ¬ i < 16 by omega]
theorem padW_full (b : List Int) : padW (sched b 64) = sched b 64 := by
  unfold padW
  rw [sched_length]
  simp
/-- The word d places back, as the walk spells its place. -/
theorem Mem.back {w wr : World} {gw : Nat} {s : St8} {b : List Int} (i d : Nat) (h : Mem w wr gw s (padW (sched b i))) (hd : d ≤ i) (h0 : 0 < d) (hi : i < 64) : wr.cell? ⟨gw, ((i : Int) - (d : Int)).toNat, none⟩ = some (.int .u32 (at0 (sched b i) (i - d))) := by
  have hl := sched_length b i
  rw [show ((i : Int) - (d : Int)).toNat = i - d by omega, h.cell (i - d) (by rw [padW_length _ (by omega)]; omega), padW_at _ _ (by omega)]

theorem size27 : (Try.prog.info? 27).map (·.size) = some 1 := by kernel_rfl
/-- And the working state's block. -/
structure Mem2 (w wr : World) (gw gr : Nat) (s : St8) (ws : List Int) (r : St8) : Prop where
  mem : Mem w wr gw s ws
  lt : gw < gr
  st : wr.heap[gr]? = some (s8O r)
section
variable {w wr w1 : World} {gw gr : Nat} {s : St8} {ws : List Int} {r : St8} (h : Mem2 w wr gw gr s ws r)
include h
theorem Mem2.r0 : wr.cell? ⟨gr, 0, none⟩ = some (.int .u32 r.a) := blk_cell h.st 0
theorem Mem2.r1 : wr.cell? ⟨gr, 1, none⟩ = some (.int .u32 r.b) := blk_cell h.st 1
theorem Mem2.r2 : wr.cell? ⟨gr, 2, none⟩ = some (.int .u32 r.c) := blk_cell h.st 2
theorem Mem2.r3 : wr.cell? ⟨gr, 3, none⟩ = some (.int .u32 r.d) := blk_cell h.st 3
theorem Mem2.r4 : wr.cell? ⟨gr, 4, none⟩ = some (.int .u32 r.e) := blk_cell h.st 4
theorem Mem2.r5 : wr.cell? ⟨gr, 5, none⟩ = some (.int .u32 r.f) := blk_cell h.st 5
theorem Mem2.r6 : wr.cell? ⟨gr, 6, none⟩ = some (.int .u32 r.g) := blk_cell h.st 6
theorem Mem2.r7 : wr.cell? ⟨gr, 7, none⟩ = some (.int .u32 r.h) := blk_cell h.st 7
theorem Mem2.fz (i : Nat) : wr.frozen? ⟨gr, i, none⟩ = false := blk_frozen h.st i
theorem Mem2.below_ (hb : Below wr.heap.size wr w1) : Mem2 w w1 gw gr s ws r := ⟨h.mem.below_ hb, h.lt, (hb.block _ (blk_lt h.st)).trans h.st⟩
/-- The state's block alone has turned. -/
theorem Mem2.upd {r' : St8} (hU : Upd wr w1 gr (s8O r')) : Mem2 w w1 gw gr s ws r' := by
  have hg := h.mem.gw_
  have hl := h.lt
  exact ⟨⟨hg, hU.below h.mem.below (by omega), hU.keep h.mem.box (by omega), hU.keep h.mem.ans (by omega), hU.keep h.mem.sch (by omega)⟩, hl, hU.at_⟩
end

/-- The copy of a state's first seven words behind its first. -/
theorem copy8_ {ops : Array Oper} {o : Oper} {a : Act} {W : World} {K : Act → World → Prop} {Q : Exit → Act → World → Prop} {N : Option Tmp} (gr : Nat) (r : St8) (x y : Operand) (hw : Region.wanted o (yielded ops a.tmps) = true) (hN : o.dst = N)
    (ho : o.op = .call { callee := .builtin .copy, args := #[x, y], argTypes := #[39, 39] }) (hx : a.eval x = .slice (some ⟨gr, 1, none⟩) 7 7) (hy : a.eval y = .slice (some ⟨gr, 0, none⟩) 7 8)
    (hg : W.heap[gr]? = some (s8O r)) (h : ∀ w1, Upd W w1 gr (s8O ⟨r.a, r.a, r.b, r.c, r.d, r.e, r.f, r.g⟩) → K (a.put N (.int .i64 7)) w1) : if Region.wanted o (yielded ops a.tmps) = true then Oper.wp Try.prog o a W K Q else K (a.put N undef) W := by
  rw [if_pos hw]
  subst hN
  have hrun := Go.run_copy_row (P := Try.prog) W 39 39 o.type 27 gr 1 7 7 ⟨gr, 0, none⟩ 7 8 #[.int .u32 r.a, .int .u32 r.b, .int .u32 r.c, .int .u32 r.d, .int .u32 r.e, .int .u32 r.f, .int .u32 r.g, .int .u32 r.h] 28
    [.int .u32 r.a, .int .u32 r.b, .int .u32 r.c, .int .u32 r.d, .int .u32 r.e, .int .u32 r.f, .int .u32 r.g] Try.underlying39 size27 hg rfl
    (fun j v hj => by
      have hj7 : j < 7 := by
        have := (List.getElem?_eq_some_iff.1 hj).1
        simpa using this
      have e : (⟨gr, 0, none⟩ : Addr).add j = ⟨gr, j, none⟩ := by
        unfold Addr.add
        by_cases h0 : j = 0
        · subst h0; rfl
        · rw [if_neg h0]; simp
      rw [e, blk_cell hg j, ← hj]
      rcases j with _ | _ | _ | _ | _ | _ | _ | j <;> first | rfl | omega) (by simp) (by simp [Value.oneCell'])
  unfold Oper.wp
  have e7 : goInt (([.int .u32 r.a, .int .u32 r.b, .int .u32 r.c, .int .u32 r.d, .int .u32 r.e, .int .u32 r.f, .int .u32 r.g] : List Value).length) = .int .i64 7 := rfl
  simp only [execOp, ho, resolve, invoke, builtin, Array.map, hx, hy, hrun, Result.andThen]
  simp [hx, hy, hrun, Result.andThen]
  exact h _ (Upd.row hg _)
/-- Two results, a cell's row and a slot. -/
theorem results_cell_tmp {P : Program} {fn : Func} {p q : Tmp} {ty : TypeId} (h : fn.results = #[.cell p ty, .tmp q]) (tmps : Array Value) (w : World) (g : Nat) (t : TypeId) (cs : Array Value) (fr : Nat × Nat) (d : TypeDesc) (v : Value)
    (hp : tmps.getD p undef = .pointer (some ⟨g, 0, none⟩)) (hg : w.heap[g]? = some (.cells cs t fr))
    (hu : P.underlying ty = some d) (hd : (match d with | .struct _ | .array _ _ => true | _ => false) = true) (hi : (P.info? ty).map (·.size) = some cs.size) (hq : tmps.getD q undef = v) :
    (results fn tmps).run P w = .ok (.tuple #[.agg cs, v]) w := by
  have hp' : tmps[p]?.getD undef = .pointer (some ⟨g, 0, none⟩) := by simpa using hp
  have hq' : tmps[q]?.getD undef = v := by simpa using hq
  simp [results, h, hp', hq', asAddr, run_loadVar_row w g t ty cs fr d hg hu hd hi]
section
variable {w wr w1 : World} {gw gr : Nat} {s : St8} {ws : List Int} {r : St8} (h : Mem2 w wr gw gr s ws r)
include h
theorem Mem2.set0 (x : Int) : Mem2 w (wr.setCell ⟨gr, 0, none⟩ (.int .u32 x)) gw gr s ws ⟨x, r.b, r.c, r.d, r.e, r.f, r.g, r.h⟩ := h.upd (Upd.cell (t := 28) h.st 0 (.int .u32 x))
theorem Mem2.set04 (r0 : St8) (k v x y : Int) (hr : r = ⟨r0.a, r0.a, r0.b, r0.c, r0.d, r0.e, r0.f, r0.g⟩) (hx : x = m32 (tmp1 r0 k v + tmp2 r0)) (hy : y = m32 (r0.d + tmp1 r0 k v)) :
    Mem2 w ((wr.setCell ⟨gr, 0, none⟩ (.int .u32 x)).setCell ⟨gr, 4, none⟩ (.int .u32 y)) gw gr s ws (rnd r0 k v) := by
  have h1 : Mem2 w (wr.setCell ⟨gr, 0, none⟩ (.int .u32 x)) gw gr s ws _ := h.upd (r' := ⟨x, r.b, r.c, r.d, r.e, r.f, r.g, r.h⟩) (Upd.cell (t := 28) h.st 0 (.int .u32 x))
  subst hr hx hy
  exact h1.upd (Upd.cell (t := 28) h1.st 4 (.int .u32 _))
theorem Mem2.set4 (x : Int) : Mem2 w (wr.setCell ⟨gr, 4, none⟩ (.int .u32 x)) gw gr s ws ⟨r.a, r.b, r.c, r.d, x, r.f, r.g, r.h⟩ := h.upd (Upd.cell (t := 28) h.st 4 (.int .u32 x))
end
/-- The state while the working state is added to its words. -/
def mixS (s r : St8) (j : Nat) : St8 :=
  ⟨if 0 < j then m32 (s.a + r.a) else s.a, if 1 < j then m32 (s.b + r.b) else s.b, if 2 < j then m32 (s.c + r.c) else s.c, if 3 < j then m32 (s.d + r.d) else s.d,
   if 4 < j then m32 (s.e + r.e) else s.e, if 5 < j then m32 (s.f + r.f) else s.f, if 6 < j then m32 (s.g + r.g) else s.g, if 7 < j then m32 (s.h + r.h) else s.h⟩
theorem mixS_at (s r : St8) (j : Nat) (hj : j < 8) : at0 (mixS s r j).list j = at0 s.list j := by
  rcases j with _ | _ | _ | _ | _ | _ | _ | _ | j <;> first | rfl | omega
theorem mixS_set (s r : St8) (j : Nat) (hj : j < 8) : (mixS s r j).list.set j (m32 (at0 s.list j + at0 r.list j)) = (mixS s r (j + 1)).list := by
  rcases j with _ | _ | _ | _ | _ | _ | _ | _ | j <;> first | rfl | omega
theorem St8.at_ {W : World} {g : Nat} {r : St8} (h : W.heap[g]? = some (s8O r)) (j : Nat) (hj : j < 8) : W.cell? ⟨g, j, none⟩ = some (.int .u32 (at0 r.list j)) := by
  rw [blk_cell h j]
  rcases j with _ | _ | _ | _ | _ | _ | _ | _ | j <;> first | rfl | omega
/-- The state's box has turned at one word. -/
theorem Mem2.setBox {w wr : World} {gw gr : Nat} {s s' : St8} {ws : List Int} {r : St8} (h : Mem2 w wr gw gr s ws r) (j : Nat) (x : Int) (he : s.list.set j x = s'.list) : Mem2 w (wr.setCell ⟨w.heap.size, j, none⟩ (.int .u32 x)) gw gr s' ws r := by
  have hU := Upd.cell (t := 28) h.mem.box j (.int .u32 x)
  have hg := h.mem.gw_
  have hl := h.lt
  refine ⟨⟨hg, hU.below h.mem.below (Nat.le_refl _), ?_, hU.keep h.mem.ans (by omega), hU.keep h.mem.sch (by omega)⟩, hl, hU.keep h.st (by omega)⟩
  rw [hU.at_, show s8O s' = .cells (nums .u32 s'.list).toArray 28 from rfl, ← he]
  simp [St8.list, nums, List.map_set]

set_option maxHeartbeats 2000000 in
set_option maxRecDepth 100000 in
theorem blockA (s : St8) (A : Option Addr) (c : Nat) (b : List Int) (w : World) (hr : Kd.C (Kd.int .u8) w A b.length b) (hc : b.length ≤ c) (hb : b.length = 64) :
    Calls Try.prog 11 #[s8V s, .slice A b.length c] w fun e w' => e = .returned (.tuple #[s8V (blk s b), .bool true]) ∧ Below w.heap.size w w' := by
  have HR := Aside0.mk hr
  have HC := Aside0.mk hc
  have HL := Aside0.mk hb
  have hb' : ((b.length : Int) != 64) = false := by rw [hb]; rfl
  clear hr hc hb
  go_enter Try.func11, Try.ntmps11
  go_wp2_with (first | (refine wpList_alloc_row rfl 36 rfl _ (zero36 _) ?_; intro w3 hN3; have HN3 := Aside0.mk hN3; clear hN3) | (refine wpList_alloc_row rfl 28 rfl _ (zero28 _) ?_; intro w2 hN2; have HN2 := Aside0.mk hN2; clear hN2))
  have HM := Aside0.mk (show Mem w w3 w2.heap.size s (List.replicate 64 0) from by
    have h1 := New.alloc w (s8O s)
    have h2 := HN2.out
    have h3 := HN3.out
    have hs : w2.heap.size = w.heap.size + 2 := by rw [h2.size]; simp
    refine ⟨hs, (h1.below.trans (h2.below.mono h1.below.size)).trans (h3.below.mono (by omega)), h3.keep (h2.keep h1.at_), h3.keep ?_, h3.at_⟩
    have := h2.at_
    rwa [World.size_alloc] at this)
  obtain ⟨gw, hgw⟩ : ∃ gw, gw = w2.heap.size := ⟨_, rfl⟩
  rw [← hgw] at HM ⊢
  clear hgw HN2 HN3
  go_loopw [22] (fun v22 wr => ∃ i : Nat, v22 = .int .i64 i ∧ Aside0 (i ≤ 16) ∧ Aside0 (Mem w wr gw s (padW (sched b i)))) (fun v22 _ => 16 - (intOf v22).toNat)
  case atStart => exact ⟨0, rfl, ⟨by omega⟩, HM⟩
  case round =>
    clear HM
    obtain ⟨i, rfl, HI, HM⟩ := hrel
    have hi := HI.out
    by_cases hlt : i < 16
    · have hlt' : decide ((i : Int) < 16) = true := by simp; omega
      obtain ⟨A', hmid, hA'⟩ := mid4 A c b i hlt HL.out HC.out
      have HA' := Aside0.mk hA'
      clear hA'
      go_wp2_with fail
      have HM1 := Aside0.mk (show Mem w wr gw s (mixW b i 0) from by rw [mixW_zero b i hlt]; exact HM.out)
      clear HM hmid
      obtain ⟨wo, rfl⟩ : ∃ wo : World, wo = wr := ⟨_, rfl⟩
      go_loopw [33] (fun v33 wr => ∃ k : Nat, v33 = .int .i64 k ∧ Aside0 (k ≤ 4) ∧ Aside0 (Mem w wr gw s (mixW b i k))) (fun v33 _ => 4 - (intOf v33).toNat)
      case atStart => exact ⟨0, rfl, ⟨by omega⟩, HM1⟩
      case round =>
        clear HM1
        obtain ⟨k, rfl, HK, HM⟩ := hrel
        have hk := HK.out
        by_cases hk4 : k < 4
        · have hk4' : decide ((k : Int) < 4) = true := by simp; omega
          obtain ⟨ad, e1, hc0⟩ := (HA'.out wr (Kd.C_below HR.out HM.out.below)).at_ (k : Int) (by omega) (by omega)
          subst e1
          rw [four_rd b i k hk4] at hc0
          simp only [Int.toNat_natCast] at hc0
          have hcell : wr.cell? ⟨gw, i, none⟩ = some (.int .u32 (part4 b i k)) := by rw [HM.out.cell i (by rw [mixW_length b i k hlt]; omega), mixW_at b i k]
          have hfr := HM.out.frozen i
          go_wp2_with fail
          go_roundw
          case rel => exact ⟨k + 1, by go_num, ⟨by omega⟩, ⟨by have h := HM.out.set i (part4 b i (k + 1)); rw [mixW_set b i k _ rfl] at h; exact h⟩⟩
          case measure => simp [intOf]; omega
        · obtain rfl : k = 4 := by omega
          have HM2 := Aside0.mk (show Mem w wr gw s (padW (sched b (i + 1))) from by rw [← mixW_done b i hlt]; exact HM.out)
          clear HM
          go_wp2_with fail
          go_roundw
          case rel => exact ⟨i + 1, by go_num, ⟨by omega⟩, HM2⟩
          case measure => simp [intOf]; omega
    · obtain rfl : i = 16 := by omega
      obtain ⟨wo, rfl⟩ : ∃ wo : World, wo = wr := ⟨_, rfl⟩
      go_wp2_with fail
      go_loopw [10] (fun v10 wr => ∃ i : Nat, v10 = .int .i64 i ∧ Aside0 (16 ≤ i ∧ i ≤ 64) ∧ Aside0 (Mem w wr gw s (padW (sched b i)))) (fun v10 _ => 64 - (intOf v10).toNat)
      case atStart => exact ⟨16, rfl, ⟨by omega⟩, HM⟩
      case round =>
        clear HM HI hi hlt
        obtain ⟨i, rfl, HI, HM⟩ := hrel
        have hi1 := HI.out.1
        have hi2 := HI.out.2
        by_cases hlt : i < 64
        · have hlt' : decide ((i : Int) < 64) = true := by simp; omega
          have x16 := Mem.back i 16 HM.out (by omega) (by omega) hlt
          have x15 := Mem.back i 15 HM.out (by omega) (by omega) hlt
          have x7 := Mem.back i 7 HM.out (by omega) (by omega) hlt
          have x2 := Mem.back i 2 HM.out (by omega) (by omega) hlt
          have G := Aside0.mk (And.intro x16 (And.intro x15 (And.intro x7 x2)))
          clear x16 x15 x7 x2
          have q16 : wrap64 ((i : Int) - 16) = (i : Int) - 16 := by unfold wrap64; omega
          have p16 : (0 : Int) ≤ (i : Int) - 16 := by omega
          have p16' : (16 : Int) ≤ (i : Int) := by omega
          have r16 : (i : Int) - 16 < 64 := by omega
          have q15 : wrap64 ((i : Int) - 15) = (i : Int) - 15 := by unfold wrap64; omega
          have p15 : (0 : Int) ≤ (i : Int) - 15 := by omega
          have p15' : (15 : Int) ≤ (i : Int) := by omega
          have r15 : (i : Int) - 15 < 64 := by omega
          have q7 : wrap64 ((i : Int) - 7) = (i : Int) - 7 := by unfold wrap64; omega
          have p7 : (0 : Int) ≤ (i : Int) - 7 := by omega
          have p7' : (7 : Int) ≤ (i : Int) := by omega
          have r7 : (i : Int) - 7 < 64 := by omega
          have q2 : wrap64 ((i : Int) - 2) = (i : Int) - 2 := by unfold wrap64; omega
          have p2 : (0 : Int) ≤ (i : Int) - 2 := by omega
          have p2' : (2 : Int) ≤ (i : Int) := by omega
          have r2 : (i : Int) - 2 < 64 := by omega
          have ri : (i : Int) < 64 := by omega
          go_wp2_with fail
          -- BEGIN A16
          refine start_ (n := 24) (S := fun w' => w'.cell? ⟨gw, ((i : Int) - 16).toNat, none⟩ = some (.int .u32 (at0 (sched b i) (i - 16))) ∧ w'.cell? ⟨gw, ((i : Int) - 15).toNat, none⟩ = some (.int .u32 (at0 (sched b i) (i - 15))) ∧ w'.cell? ⟨gw, ((i : Int) - 7).toNat, none⟩ = some (.int .u32 (at0 (sched b i) (i - 7))) ∧ w'.cell? ⟨gw, ((i : Int) - 2).toNat, none⟩ = some (.int .u32 (at0 (sched b i) (i - 2)))) (ds := [23]) #[false, false, false, false, false, false, false, false, false, false, false, false, false, false, false, false, false, false, false, false, false, false, false, false] (by kernel_rfl) rfl rfl ⟨G.out.1, G.out.2.1, G.out.2.2.1, G.out.2.2.2⟩ (fun hHeld => ?_)
          refine pure_ (i := 0) (N := some 52) (v := ?_) (a' := ?_) #[true, false, false, false, false, false, false, false, false, false, false, false, false, false, false, false, false, false, false, false, false, false, false, false] rfl rfl (by kernel_rfl) (fun _ _ _ h => h) (Or.inl ⟨by rfl, ?_⟩) ?_ ?_
          rotate_left
          · intro w'
            go_simp
            with_reducible rfl
          rotate_left
          · simp only [Act.put, List.setIfInBounds_toArray, List.set_cons_zero, List.set_cons_succ, i64_w, i32_w]
            rfl
          refine pure_ (i := 1) (N := some 53) (v := ?_) (a' := ?_) #[true, true, false, false, false, false, false, false, false, false, false, false, false, false, false, false, false, false, false, false, false, false, false, false] rfl rfl (by kernel_rfl) (fun _ _ _ h => h) (Or.inl ⟨by rfl, ?_⟩) ?_ ?_
          rotate_left
          · intro w'
            go_simp
            with_reducible rfl
          rotate_left
          · simp only [Act.put, List.setIfInBounds_toArray, List.set_cons_zero, List.set_cons_succ, i64_w, i32_w]
            rfl
          refine pure_ (i := 2) (N := some 54) (v := ?_) (a' := ?_) #[true, true, true, false, false, false, false, false, false, false, false, false, false, false, false, false, false, false, false, false, false, false, false, false] rfl rfl (by kernel_rfl) (fun _ _ _ h => h) (Or.inl ⟨by rfl, ?_⟩) ?_ ?_
          rotate_left
          · intro w'
            go_simp
            with_reducible rfl
          rotate_left
          · simp only [Act.put, List.setIfInBounds_toArray, List.set_cons_zero, List.set_cons_succ, i64_w, i32_w]
            rfl
          refine pure_ (i := 3) (N := some 55) (v := ?_) (a' := ?_) #[true, true, true, true, false, false, false, false, false, false, false, false, false, false, false, false, false, false, false, false, false, false, false, false] rfl rfl (by kernel_rfl) (fun _ _ _ h => h) (Or.inl ⟨by rfl, ?_⟩) ?_ ?_
          rotate_left
          · intro w'
            go_simp
            with_reducible rfl
          rotate_left
          · simp only [Act.put, List.setIfInBounds_toArray, List.set_cons_zero, List.set_cons_succ, i64_w, i32_w]
            rfl
          refine pure_ (i := 5) (N := some 57) (v := ?_) (a' := ?_) #[true, true, true, true, false, true, false, false, false, false, false, false, false, false, false, false, false, false, false, false, false, false, false, false] rfl rfl (by kernel_rfl) (fun _ _ _ h => h) (Or.inl ⟨by rfl, ?_⟩) ?_ ?_
          rotate_left
          · intro w'
            go_simp
            with_reducible rfl
          rotate_left
          · simp only [Act.put, List.setIfInBounds_toArray, List.set_cons_zero, List.set_cons_succ, i64_w, i32_w]
            rfl
          refine pure_ (i := 6) (N := some 58) (v := ?_) (a' := ?_) #[true, true, true, true, false, true, true, false, false, false, false, false, false, false, false, false, false, false, false, false, false, false, false, false] rfl rfl (by kernel_rfl) (fun _ _ _ h => h) (Or.inl ⟨by rfl, ?_⟩) ?_ ?_
          rotate_left
          · intro w'
            go_simp
            with_reducible rfl
          rotate_left
          · simp only [Act.put, List.setIfInBounds_toArray, List.set_cons_zero, List.set_cons_succ, i64_w, i32_w]
            rfl
          refine pure_ (i := 7) (N := some 59) (v := ?_) (a' := ?_) #[true, true, true, true, false, true, true, true, false, false, false, false, false, false, false, false, false, false, false, false, false, false, false, false] rfl rfl (by kernel_rfl) (fun _ _ _ h => h) (Or.inl ⟨by rfl, ?_⟩) ?_ ?_
          rotate_left
          · intro w'
            go_simp
            with_reducible rfl
          rotate_left
          · simp only [Act.put, List.setIfInBounds_toArray, List.set_cons_zero, List.set_cons_succ, i64_w, i32_w]
            rfl
          refine pure_ (i := 11) (N := some 63) (v := ?_) (a' := ?_) #[true, true, true, true, false, true, true, true, false, false, false, true, false, false, false, false, false, false, false, false, false, false, false, false] rfl rfl (by kernel_rfl) (fun _ _ _ h => h) (Or.inl ⟨by rfl, ?_⟩) ?_ ?_
          rotate_left
          · intro w'
            go_simp
            with_reducible rfl
          rotate_left
          · simp only [Act.put, List.setIfInBounds_toArray, List.set_cons_zero, List.set_cons_succ, i64_w, i32_w]
            rfl
          refine pure_ (i := 12) (N := some 64) (v := ?_) (a' := ?_) #[true, true, true, true, false, true, true, true, false, false, false, true, true, false, false, false, false, false, false, false, false, false, false, false] rfl rfl (by kernel_rfl) (fun _ _ _ h => h) (Or.inl ⟨by rfl, ?_⟩) ?_ ?_
          rotate_left
          · intro w'
            go_simp
            with_reducible rfl
          rotate_left
          · simp only [Act.put, List.setIfInBounds_toArray, List.set_cons_zero, List.set_cons_succ, i64_w, i32_w]
            rfl
          refine pure_ (i := 13) (N := some 65) (v := ?_) (a' := ?_) #[true, true, true, true, false, true, true, true, false, false, false, true, true, true, false, false, false, false, false, false, false, false, false, false] rfl rfl (by kernel_rfl) (fun _ _ _ h => h) (Or.inl ⟨by rfl, ?_⟩) ?_ ?_
          rotate_left
          · intro w'
            go_simp
            with_reducible rfl
          rotate_left
          · simp only [Act.put, List.setIfInBounds_toArray, List.set_cons_zero, List.set_cons_succ, i64_w, i32_w]
            rfl
          refine pure_ (i := 16) (N := some 68) (v := ?_) (a' := ?_) #[true, true, true, true, false, true, true, true, false, false, false, true, true, true, false, false, true, false, false, false, false, false, false, false] rfl rfl (by kernel_rfl) (fun _ _ _ h => h) (Or.inl ⟨by rfl, ?_⟩) ?_ ?_
          rotate_left
          · intro w'
            go_simp
            with_reducible rfl
          rotate_left
          · simp only [Act.put, List.setIfInBounds_toArray, List.set_cons_zero, List.set_cons_succ, i64_w, i32_w]
            rfl
          refine pure_ (i := 17) (N := some 69) (v := ?_) (a' := ?_) #[true, true, true, true, false, true, true, true, false, false, false, true, true, true, false, false, true, true, false, false, false, false, false, false] rfl rfl (by kernel_rfl) (fun _ _ _ h => h) (Or.inl ⟨by rfl, ?_⟩) ?_ ?_
          rotate_left
          · intro w'
            go_simp
            with_reducible rfl
          rotate_left
          · simp only [Act.put, List.setIfInBounds_toArray, List.set_cons_zero, List.set_cons_succ, i64_w, i32_w]
            rfl
          refine pure_ (i := 18) (N := some 70) (v := ?_) (a' := ?_) #[true, true, true, true, false, true, true, true, false, false, false, true, true, true, false, false, true, true, true, false, false, false, false, false] rfl rfl (by kernel_rfl) (fun _ _ _ h => h) (Or.inl ⟨by rfl, ?_⟩) ?_ ?_
          rotate_left
          · intro w'
            go_simp
            with_reducible rfl
          rotate_left
          · simp only [Act.put, List.setIfInBounds_toArray, List.set_cons_zero, List.set_cons_succ, i64_w, i32_w]
            rfl
          refine take_ (i := 4) (N := some 56) (v := ?_) (a' := ?_) #[true, true, true, true, true, true, true, true, false, false, false, true, true, true, false, false, true, true, true, false, false, false, false, false] rfl rfl (by kernel_rfl) (fun _ _ _ h => h) (Or.inl ⟨by rfl, ?_⟩) hHeld ?_ ?_
          rotate_left
          · rintro w' ⟨s0, s1, s2, s3⟩
            go_simp
            with_reducible rfl
          rotate_left
          · simp only [Act.put, List.setIfInBounds_toArray, List.set_cons_zero, List.set_cons_succ, i64_w, i32_w]
            rfl
          refine take_ (i := 8) (N := some 60) (v := ?_) (a' := ?_) #[true, true, true, true, true, true, true, true, true, false, false, true, true, true, false, false, true, true, true, false, false, false, false, false] rfl rfl (by kernel_rfl) (fun _ _ _ h => h) (Or.inl ⟨by rfl, ?_⟩) hHeld ?_ ?_
          rotate_left
          · rintro w' ⟨s0, s1, s2, s3⟩
            go_simp
            with_reducible rfl
          rotate_left
          · simp only [Act.put, List.setIfInBounds_toArray, List.set_cons_zero, List.set_cons_succ, i64_w, i32_w]
            rfl
          refine take_ (i := 14) (N := some 66) (v := ?_) (a' := ?_) #[true, true, true, true, true, true, true, true, true, false, false, true, true, true, true, false, true, true, true, false, false, false, false, false] rfl rfl (by kernel_rfl) (fun _ _ _ h => h) (Or.inl ⟨by rfl, ?_⟩) hHeld ?_ ?_
          rotate_left
          · rintro w' ⟨s0, s1, s2, s3⟩
            go_simp
            with_reducible rfl
          rotate_left
          · simp only [Act.put, List.setIfInBounds_toArray, List.set_cons_zero, List.set_cons_succ, i64_w, i32_w]
            rfl
          refine take_ (i := 19) (N := some 71) (v := ?_) (a' := ?_) #[true, true, true, true, true, true, true, true, true, false, false, true, true, true, true, false, true, true, true, true, false, false, false, false] rfl rfl (by kernel_rfl) (fun _ _ _ h => h) (Or.inl ⟨by rfl, ?_⟩) hHeld ?_ ?_
          rotate_left
          · rintro w' ⟨s0, s1, s2, s3⟩
            go_simp
            with_reducible rfl
          rotate_left
          · simp only [Act.put, List.setIfInBounds_toArray, List.set_cons_zero, List.set_cons_succ, i64_w, i32_w]
            rfl
          refine one_ (i := 9) (N := some 61) #[true, true, true, true, true, true, true, true, true, true, false, true, true, true, true, false, true, true, true, true, false, false, false, false] rfl rfl (by kernel_rfl) (by decide) (fun K hK => ?_)
          refine goes_ Try.func17 (by kernel_rfl) rfl #[.int .u32 (at0 (sched b i) (i - 15)), .int .i64 7, .int .i64 18, .int .i64 (-3)] (by rfl) rfl rfl (by simp only [List.map_toArray, List.map_cons, List.map_nil]; rfl) ?_
          with_reducible refine (turned_any (at0 (sched b i) (i - 15)) 7 18 (-3) _ (by omega) (by omega) (by omega)).mono ?_
          rintro x w3 ⟨rfl, hb⟩
          have HB3 := Aside0.mk hb
          clear hb
          refine ⟨_, rfl, ?_⟩
          refine hK.out _ _ ⟨(pw_cell_below HB3.out G.out.1), (pw_cell_below HB3.out G.out.2.1), (pw_cell_below HB3.out G.out.2.2.1), (pw_cell_below HB3.out G.out.2.2.2)⟩ (fun hHeld => ?_)
          clear hK K
          refine norm_ (a' := ?_) ?_ ?_
          rotate_left
          · show Act.put _ (some 61) _ = _
            simp only [Act.put, List.setIfInBounds_toArray, List.set_cons_zero, List.set_cons_succ, i64_w, i32_w]
            rfl
          refine pure_ (i := 10) (N := some 62) (v := ?_) (a' := ?_) #[true, true, true, true, true, true, true, true, true, true, true, true, true, true, true, false, true, true, true, true, false, false, false, false] rfl rfl (by kernel_rfl) (fun _ _ _ h => h) (Or.inl ⟨by rfl, ?_⟩) ?_ ?_
          rotate_left
          · intro w'
            go_simp
            with_reducible rfl
          rotate_left
          · simp only [Act.put, List.setIfInBounds_toArray, List.set_cons_zero, List.set_cons_succ, i64_w, i32_w]
            rfl
          refine pure_ (i := 15) (N := some 67) (v := ?_) (a' := ?_) #[true, true, true, true, true, true, true, true, true, true, true, true, true, true, true, true, true, true, true, true, false, false, false, false] rfl rfl (by kernel_rfl) (fun _ _ _ h => h) (Or.inl ⟨by rfl, ?_⟩) ?_ ?_
          rotate_left
          · intro w'
            go_simp
            with_reducible rfl
          rotate_left
          · simp only [Act.put, List.setIfInBounds_toArray, List.set_cons_zero, List.set_cons_succ, i64_w, i32_w]
            rfl
          refine one_ (i := 20) (N := some 72) #[true, true, true, true, true, true, true, true, true, true, true, true, true, true, true, true, true, true, true, true, true, false, false, false] rfl rfl (by kernel_rfl) (by decide) (fun K hK => ?_)
          refine goes_ Try.func17 (by kernel_rfl) rfl #[.int .u32 (at0 (sched b i) (i - 2)), .int .i64 17, .int .i64 19, .int .i64 (-10)] (by rfl) rfl rfl (by simp only [List.map_toArray, List.map_cons, List.map_nil]; rfl) ?_
          with_reducible refine (turned_any (at0 (sched b i) (i - 2)) 17 19 (-10) _ (by omega) (by omega) (by omega)).mono ?_
          rintro x w4 ⟨rfl, hb⟩
          have HB4 := Aside0.mk hb
          clear hb
          have HM4 := Aside0.mk ((HM.out.drew_.below_ HB3.out).below_ HB4.out)
          have hcell := HM4.out.cell i (by rw [padW_length _ (by rw [sched_length]; omega)]; omega)
          have hfr := HM4.out.frozen i
          refine ⟨_, rfl, ?_⟩
          refine hK.out _ _ ⟨(pw_cell_below HB4.out (pw_cell_below HB3.out G.out.1)), (pw_cell_below HB4.out (pw_cell_below HB3.out G.out.2.1)), (pw_cell_below HB4.out (pw_cell_below HB3.out G.out.2.2.1)), (pw_cell_below HB4.out (pw_cell_below HB3.out G.out.2.2.2))⟩ (fun hHeld => ?_)
          clear hK K
          refine norm_ (a' := ?_) ?_ ?_
          rotate_left
          · show Act.put _ (some 72) _ = _
            simp only [Act.put, List.setIfInBounds_toArray, List.set_cons_zero, List.set_cons_succ, i64_w, i32_w]
            rfl
          refine pure_ (i := 21) (N := some 73) (v := ?_) (a' := ?_) #[true, true, true, true, true, true, true, true, true, true, true, true, true, true, true, true, true, true, true, true, true, true, false, false] rfl rfl (by kernel_rfl) (fun _ _ _ h => h) (Or.inl ⟨by rfl, ?_⟩) ?_ ?_
          rotate_left
          · intro w'
            go_simp
            with_reducible rfl
          rotate_left
          · simp only [Act.put, List.setIfInBounds_toArray, List.set_cons_zero, List.set_cons_succ, i64_w, i32_w]
            rfl
          refine pure_ (i := 22) (N := some 74) (v := ?_) (a' := ?_) #[true, true, true, true, true, true, true, true, true, true, true, true, true, true, true, true, true, true, true, true, true, true, true, false] rfl rfl (by kernel_rfl) (fun _ _ _ h => h) (Or.inl ⟨by rfl, ?_⟩) ?_ ?_
          rotate_left
          · intro w'
            go_simp
            with_reducible rfl
          rotate_left
          · simp only [Act.put, List.setIfInBounds_toArray, List.set_cons_zero, List.set_cons_succ, i64_w, i32_w]
            rfl
          refine last_ (i := 23) (N := none) #[true, true, true, true, true, true, true, true, true, true, true, true, true, true, true, true, true, true, true, true, true, true, true, true] rfl rfl (by kernel_rfl) (by decide) (fun K hK => ?_)
          refine skip_ (w1 := ?_) (by rfl) rfl ?_ ?_
          rotate_left
          · go_simp
            rfl
          refine hK.out _ _ ?_
          clear hK K
          refine done_ (by kernel_rfl) ?_
          -- END A16
          go_wp2_with fail
          go_roundw
          case rel => exact ⟨i + 1, by go_num, ⟨by omega⟩, ⟨by have h := HM4.out.set i (nextW (sched b i) i); rw [sched_set b i _ hi1 hlt rfl] at h; exact h⟩⟩
          case measure => simp [intOf]; omega
        · obtain rfl : i = 64 := by omega
          rw [padW_full] at HM
          have hlt' : decide ((((64 : Nat) : Int)) < 64) = false := by simp
          obtain ⟨wo2, rfl⟩ : ∃ wo2 : World, wo2 = wr := ⟨_, rfl⟩
          go_wp2_with (first | (refine wpList_load_row rfl 28 (.tmp 2) rfl w.heap.size rfl 28 _ (0, 0) _ HM.out.box Try.underlying28 rfl size28 ?_; have tokL : True := trivial) | (refine wpList_alloc_row rfl 28 rfl _ (zero28 _) ?_; intro w5 hN5; have HN5 := Aside0.mk hN5; clear hN5) | (refine wpList_store_row' rfl 28 (.tmp 11) (.tmp 75) rfl wo2.heap.size (nums .u32 s.list).toArray rfl rfl 28 _ HN5.out.at_ size28 rfl (nums_one _ _) ?_; intro w6 hU6; have HU6 := Aside0.mk hU6; clear hU6))
          refine (keys_any _).mono ?_
          rintro x w7 ⟨rfl, hb7⟩
          have HG := Aside0.mk (show wo2.heap.size = wo2.heap.size ∧ gw < wo2.heap.size from ⟨rfl, blk_lt HM.out.sch⟩)
          have HM2 := Aside0.mk (show Mem2 w w7 gw wo2.heap.size s (sched b 64) s from by
            have h6 : w6.heap[wo2.heap.size]? = some (s8O s) := HU6.out.at_
            have hM5 := HM.out.below_ HN5.out.below
            have hM6 : Mem w w6 gw s (sched b 64) := ⟨hM5.gw_, HU6.out.below hM5.below HM.out.below.size, HU6.out.keep hM5.box (by have := blk_lt HM.out.box; omega), HU6.out.keep hM5.ans (by have := blk_lt HM.out.ans; omega), HU6.out.keep hM5.sch (by have := blk_lt HM.out.sch; omega)⟩
            exact ⟨hM6.below_ hb7, blk_lt HM.out.sch, (hb7.block _ (blk_lt h6)).trans h6⟩)
          obtain ⟨gr, hgr⟩ : ∃ gr, gr = wo2.heap.size := ⟨_, rfl⟩
          rw [← hgr] at HM2 ⊢
          clear hb7 HG HU6 HN5 HM hgr
          go_wp2_with fail
          go_loopw [77] (fun v77 wr => ∃ i : Nat, v77 = .int .i64 i ∧ Aside0 (i ≤ 64) ∧ Aside0 (Mem2 w wr gw gr s (sched b 64) (rnds s (sched b 64) i))) (fun v77 _ => 64 - (intOf v77).toNat)
          case atStart => exact ⟨0, rfl, ⟨by omega⟩, HM2⟩
          case round =>
            clear HM2
            obtain ⟨i, rfl, HI, HM⟩ := hrel
            have hi := HI.out
            by_cases hlt : i < 64
            · have hlt1 : decide ((i : Int) < 64) = true := by simp; omega
              have hlt2 : (i : Int) < 64 := by omega
              have hidx : ∀ W : World, (Instr.index 36 (aggU keysL) (.int .i64 (i : Int))).run Try.prog W = .ok (.int .u32 (at0 keysL i)) W := fun W => run_index_words (P := Try.prog) Try.underlying36 Try.underlying27 size27 keysL rfl i hlt W
              have HR8 := Aside0.mk HM.out
              obtain ⟨r, hrr⟩ : ∃ r, r = rnds s (sched b 64) i := ⟨_, rfl⟩
              rw [← hrr] at HM HR8
              have HRR := Aside0.mk hrr
              clear hrr
              have r4 := HM.out.r4
              go_wp2_with fail
              have HM8 := Aside0.mk (HM.out.below_ (below_drew (Below.refl _ _)))
              have hwi : (wr.drew).cell? ⟨gw, i, none⟩ = some (.int .u32 (at0 (sched b 64) i)) := HM8.out.mem.cell i (by rw [sched_length]; exact hlt)
              -- BEGIN A22
              refine start_ (n := 23) (S := fun w' => w'.cell? ⟨gr, 7, none⟩ = some (.int .u32 r.h) ∧ w'.cell? ⟨gr, 6, none⟩ = some (.int .u32 r.g) ∧ w'.cell? ⟨gr, 5, none⟩ = some (.int .u32 r.f) ∧ w'.cell? ⟨gw, i, none⟩ = some (.int .u32 (at0 (sched b 64) i))) (ds := []) #[false, false, false, false, false, false, false, false, false, false, false, false, false, false, false, false, false, false, false, false, false, false, false] (by kernel_rfl) rfl rfl ⟨HM8.out.r7, HM8.out.r6, HM8.out.r5, hwi⟩ (fun hHeld => ?_)
              refine pure_ (i := 0) (N := some 83) (v := ?_) (a' := ?_) #[true, false, false, false, false, false, false, false, false, false, false, false, false, false, false, false, false, false, false, false, false, false, false] rfl rfl (by kernel_rfl) (fun _ _ _ h => h) (Or.inl ⟨by rfl, ?_⟩) ?_ ?_
              rotate_left
              · intro w'
                go_simp
                with_reducible rfl
              rotate_left
              · simp only [Act.put, List.setIfInBounds_toArray, List.set_cons_zero, List.set_cons_succ, i64_w, i32_w]
                rfl
              refine pure_ (i := 2) (N := some 85) (v := ?_) (a' := ?_) #[true, false, true, false, false, false, false, false, false, false, false, false, false, false, false, false, false, false, false, false, false, false, false] rfl rfl (by kernel_rfl) (fun _ _ _ h => h) (Or.inl ⟨by rfl, ?_⟩) ?_ ?_
              rotate_left
              · intro w'
                go_simp
                with_reducible rfl
              rotate_left
              · simp only [Act.put, List.setIfInBounds_toArray, List.set_cons_zero, List.set_cons_succ, i64_w, i32_w]
                rfl
              refine pure_ (i := 5) (N := some 88) (v := ?_) (a' := ?_) #[true, false, true, false, false, true, false, false, false, false, false, false, false, false, false, false, false, false, false, false, false, false, false] rfl rfl (by kernel_rfl) (fun _ _ _ h => h) (Or.inl ⟨by rfl, ?_⟩) ?_ ?_
              rotate_left
              · intro w'
                go_simp
                with_reducible rfl
              rotate_left
              · simp only [Act.put, List.setIfInBounds_toArray, List.set_cons_zero, List.set_cons_succ, i64_w, i32_w]
                rfl
              refine pure_ (i := 7) (N := some 90) (v := ?_) (a' := ?_) #[true, false, true, false, false, true, false, true, false, false, false, false, false, false, false, false, false, false, false, false, false, false, false] rfl rfl (by kernel_rfl) (fun _ _ _ h => h) (Or.inl ⟨by rfl, ?_⟩) ?_ ?_
              rotate_left
              · intro w'
                go_simp
                with_reducible rfl
              rotate_left
              · simp only [Act.put, List.setIfInBounds_toArray, List.set_cons_zero, List.set_cons_succ, i64_w, i32_w]
                rfl
              refine pure_ (i := 8) (N := some 91) (v := ?_) (a' := ?_) #[true, false, true, false, false, true, false, true, true, false, false, false, false, false, false, false, false, false, false, false, false, false, false] rfl rfl (by kernel_rfl) (fun _ _ _ h => h) (Or.inl ⟨by rfl, ?_⟩) ?_ ?_
              rotate_left
              · intro w'
                go_simp
                with_reducible rfl
              rotate_left
              · simp only [Act.put, List.setIfInBounds_toArray, List.set_cons_zero, List.set_cons_succ, i64_w, i32_w]
                rfl
              refine pure_ (i := 10) (N := some 93) (v := ?_) (a' := ?_) #[true, false, true, false, false, true, false, true, true, false, true, false, false, false, false, false, false, false, false, false, false, false, false] rfl rfl (by kernel_rfl) (fun _ _ _ h => h) (Or.inl ⟨by rfl, ?_⟩) ?_ ?_
              rotate_left
              · intro w'
                go_simp
                with_reducible rfl
              rotate_left
              · simp only [Act.put, List.setIfInBounds_toArray, List.set_cons_zero, List.set_cons_succ, i64_w, i32_w]
                rfl
              refine pure_ (i := 16) (N := some 99) (v := ?_) (a' := ?_) #[true, false, true, false, false, true, false, true, true, false, true, false, false, false, false, false, true, false, false, false, false, false, false] rfl rfl (by kernel_rfl) (fun _ _ _ h => h) (Or.inl ⟨by rfl, ?_⟩) ?_ ?_
              rotate_left
              · intro w'
                go_simp
                with_reducible rfl
              rotate_left
              · simp only [Act.put, List.setIfInBounds_toArray, List.set_cons_zero, List.set_cons_succ, i64_w, i32_w]
                rfl
              refine pure_ (i := 18) (N := some 101) (v := ?_) (a' := ?_) #[true, false, true, false, false, true, false, true, true, false, true, false, false, false, false, false, true, false, true, false, false, false, false] rfl rfl (by kernel_rfl) (fun _ _ _ h => h) (Or.inl ⟨by rfl, ?_⟩) ?_ ?_
              rotate_left
              · intro w'
                go_simp
                with_reducible rfl
              rotate_left
              · simp only [Act.put, List.setIfInBounds_toArray, List.set_cons_zero, List.set_cons_succ, i64_w, i32_w]
                rfl
              refine pure_ (i := 19) (N := some 102) (v := ?_) (a' := ?_) #[true, false, true, false, false, true, false, true, true, false, true, false, false, false, false, false, true, false, true, true, false, false, false] rfl rfl (by kernel_rfl) (fun _ _ _ h => h) (Or.inl ⟨by rfl, ?_⟩) ?_ ?_
              rotate_left
              · intro w'
                go_simp
                with_reducible rfl
              rotate_left
              · simp only [Act.put, List.setIfInBounds_toArray, List.set_cons_zero, List.set_cons_succ, i64_w, i32_w]
                rfl
              refine take_ (i := 1) (N := some 84) (v := ?_) (a' := ?_) #[true, true, true, false, false, true, false, true, true, false, true, false, false, false, false, false, true, false, true, true, false, false, false] rfl rfl (by kernel_rfl) (fun _ _ _ h => h) (Or.inl ⟨by rfl, ?_⟩) hHeld ?_ ?_
              rotate_left
              · rintro w' ⟨s0, s1, s2, s3⟩
                go_simp
                with_reducible rfl
              rotate_left
              · simp only [Act.put, List.setIfInBounds_toArray, List.set_cons_zero, List.set_cons_succ, i64_w, i32_w]
                rfl
              refine take_ (i := 6) (N := some 89) (v := ?_) (a' := ?_) #[true, true, true, false, false, true, true, true, true, false, true, false, false, false, false, false, true, false, true, true, false, false, false] rfl rfl (by kernel_rfl) (fun _ _ _ h => h) (Or.inl ⟨by rfl, ?_⟩) hHeld ?_ ?_
              rotate_left
              · rintro w' ⟨s0, s1, s2, s3⟩
                go_simp
                with_reducible rfl
              rotate_left
              · simp only [Act.put, List.setIfInBounds_toArray, List.set_cons_zero, List.set_cons_succ, i64_w, i32_w]
                rfl
              refine take_ (i := 9) (N := some 92) (v := ?_) (a' := ?_) #[true, true, true, false, false, true, true, true, true, true, true, false, false, false, false, false, true, false, true, true, false, false, false] rfl rfl (by kernel_rfl) (fun _ _ _ h => h) (Or.inl ⟨by rfl, ?_⟩) hHeld ?_ ?_
              rotate_left
              · rintro w' ⟨s0, s1, s2, s3⟩
                go_simp
                with_reducible rfl
              rotate_left
              · simp only [Act.put, List.setIfInBounds_toArray, List.set_cons_zero, List.set_cons_succ, i64_w, i32_w]
                rfl
              refine take_ (i := 11) (N := some 94) (v := ?_) (a' := ?_) #[true, true, true, false, false, true, true, true, true, true, true, true, false, false, false, false, true, false, true, true, false, false, false] rfl rfl (by kernel_rfl) (fun _ _ _ h => h) (Or.inl ⟨by rfl, ?_⟩) hHeld ?_ ?_
              rotate_left
              · rintro w' ⟨s0, s1, s2, s3⟩
                go_simp
                with_reducible rfl
              rotate_left
              · simp only [Act.put, List.setIfInBounds_toArray, List.set_cons_zero, List.set_cons_succ, i64_w, i32_w]
                rfl
              refine pure_ (i := 12) (N := some 95) (v := ?_) (a' := ?_) #[true, true, true, false, false, true, true, true, true, true, true, true, true, false, false, false, true, false, true, true, false, false, false] rfl rfl (by kernel_rfl) (fun _ _ _ h => h) (Or.inl ⟨by rfl, ?_⟩) ?_ ?_
              rotate_left
              · intro w'
                go_simp
                with_reducible rfl
              rotate_left
              · simp only [Act.put, List.setIfInBounds_toArray, List.set_cons_zero, List.set_cons_succ, i64_w, i32_w]
                rfl
              refine pure_ (i := 13) (N := some 96) (v := ?_) (a' := ?_) #[true, true, true, false, false, true, true, true, true, true, true, true, true, true, false, false, true, false, true, true, false, false, false] rfl rfl (by kernel_rfl) (fun _ _ _ h => h) (Or.inl ⟨by rfl, ?_⟩) ?_ ?_
              rotate_left
              · intro w'
                go_simp
                with_reducible rfl
              rotate_left
              · simp only [Act.put, List.setIfInBounds_toArray, List.set_cons_zero, List.set_cons_succ, i64_w, i32_w]
                rfl
              refine pure_ (i := 14) (N := some 97) (v := ?_) (a' := ?_) #[true, true, true, false, false, true, true, true, true, true, true, true, true, true, true, false, true, false, true, true, false, false, false] rfl rfl (by kernel_rfl) (fun _ _ _ h => h) (Or.inl ⟨by rfl, ?_⟩) ?_ ?_
              rotate_left
              · intro w'
                go_simp
                with_reducible rfl
              rotate_left
              · simp only [Act.put, List.setIfInBounds_toArray, List.set_cons_zero, List.set_cons_succ, i64_w, i32_w]
                rfl
              refine take_ (i := 20) (N := some 103) (v := ?_) (a' := ?_) #[true, true, true, false, false, true, true, true, true, true, true, true, true, true, true, false, true, false, true, true, true, false, false] rfl rfl (by kernel_rfl) (fun _ _ _ h => h) (Or.inl ⟨by rfl, ?_⟩) hHeld ?_ ?_
              rotate_left
              · rintro w' ⟨s0, s1, s2, s3⟩
                go_simp
                with_reducible rfl
              rotate_left
              · simp only [Act.put, List.setIfInBounds_toArray, List.set_cons_zero, List.set_cons_succ, i64_w, i32_w]
                rfl
              refine one_ (i := 3) (N := some 86) #[true, true, true, true, false, true, true, true, true, true, true, true, true, true, true, false, true, false, true, true, true, false, false] rfl rfl (by kernel_rfl) (by decide) (fun K hK => ?_)
              refine goes_ Try.func17 (by kernel_rfl) rfl #[.int .u32 r.e, .int .i64 6, .int .i64 11, .int .i64 25] (by rfl) rfl rfl (by simp only [List.map_toArray, List.map_cons, List.map_nil]; rfl) ?_
              with_reducible refine (turned_any r.e 6 11 25 _ (by omega) (by omega) (by omega)).mono ?_
              rintro x w9 ⟨rfl, hb⟩
              have HB9 := Aside0.mk hb
              clear hb
              have HM9 := Aside0.mk (HM8.out.below_ HB9.out)
              refine ⟨_, rfl, ?_⟩
              refine hK.out _ _ ⟨HM9.out.r7, HM9.out.r6, HM9.out.r5, (pw_cell_below HB9.out hwi)⟩ (fun hHeld => ?_)
              clear hK K
              refine norm_ (a' := ?_) ?_ ?_
              rotate_left
              · show Act.put _ (some 86) _ = _
                simp only [Act.put, List.setIfInBounds_toArray, List.set_cons_zero, List.set_cons_succ, i64_w, i32_w]
                rfl
              refine pure_ (i := 4) (N := some 87) (v := ?_) (a' := ?_) #[true, true, true, true, true, true, true, true, true, true, true, true, true, true, true, false, true, false, true, true, true, false, false] rfl rfl (by kernel_rfl) (fun _ _ _ h => h) (Or.inl ⟨by rfl, ?_⟩) ?_ ?_
              rotate_left
              · intro w'
                go_simp
                with_reducible rfl
              rotate_left
              · simp only [Act.put, List.setIfInBounds_toArray, List.set_cons_zero, List.set_cons_succ, i64_w, i32_w]
                rfl
              refine pure_ (i := 15) (N := some 98) (v := ?_) (a' := ?_) #[true, true, true, true, true, true, true, true, true, true, true, true, true, true, true, true, true, false, true, true, true, false, false] rfl rfl (by kernel_rfl) (fun _ _ _ h => h) (Or.inl ⟨by rfl, ?_⟩) ?_ ?_
              rotate_left
              · intro w'
                go_simp
                with_reducible rfl
              rotate_left
              · simp only [Act.put, List.setIfInBounds_toArray, List.set_cons_zero, List.set_cons_succ, i64_w, i32_w]
                rfl
              refine pure_ (i := 17) (N := some 100) (v := ?_) (a' := ?_) #[true, true, true, true, true, true, true, true, true, true, true, true, true, true, true, true, true, true, true, true, true, false, false] rfl rfl (by kernel_rfl) (fun _ _ _ h => h) (Or.inl ⟨by rfl, ?_⟩) ?_ ?_
              rotate_left
              · intro w'
                go_simp
                with_reducible rfl
              rotate_left
              · simp only [Act.put, List.setIfInBounds_toArray, List.set_cons_zero, List.set_cons_succ, i64_w, i32_w]
                rfl
              refine pure_ (i := 21) (N := some 104) (v := ?_) (a' := ?_) #[true, true, true, true, true, true, true, true, true, true, true, true, true, true, true, true, true, true, true, true, true, true, false] rfl rfl (by kernel_rfl) (fun _ _ _ h => h) (Or.inl ⟨by rfl, ?_⟩) ?_ ?_
              rotate_left
              · intro w'
                go_simp
                with_reducible rfl
              rotate_left
              · simp only [Act.put, List.setIfInBounds_toArray, List.set_cons_zero, List.set_cons_succ, i64_w, i32_w]
                rfl
              refine pure_ (i := 22) (N := some 15) (v := ?_) (a' := ?_) #[true, true, true, true, true, true, true, true, true, true, true, true, true, true, true, true, true, true, true, true, true, true, true] rfl rfl (by kernel_rfl) (fun _ _ _ h => h) (Or.inl ⟨by rfl, ?_⟩) ?_ ?_
              rotate_left
              · intro w'
                go_simp
                with_reducible rfl
              rotate_left
              · simp only [Act.put, List.setIfInBounds_toArray, List.set_cons_zero, List.set_cons_succ, i64_w, i32_w]
                rfl
              refine done_ (by kernel_rfl) ?_
              -- END A22
              go_wp2_with fail
              have HM10 := Aside0.mk (HM9.out.below_ (below_drew (Below.refl _ _)))
              -- BEGIN A23
              refine start_ (n := 19) (S := fun w' => w'.cell? ⟨gr, 0, none⟩ = some (.int .u32 r.a) ∧ w'.cell? ⟨gr, 1, none⟩ = some (.int .u32 r.b) ∧ w'.cell? ⟨gr, 2, none⟩ = some (.int .u32 r.c)) (ds := []) #[false, false, false, false, false, false, false, false, false, false, false, false, false, false, false, false, false, false, false] (by kernel_rfl) rfl rfl ⟨HM10.out.r0, HM10.out.r1, HM10.out.r2⟩ (fun hHeld => ?_)
              refine pure_ (i := 0) (N := some 105) (v := ?_) (a' := ?_) #[true, false, false, false, false, false, false, false, false, false, false, false, false, false, false, false, false, false, false] rfl rfl (by kernel_rfl) (fun _ _ _ h => h) (Or.inl ⟨by rfl, ?_⟩) ?_ ?_
              rotate_left
              · intro w'
                go_simp
                with_reducible rfl
              rotate_left
              · simp only [Act.put, List.setIfInBounds_toArray, List.set_cons_zero, List.set_cons_succ, i64_w, i32_w]
                rfl
              refine pure_ (i := 3) (N := some 108) (v := ?_) (a' := ?_) #[true, false, false, true, false, false, false, false, false, false, false, false, false, false, false, false, false, false, false] rfl rfl (by kernel_rfl) (fun _ _ _ h => h) (Or.inl ⟨by rfl, ?_⟩) ?_ ?_
              rotate_left
              · intro w'
                go_simp
                with_reducible rfl
              rotate_left
              · simp only [Act.put, List.setIfInBounds_toArray, List.set_cons_zero, List.set_cons_succ, i64_w, i32_w]
                rfl
              refine pure_ (i := 5) (N := some 110) (v := ?_) (a' := ?_) #[true, false, false, true, false, true, false, false, false, false, false, false, false, false, false, false, false, false, false] rfl rfl (by kernel_rfl) (fun _ _ _ h => h) (Or.inl ⟨by rfl, ?_⟩) ?_ ?_
              rotate_left
              · intro w'
                go_simp
                with_reducible rfl
              rotate_left
              · simp only [Act.put, List.setIfInBounds_toArray, List.set_cons_zero, List.set_cons_succ, i64_w, i32_w]
                rfl
              refine pure_ (i := 8) (N := some 113) (v := ?_) (a' := ?_) #[true, false, false, true, false, true, false, false, true, false, false, false, false, false, false, false, false, false, false] rfl rfl (by kernel_rfl) (fun _ _ _ h => h) (Or.inl ⟨by rfl, ?_⟩) ?_ ?_
              rotate_left
              · intro w'
                go_simp
                with_reducible rfl
              rotate_left
              · simp only [Act.put, List.setIfInBounds_toArray, List.set_cons_zero, List.set_cons_succ, i64_w, i32_w]
                rfl
              refine pure_ (i := 10) (N := some 115) (v := ?_) (a' := ?_) #[true, false, false, true, false, true, false, false, true, false, true, false, false, false, false, false, false, false, false] rfl rfl (by kernel_rfl) (fun _ _ _ h => h) (Or.inl ⟨by rfl, ?_⟩) ?_ ?_
              rotate_left
              · intro w'
                go_simp
                with_reducible rfl
              rotate_left
              · simp only [Act.put, List.setIfInBounds_toArray, List.set_cons_zero, List.set_cons_succ, i64_w, i32_w]
                rfl
              refine pure_ (i := 12) (N := some 117) (v := ?_) (a' := ?_) #[true, false, false, true, false, true, false, false, true, false, true, false, true, false, false, false, false, false, false] rfl rfl (by kernel_rfl) (fun _ _ _ h => h) (Or.inl ⟨by rfl, ?_⟩) ?_ ?_
              rotate_left
              · intro w'
                go_simp
                with_reducible rfl
              rotate_left
              · simp only [Act.put, List.setIfInBounds_toArray, List.set_cons_zero, List.set_cons_succ, i64_w, i32_w]
                rfl
              refine take_ (i := 1) (N := some 106) (v := ?_) (a' := ?_) #[true, true, false, true, false, true, false, false, true, false, true, false, true, false, false, false, false, false, false] rfl rfl (by kernel_rfl) (fun _ _ _ h => h) (Or.inl ⟨by rfl, ?_⟩) hHeld ?_ ?_
              rotate_left
              · rintro w' ⟨s0, s1, s2⟩
                go_simp
                with_reducible rfl
              rotate_left
              · simp only [Act.put, List.setIfInBounds_toArray, List.set_cons_zero, List.set_cons_succ, i64_w, i32_w]
                rfl
              refine take_ (i := 4) (N := some 109) (v := ?_) (a' := ?_) #[true, true, false, true, true, true, false, false, true, false, true, false, true, false, false, false, false, false, false] rfl rfl (by kernel_rfl) (fun _ _ _ h => h) (Or.inl ⟨by rfl, ?_⟩) hHeld ?_ ?_
              rotate_left
              · rintro w' ⟨s0, s1, s2⟩
                go_simp
                with_reducible rfl
              rotate_left
              · simp only [Act.put, List.setIfInBounds_toArray, List.set_cons_zero, List.set_cons_succ, i64_w, i32_w]
                rfl
              refine take_ (i := 6) (N := some 111) (v := ?_) (a' := ?_) #[true, true, false, true, true, true, true, false, true, false, true, false, true, false, false, false, false, false, false] rfl rfl (by kernel_rfl) (fun _ _ _ h => h) (Or.inl ⟨by rfl, ?_⟩) hHeld ?_ ?_
              rotate_left
              · rintro w' ⟨s0, s1, s2⟩
                go_simp
                with_reducible rfl
              rotate_left
              · simp only [Act.put, List.setIfInBounds_toArray, List.set_cons_zero, List.set_cons_succ, i64_w, i32_w]
                rfl
              refine pure_ (i := 7) (N := some 112) (v := ?_) (a' := ?_) #[true, true, false, true, true, true, true, true, true, false, true, false, true, false, false, false, false, false, false] rfl rfl (by kernel_rfl) (fun _ _ _ h => h) (Or.inl ⟨by rfl, ?_⟩) ?_ ?_
              rotate_left
              · intro w'
                go_simp
                with_reducible rfl
              rotate_left
              · simp only [Act.put, List.setIfInBounds_toArray, List.set_cons_zero, List.set_cons_succ, i64_w, i32_w]
                rfl
              refine take_ (i := 9) (N := some 114) (v := ?_) (a' := ?_) #[true, true, false, true, true, true, true, true, true, true, true, false, true, false, false, false, false, false, false] rfl rfl (by kernel_rfl) (fun _ _ _ h => h) (Or.inl ⟨by rfl, ?_⟩) hHeld ?_ ?_
              rotate_left
              · rintro w' ⟨s0, s1, s2⟩
                go_simp
                with_reducible rfl
              rotate_left
              · simp only [Act.put, List.setIfInBounds_toArray, List.set_cons_zero, List.set_cons_succ, i64_w, i32_w]
                rfl
              refine take_ (i := 11) (N := some 116) (v := ?_) (a' := ?_) #[true, true, false, true, true, true, true, true, true, true, true, true, true, false, false, false, false, false, false] rfl rfl (by kernel_rfl) (fun _ _ _ h => h) (Or.inl ⟨by rfl, ?_⟩) hHeld ?_ ?_
              rotate_left
              · rintro w' ⟨s0, s1, s2⟩
                go_simp
                with_reducible rfl
              rotate_left
              · simp only [Act.put, List.setIfInBounds_toArray, List.set_cons_zero, List.set_cons_succ, i64_w, i32_w]
                rfl
              refine take_ (i := 13) (N := some 118) (v := ?_) (a' := ?_) #[true, true, false, true, true, true, true, true, true, true, true, true, true, true, false, false, false, false, false] rfl rfl (by kernel_rfl) (fun _ _ _ h => h) (Or.inl ⟨by rfl, ?_⟩) hHeld ?_ ?_
              rotate_left
              · rintro w' ⟨s0, s1, s2⟩
                go_simp
                with_reducible rfl
              rotate_left
              · simp only [Act.put, List.setIfInBounds_toArray, List.set_cons_zero, List.set_cons_succ, i64_w, i32_w]
                rfl
              refine pure_ (i := 14) (N := some 119) (v := ?_) (a' := ?_) #[true, true, false, true, true, true, true, true, true, true, true, true, true, true, true, false, false, false, false] rfl rfl (by kernel_rfl) (fun _ _ _ h => h) (Or.inl ⟨by rfl, ?_⟩) ?_ ?_
              rotate_left
              · intro w'
                go_simp
                with_reducible rfl
              rotate_left
              · simp only [Act.put, List.setIfInBounds_toArray, List.set_cons_zero, List.set_cons_succ, i64_w, i32_w]
                rfl
              refine pure_ (i := 15) (N := some 120) (v := ?_) (a' := ?_) #[true, true, false, true, true, true, true, true, true, true, true, true, true, true, true, true, false, false, false] rfl rfl (by kernel_rfl) (fun _ _ _ h => h) (Or.inl ⟨by rfl, ?_⟩) ?_ ?_
              rotate_left
              · intro w'
                go_simp
                with_reducible rfl
              rotate_left
              · simp only [Act.put, List.setIfInBounds_toArray, List.set_cons_zero, List.set_cons_succ, i64_w, i32_w]
                rfl
              refine pure_ (i := 16) (N := some 121) (v := ?_) (a' := ?_) #[true, true, false, true, true, true, true, true, true, true, true, true, true, true, true, true, true, false, false] rfl rfl (by kernel_rfl) (fun _ _ _ h => h) (Or.inl ⟨by rfl, ?_⟩) ?_ ?_
              rotate_left
              · intro w'
                go_simp
                with_reducible rfl
              rotate_left
              · simp only [Act.put, List.setIfInBounds_toArray, List.set_cons_zero, List.set_cons_succ, i64_w, i32_w]
                rfl
              refine one_ (i := 2) (N := some 107) #[true, true, true, true, true, true, true, true, true, true, true, true, true, true, true, true, true, false, false] rfl rfl (by kernel_rfl) (by decide) (fun K hK => ?_)
              refine goes_ Try.func17 (by kernel_rfl) rfl #[.int .u32 r.a, .int .i64 2, .int .i64 13, .int .i64 22] (by rfl) rfl rfl (by simp only [List.map_toArray, List.map_cons, List.map_nil]; rfl) ?_
              with_reducible refine (turned_any r.a 2 13 22 _ (by omega) (by omega) (by omega)).mono ?_
              rintro x w11 ⟨rfl, hb⟩
              have HB11 := Aside0.mk hb
              clear hb
              have HM11 := Aside0.mk (HM10.out.below_ HB11.out)
              refine ⟨_, rfl, ?_⟩
              refine hK.out _ _ ⟨HM11.out.r0, HM11.out.r1, HM11.out.r2⟩ (fun hHeld => ?_)
              clear hK K
              refine norm_ (a' := ?_) ?_ ?_
              rotate_left
              · show Act.put _ (some 107) _ = _
                simp only [Act.put, List.setIfInBounds_toArray, List.set_cons_zero, List.set_cons_succ, i64_w, i32_w]
                rfl
              refine pure_ (i := 17) (N := some 122) (v := ?_) (a' := ?_) #[true, true, true, true, true, true, true, true, true, true, true, true, true, true, true, true, true, true, false] rfl rfl (by kernel_rfl) (fun _ _ _ h => h) (Or.inl ⟨by rfl, ?_⟩) ?_ ?_
              rotate_left
              · intro w'
                go_simp
                with_reducible rfl
              rotate_left
              · simp only [Act.put, List.setIfInBounds_toArray, List.set_cons_zero, List.set_cons_succ, i64_w, i32_w]
                rfl
              refine pure_ (i := 18) (N := some 16) (v := ?_) (a' := ?_) #[true, true, true, true, true, true, true, true, true, true, true, true, true, true, true, true, true, true, true] rfl rfl (by kernel_rfl) (fun _ _ _ h => h) (Or.inl ⟨by rfl, ?_⟩) ?_ ?_
              rotate_left
              · intro w'
                go_simp
                with_reducible rfl
              rotate_left
              · simp only [Act.put, List.setIfInBounds_toArray, List.set_cons_zero, List.set_cons_succ, i64_w, i32_w]
                rfl
              refine done_ (by kernel_rfl) ?_
              -- END A23
              go_wp2_with fail
              have HM12 := Aside0.mk (HM11.out.below_ (below_drew (Below.refl _ _)))
              -- BEGIN A24
              refine start_ (n := 3) (S := fun w' => True) (ds := []) #[false, false, false] (by kernel_rfl) rfl rfl trivial (fun hHeld => ?_)
              refine pure_ (i := 0) (N := some 123) (v := ?_) (a' := ?_) #[true, false, false] rfl rfl (by kernel_rfl) (fun _ _ _ h => h) (Or.inl ⟨by rfl, ?_⟩) ?_ ?_
              rotate_left
              · intro w'
                go_simp
                with_reducible rfl
              rotate_left
              · simp only [Act.put, List.setIfInBounds_toArray, List.set_cons_zero, List.set_cons_succ, i64_w, i32_w]
                rfl
              refine pure_ (i := 1) (N := some 124) (v := ?_) (a' := ?_) #[true, true, false] rfl rfl (by kernel_rfl) (fun _ _ _ h => h) (Or.inl ⟨by rfl, ?_⟩) ?_ ?_
              rotate_left
              · intro w'
                go_simp
                with_reducible rfl
              rotate_left
              · simp only [Act.put, List.setIfInBounds_toArray, List.set_cons_zero, List.set_cons_succ, i64_w, i32_w]
                rfl
              refine one_ (i := 2) (N := some 125) #[true, true, true] rfl rfl (by kernel_rfl) (by decide) (fun K hK => ?_)
              refine copy8_ gr r (.tmp 123) (.tmp 124) (by rfl) rfl rfl rfl rfl HM12.out.st ?_
              intro w13 hU
              have HM13 := Aside0.mk (HM12.out.upd hU)
              clear hU
              refine hK.out _ _ trivial (fun hHeld => ?_)
              clear hK K
              refine norm_ (a' := ?_) ?_ ?_
              rotate_left
              · show Act.put _ (some 125) _ = _
                simp only [Act.put, List.setIfInBounds_toArray, List.set_cons_zero, List.set_cons_succ, i64_w, i32_w]
                rfl
              refine done_ (by kernel_rfl) ?_
              -- END A24
              have c0 := HM13.out.r0
              have f0 := HM13.out.fz 0
              have f4 := HM13.out.fz 4
              have c4 := HM13.out.r4
              go_wp2_with fail
              go_roundw
              case rel =>
                refine ⟨i + 1, by go_num, ⟨by omega⟩, ⟨?_⟩⟩
                rw [show rnds s (sched b 64) (i + 1) = rnd r (at0 keysL i) (at0 (sched b 64) i) from by rw [HRR.out]; rfl]
                refine HM13.out.set04 r _ _ _ _ rfl ?_ ?_
                · simp only [m32, tmp1, tmp2, chA, majA]; omega
                · simp only [m32, tmp1, tmp2, chA, majA]; omega
              case measure => simp [intOf]; omega
            · obtain rfl : i = 64 := by omega
              have hlt1 : decide ((((64 : Nat) : Int)) < 64) = false := by simp
              obtain ⟨r, hrr⟩ : ∃ r, r = rnds s (sched b 64) 64 := ⟨_, rfl⟩
              rw [← hrr] at HM
              have HRR := Aside0.mk hrr
              clear hrr
              have HM0 := Aside0.mk (show Mem2 w wr gw gr (mixS s r 0) (sched b 64) r from HM.out)
              clear HM
              obtain ⟨wo3, rfl⟩ : ∃ wo3 : World, wo3 = wr := ⟨_, rfl⟩
              go_wp2_with fail
              go_loopw [136] (fun v136 wr => ∃ j : Nat, v136 = .int .i64 j ∧ Aside0 (j ≤ 8) ∧ Aside0 (Mem2 w wr gw gr (mixS s r j) (sched b 64) r)) (fun v136 _ => 8 - (intOf v136).toNat)
              case atStart => exact ⟨0, rfl, ⟨by omega⟩, HM0⟩
              case round =>
                clear HM0 HI hi hlt
                obtain ⟨j, rfl, HJ, HM⟩ := hrel
                have hj := HJ.out
                by_cases hlt : j < 8
                · have hlt2 : decide ((j : Int) < 8) = true := by simp; omega
                  have hlt3 : (j : Int) < 8 := by omega
                  have c0 : wr.cell? ⟨w.heap.size, j, none⟩ = some (.int .u32 (at0 s.list j)) := by rw [St8.at_ HM.out.mem.box j hlt, mixS_at s r j hlt]
                  have c1 := St8.at_ HM.out.st j hlt
                  have f0 : ∀ k, wr.frozen? ⟨w.heap.size, k, none⟩ = false := fun k => blk_frozen HM.out.mem.box k
                  have HM1 := Aside0.mk (HM.out.below_ (below_drew (Below.refl _ _)))
                  go_wp2_with fail
                  -- BEGIN A31
                  refine start_ (n := 9) (S := fun w' => w'.cell? ⟨w.heap.size, j, none⟩ = some (.int .u32 (at0 s.list j)) ∧ w'.cell? ⟨gr, j, none⟩ = some (.int .u32 (at0 r.list j))) (ds := [8]) #[false, false, false, false, false, false, false, false, false] (by kernel_rfl) rfl rfl ⟨c0, c1⟩ (fun hHeld => ?_)
                  refine pure_ (i := 0) (N := some 139) (v := ?_) (a' := ?_) #[true, false, false, false, false, false, false, false, false] rfl rfl (by kernel_rfl) (fun _ _ _ h => h) (Or.inl ⟨by rfl, ?_⟩) ?_ ?_
                  rotate_left
                  · intro w'
                    go_simp
                    with_reducible rfl
                  rotate_left
                  · simp only [Act.put, List.setIfInBounds_toArray, List.set_cons_zero, List.set_cons_succ, i64_w, i32_w]
                    rfl
                  refine pure_ (i := 1) (N := some 140) (v := ?_) (a' := ?_) #[true, true, false, false, false, false, false, false, false] rfl rfl (by kernel_rfl) (fun _ _ _ h => h) (Or.inl ⟨by rfl, ?_⟩) ?_ ?_
                  rotate_left
                  · intro w'
                    go_simp
                    with_reducible rfl
                  rotate_left
                  · simp only [Act.put, List.setIfInBounds_toArray, List.set_cons_zero, List.set_cons_succ, i64_w, i32_w]
                    rfl
                  refine pure_ (i := 3) (N := some 142) (v := ?_) (a' := ?_) #[true, true, false, true, false, false, false, false, false] rfl rfl (by kernel_rfl) (fun _ _ _ h => h) (Or.inl ⟨by rfl, ?_⟩) ?_ ?_
                  rotate_left
                  · intro w'
                    go_simp
                    with_reducible rfl
                  rotate_left
                  · simp only [Act.put, List.setIfInBounds_toArray, List.set_cons_zero, List.set_cons_succ, i64_w, i32_w]
                    rfl
                  refine pure_ (i := 4) (N := some 143) (v := ?_) (a' := ?_) #[true, true, false, true, true, false, false, false, false] rfl rfl (by kernel_rfl) (fun _ _ _ h => h) (Or.inl ⟨by rfl, ?_⟩) ?_ ?_
                  rotate_left
                  · intro w'
                    go_simp
                    with_reducible rfl
                  rotate_left
                  · simp only [Act.put, List.setIfInBounds_toArray, List.set_cons_zero, List.set_cons_succ, i64_w, i32_w]
                    rfl
                  refine take_ (i := 2) (N := some 141) (v := ?_) (a' := ?_) #[true, true, true, true, true, false, false, false, false] rfl rfl (by kernel_rfl) (fun _ _ _ h => h) (Or.inl ⟨by rfl, ?_⟩) hHeld ?_ ?_
                  rotate_left
                  · rintro w' ⟨s0, s1⟩
                    go_simp
                    with_reducible rfl
                  rotate_left
                  · simp only [Act.put, List.setIfInBounds_toArray, List.set_cons_zero, List.set_cons_succ, i64_w, i32_w]
                    rfl
                  refine take_ (i := 5) (N := some 144) (v := ?_) (a' := ?_) #[true, true, true, true, true, true, false, false, false] rfl rfl (by kernel_rfl) (fun _ _ _ h => h) (Or.inl ⟨by rfl, ?_⟩) hHeld ?_ ?_
                  rotate_left
                  · rintro w' ⟨s0, s1⟩
                    go_simp
                    with_reducible rfl
                  rotate_left
                  · simp only [Act.put, List.setIfInBounds_toArray, List.set_cons_zero, List.set_cons_succ, i64_w, i32_w]
                    rfl
                  refine pure_ (i := 6) (N := some 145) (v := ?_) (a' := ?_) #[true, true, true, true, true, true, true, false, false] rfl rfl (by kernel_rfl) (fun _ _ _ h => h) (Or.inl ⟨by rfl, ?_⟩) ?_ ?_
                  rotate_left
                  · intro w'
                    go_simp
                    with_reducible rfl
                  rotate_left
                  · simp only [Act.put, List.setIfInBounds_toArray, List.set_cons_zero, List.set_cons_succ, i64_w, i32_w]
                    rfl
                  refine pure_ (i := 7) (N := some 146) (v := ?_) (a' := ?_) #[true, true, true, true, true, true, true, true, false] rfl rfl (by kernel_rfl) (fun _ _ _ h => h) (Or.inl ⟨by rfl, ?_⟩) ?_ ?_
                  rotate_left
                  · intro w'
                    go_simp
                    with_reducible rfl
                  rotate_left
                  · simp only [Act.put, List.setIfInBounds_toArray, List.set_cons_zero, List.set_cons_succ, i64_w, i32_w]
                    rfl
                  refine last_ (i := 8) (N := none) #[true, true, true, true, true, true, true, true, true] rfl rfl (by kernel_rfl) (by decide) (fun K hK => ?_)
                  refine skip_ (w1 := ?_) (by rfl) rfl ?_ ?_
                  rotate_left
                  · go_simp
                    rfl
                  refine hK.out _ _ ?_
                  clear hK K
                  refine done_ (by kernel_rfl) ?_
                  -- END A31
                  go_wp2_with fail
                  go_roundw
                  case rel => exact ⟨j + 1, by go_num, ⟨by omega⟩, ⟨HM1.out.setBox j _ (mixS_set s r j hlt)⟩⟩
                  case measure => simp [intOf]; omega
                · obtain rfl : j = 8 := by omega
                  have hlt2 : decide ((((8 : Nat) : Int)) < 8) = false := by simp
                  have HB := Aside0.mk (show mixS s r 8 = blk s b from by rw [HRR.out]; rfl)
                  rw [HB.out] at HM
                  go_wp2_with (first | (refine wpList_load_row rfl 28 (.tmp 2) rfl w.heap.size rfl 28 _ (0, 0) _ HM.out.mem.box Try.underlying28 rfl size28 ?_; have tokM : True := trivial) | (refine wpList_store_row' rfl 28 (.tmp 4) (.tmp 148) rfl (w.heap.size + 1) (nums .u32 (blk s b).list).toArray rfl rfl 28 _ HM.out.mem.ans size28 rfl (nums_one _ _) ?_; intro w9 hU9; have HU9 := Aside0.mk hU9; clear hU9))
                  refine bodyPost_ret (results_cell_tmp rfl _ _ (w.heap.size + 1) 28 (nums .u32 (blk s b).list).toArray (0, 0) _ _ rfl HU9.out.at_ Try.underlying28 rfl size28 rfl) rfl ?_
                  exact ⟨rfl, HU9.out.below HM.out.mem.below (by omega)⟩

set_option maxRecDepth 100000 in
theorem blockA_no (s : St8) (A : Option Addr) (c : Nat) (b : List Int) (w : World) (hb : b.length ≠ 64) :
    Calls Try.prog 11 #[s8V s, .slice A b.length c] w fun e w' => e = .returned (.tuple #[aggU (List.replicate 8 0), .bool false]) ∧ Below w.heap.size w w' := by
  have hb' : ((b.length : Int) != 64) = true := by simp; omega
  clear hb
  go_enter Try.func11, Try.ntmps11
  go_wp2_with (first | (refine wpList_alloc_row rfl 28 rfl _ (zero28 _) ?_; intro w2 hN2; have HN2 := Aside0.mk hN2; clear hN2) | (refine wpList_store_row' rfl 28 (.tmp 4) (.tmp 21) rfl (w.heap.size + 1) (nums .u32 (List.replicate 8 0)).toArray rfl rfl 28 _ (by have := HN2.out.at_; rwa [World.size_alloc] at this) size28 rfl (nums_one _ _) ?_; intro w9 hU9; have HU9 := Aside0.mk hU9; clear hU9))
  refine bodyPost_ret (results_cell_tmp rfl _ _ (w.heap.size + 1) 28 (nums .u32 (List.replicate 8 0)).toArray (0, 0) _ _ rfl HU9.out.at_ Try.underlying28 rfl size28 rfl) rfl ?_
  exact ⟨rfl, HU9.out.below ((New.alloc w (s8O s)).below.trans (HN2.out.below.mono (by simp))) (by omega)⟩
end Go.Proofs.Ytpllmkcbkdahbaa.Sha
