/- What a trace's writing-down does (functions 36 and 44): an event is appended while fewer than 1000 are kept, counted, and mixed into the sum. -/
import Derived.Test.YtjpibgehhgaopaaGreatTx0
import Derived.Deep.RegionLaw
import Derived.Outline
import Derived.BigRegion
import Derived.Deep.RegionHeld3
import Derived.Deep.DeepCutAuto
import Derived.Lib.Hide
import Derived.WalkSpells
import Derived.Test.YtjpibgehhgaopaaGreatZ04
namespace Go.Proofs.YtjpibgehhgaopaaGreat.Top
open Go.RowKit Go.Proofs.YtjpibgehhgaopaaGreatW.PrintWords Go.Proofs.YtjpibgehhgaopaaGreatW.PrintLast Go.Proofs.YtjpibgehhgaopaaGreat.PTopGenerated
set_option linter.unusedVariables false
set_option linter.unusedSimpArgs false

theorem info193 : (Tryz.prog.info? 193).map (fun i => (i.zero, i.size, i.bytes)) = some (some (.agg #[(.int .i64 0), (.int .i64 0), (.int .i64 0)]), 3, 24) := by kernel_rfl
theorem cell_of_grown {w w1 : World} {row : Option Nat} (hg : w.grownBy w1 row) {g i : Nat} {u : Value} (hlt : g < w.heap.size) (hne : some g ≠ row) (h : w.cell? ⟨g, i, none⟩ = some u) : w1.cell? ⟨g, i, none⟩ = some u :=
  (World.cell?_of_block (a := ⟨g, i, none⟩) (hg.block g hlt hne)).trans h

theorem cell_newd {w : World} {cs : Array Value} {t : TypeId} {n : Nat} (hn : n = w.heap.size) (i : Nat) : ((w.alloc (.cells cs t)).drew).cell? ⟨n, i, none⟩ = cs[i]? := by
  subst hn; simp
/-- Only block tb, one row and what is new have turned. -/
structure Only (w w' : World) (tb : Nat) (row : Option Nat) : Prop where
  os : w'.os = w.os
  tape : w'.tape = w.tape
  output : w'.output = w.output
  size : w.heap.size ≤ w'.heap.size
  block : ∀ k, k < w.heap.size → k ≠ tb → some k ≠ row → w'.heap[k]? = w.heap[k]?
theorem Only.refl (w : World) (tb : Nat) (row : Option Nat) : Only w w tb row := ⟨rfl, rfl, rfl, Nat.le_refl _, fun _ _ _ _ => rfl⟩
theorem Only.alloc {w w' : World} {tb : Nat} {row : Option Nat} (h : Only w w' tb row) (o : Obj) : Only w (w'.alloc o) tb row :=
  ⟨h.os, h.tape, h.output, by have := h.size; simp; omega, fun k hk h1 h2 => (Below.heap_alloc _ _ _ (by have := h.size; omega)).trans (h.block k hk h1 h2)⟩
theorem Only.drew {w w' : World} {tb : Nat} {row : Option Nat} (h : Only w w' tb row) : Only w w'.drew tb row := ⟨h.os, h.tape, h.output, h.size, h.block⟩
theorem Only.set_ {w w' : World} {tb : Nat} {row : Option Nat} (h : Only w w' tb row) (i : Nat) (u : Value) : Only w (w'.setCell ⟨tb, i, none⟩ u) tb row :=
  ⟨h.os, h.tape, h.output, by simpa using h.size, fun k hk h1 h2 => (Below.heap_setCell _ _ _ _ h1).trans (h.block k hk h1 h2)⟩
theorem Only.grown {w w' w1 : World} {tb : Nat} {row : Option Nat} (h : Only w w' tb row) (hg : w'.grownBy w1 row) : Only w w1 tb row :=
  ⟨hg.os.trans h.os, hg.tape.trans h.tape, hg.output.trans h.output, Nat.le_trans h.size hg.size, fun k hk h1 h2 => (hg.block k (by have := h.size; omega) h2).trans (h.block k hk h1 h2)⟩

/-- A row is the one that was, or a new one. -/
def AtOr (w : World) (v v' : Value) : Prop := v'.ownBlock = v.ownBlock ∨ ∃ b, v'.ownBlock = some b ∧ w.heap.size ≤ b
theorem AtOr.trans {w w1 : World} {v v1 v2 : Value} (h : AtOr w v v1) (hs : w.heap.size ≤ w1.heap.size) (k : AtOr w1 v1 v2) : AtOr w v v2 := by
  rcases k with k | ⟨b, k, hb⟩
  · rcases h with h | ⟨b, h, hb⟩
    · exact .inl (k.trans h)
    · exact .inr ⟨b, k.trans h, hb⟩
  · exact .inr ⟨b, k, by omega⟩
theorem Only.grown2 {w w' w1 : World} {tb : Nat} {v v' : Value} (h : Only w w' tb v.ownBlock) (hat : AtOr w v v') (hg : w'.grownBy w1 v'.ownBlock) : Only w w1 tb v.ownBlock :=
  ⟨hg.os.trans h.os, hg.tape.trans h.tape, hg.output.trans h.output, Nat.le_trans h.size hg.size, fun k hk h1 h2 => (hg.block k (by have := h.size; omega) (by
    rcases hat with e | ⟨b, e, hb⟩
    · rw [e]; exact h2
    · rw [e]; intro he; injection he with he; omega)).trans (h.block k hk h1 h2)⟩

def beg : Int := 14695981039346656037
def mixS (s n : Int) : Int := IntKind.u64.wrap ((Go.bits .xor .u64 s (IntKind.u64.wrap n)) * 1099511628211)
def mix3 (s a b c : Int) : Int := mixS (mixS (mixS s a) b) c
def mixN (s a b c : Int) : Nat → Int
  | 0 => s
  | 1 => mixS s a
  | 2 => mixS (mixS s a) b
  | _ => mix3 s a b c
theorem mixed3 (s a b c : Int) (g : Nat) (w : World) (h0 : w.cell? ⟨g, 0, none⟩ = some (.int .i64 a)) (h1 : w.cell? ⟨g, 1, none⟩ = some (.int .i64 b)) (h2 : w.cell? ⟨g, 2, none⟩ = some (.int .i64 c)) :
    Calls Tryz.prog 181 #[.int .u64 s, .slice (some ⟨g, 0, none⟩) 3 3] w fun e w' => e = .returned (.int .u64 (mix3 s a b c)) ∧ w = w' := by
  go_enter Tryz.func181, Tryz.ntmps181
  go_wp2
  go_loop [0, 9] (fun v0 v9 => ∃ k : Nat, k ≤ 3 ∧ v9 = .int .i64 k ∧ v0 = .int .u64 (mixN s a b c k)) (fun _ v9 => 3 - (intOf v9).toNat)
  case atStart => exact ⟨0, by omega, rfl, rfl⟩
  case round =>
    obtain ⟨k, hk, rfl, rfl⟩ := hrel
    rcases (show k = 0 ∨ k = 1 ∨ k = 2 ∨ k = 3 by omega) with rfl | rfl | rfl | rfl
    · go_wp2
      go_round
      case rel => exact ⟨1, by omega, rfl, rfl⟩
      case measure => simp [intOf]
    · go_wp2
      go_round
      case rel => exact ⟨2, by omega, rfl, rfl⟩
      case measure => simp [intOf]
    · go_wp2
      go_round
      case rel => exact ⟨3, by omega, rfl, rfl⟩
      case measure => simp [intOf]
    · go_wp2
      go_ret
      exact ⟨rfl, rfl⟩

/-- What the walk of 'put' wants of a world: the trace's own block, and the event's box at n. -/
structure Facts (w1 : World) (tb n : Nat) (v : Value) (m s : Int) (e : S193) : Prop where
  blk : w1.heap[tb]? = some (.cells #[v, .int .i64 m, .int .u64 s] 90 (0, 0))
  box : w1.heap[n]? = some (.cells #[.int .i64 e.f0, .int .i64 e.f1, .int .i64 e.f2] 193 (0, 0))
section
variable {w1 : World} {tb n : Nat} {v : Value} {m s : Int} {e : S193} (h : Facts w1 tb n v m s e)
include h
theorem Facts.g0 : w1.cell? ⟨tb, 0, none⟩ = some v := blk_cell h.blk 0
theorem Facts.g1 : w1.cell? ⟨tb, 1, none⟩ = some (.int .i64 m) := blk_cell h.blk 1
theorem Facts.g2 : w1.cell? ⟨tb, 2, none⟩ = some (.int .u64 s) := blk_cell h.blk 2
theorem Facts.k_ (i : Nat) : w1.frozen? ⟨tb, i, none⟩ = false := blk_frozen h.blk i
theorem Facts.b0 : w1.cell? ⟨n, 0, none⟩ = some (.int .i64 e.f0) := blk_cell h.box 0
theorem Facts.b1 : w1.cell? ⟨n, 1, none⟩ = some (.int .i64 e.f1) := blk_cell h.box 1
theorem Facts.b2 : w1.cell? ⟨n, 2, none⟩ = some (.int .i64 e.f2) := blk_cell h.box 2
theorem Facts.ne : n ≠ tb := (blk_ne h.box h.blk (by decide))
theorem Facts.set0 (u : Value) : Facts (w1.setCell ⟨tb, 0, none⟩ u) tb n u m s e := ⟨blk_set h.blk 0 u, blk_far h.box (p := ⟨tb, 0, none⟩) h.ne u⟩
theorem Facts.set1 (m' : Int) : Facts (w1.setCell ⟨tb, 1, none⟩ (.int .i64 m')) tb n v m' s e := ⟨blk_set h.blk 1 _, blk_far h.box (p := ⟨tb, 1, none⟩) h.ne _⟩
theorem Facts.set2 (s' : Int) : Facts (w1.setCell ⟨tb, 2, none⟩ (.int .u64 s')) tb n v m s' e := ⟨blk_set h.blk 2 _, blk_far h.box (p := ⟨tb, 2, none⟩) h.ne _⟩
theorem Facts.drew : Facts w1.drew tb n v m s e := ⟨h.blk, h.box⟩
theorem Facts.alloc (o : Obj) : Facts (w1.alloc o) tb n v m s e := ⟨(Below.heap_alloc _ _ _ (blk_lt h.blk)).trans h.blk, (Below.heap_alloc _ _ _ (blk_lt h.box)).trans h.box⟩
theorem Facts.grown {w2 : World} {row : Option Nat} (hg : w1.grownBy w2 row) (h1 : some tb ≠ row) (h2 : some n ≠ row) : Facts w2 tb n v m s e := ⟨blk_grown h.blk hg h1, blk_grown h.box hg h2⟩
end

abbrev boxE (e : S193) : Obj := Obj.cells #[Value.int IntKind.i64 e.f0, Value.int IntKind.i64 e.f1, Value.int IntKind.i64 e.f2] 193
def PutPost (w w' : World) (B tb : Nat) (v : Value) (xs : List S193) (m s : Int) : Prop :=
  ∃ A c, w'.heap[tb]? = some (.cells #[.slice A xs.length c, .int .i64 m, .int .u64 s] 90 (0, 0)) ∧ Kd.R k193 193 w' B (fun _ => True) (.slice A xs.length c) xs ∧ Only w w' tb v.ownBlock ∧
    AtOr w v (.slice A xs.length c)

/-- The state between put's statements: the trace's block, the event's box, the row, what has turned. -/
def Mid (w : World) (B tb : Nat) (v : Value) (xs : List S193) (m s : Int) (e : S193) (wc : World) : Prop :=
  ∃ A c, Facts wc tb w.heap.size (.slice A xs.length c) m s e ∧ Kd.R k193 193 wc B (fun _ => True) (.slice A xs.length c) xs ∧ Only w wc tb v.ownBlock ∧
    AtOr w v (.slice A xs.length c) ∧ w.heap.size < wc.heap.size ∧ some w.heap.size ≠ (Value.slice A xs.length c).ownBlock
def kept (xs : List S193) (e : S193) : List S193 := if xs.length < 1000 then xs ++ [e] else xs

theorem mid_close {w wc w1 : World} {B tb : Nat} {v : Value} {A1 A2 : Option Addr} {xs : List S193} {c1 c2 : Nat} {m s : Int} {e : S193} (hx : xs.length < 1000)
    (F : Facts w1 tb w.heap.size (.slice A1 xs.length c1) m s e) (O : Only w w1 tb v.ownBlock) (hR : Kd.R k193 193 w1 B (fun _ => True) (.slice A2 (xs ++ [e]).length c2) (xs ++ [e]))
    (hA : AtOr w v (.slice A1 xs.length c1)) (hA1 : AtOr wc (.slice A1 xs.length c1) (.slice A2 (xs ++ [e]).length c2)) (hX : some w.heap.size ≠ (Value.slice A1 xs.length c1).ownBlock) (hS : wc.heap.size ≤ w1.heap.size) (hsz : w.heap.size < wc.heap.size) :
    Mid w B tb v (kept xs e) m s e (w1.setCell ⟨tb, 0, none⟩ (.slice A2 (xs.length + 1) c2)) := by
  have hl : (xs ++ [e]).length = xs.length + 1 := by simp
  have hk : kept xs e = xs ++ [e] := if_pos hx
  rw [hk]
  refine ⟨A2, c2, ?_, Kd.R_set hR F.blk (by decide) 0 _, O.set_ 0 _, hA.trans (Nat.le_of_lt hsz) hA1, by simp; omega, ?_⟩
  · rw [hl]; exact F.set0 _
  · rcases hA1 with h | ⟨b, h, hb⟩
    · rw [h]; exact hX
    · rw [h]; intro he; injection he with he; omega

theorem put_close {w wc : World} {B tb : Nat} {v : Value} {xs : List S193} {m s : Int} {e : S193} (h : Mid w B tb v xs m s e wc) (m' s' : Int) (o : Obj) :
    PutPost w ((((wc.setCell ⟨tb, 1, none⟩ (.int .i64 m')).alloc o).setCell ⟨tb, 2, none⟩ (.int .u64 s')).drew) B tb v xs m' s' := by
  obtain ⟨A, c, F, hR, O, hat, _, _⟩ := h
  have F1 := F.set1 m'
  have R1 := Kd.R_set hR F.blk (by decide) 1 (.int .i64 m')
  have F2 := F1.alloc o
  have R2 := Kd.R_alloc R1 o
  have F3 := F2.set2 s'
  have R3 := Kd.R_set R2 F2.blk (by decide) 2 (.int .u64 s')
  exact ⟨A, c, F3.drew.blk, Kd.R_drew R3, (((O.set_ 1 _).alloc o).set_ 2 _).drew, hat⟩

set_option maxHeartbeats 1000000 in
set_option maxRecDepth 100000 in
theorem put_any (B tb : Nat) (A : Option Addr) (xs : List S193) (c : Nat) (m s : Int) (e : S193) (w : World) (hB : B ≤ tb)
    (hblk : w.heap[tb]? = some (.cells #[.slice A xs.length c, .int .i64 m, .int .u64 s] 90 (0, 0))) (hR : Kd.R k193 193 w B (fun _ => True) (.slice A xs.length c) xs)
    (hm : m = 0 → s = beg) :
    Calls Tryz.prog 138 #[.pointer (some ⟨tb, 0, none⟩), .agg #[.int .i64 e.f0, .int .i64 e.f1, .int .i64 e.f2]] w fun x w' => x = .returned (.tuple #[]) ∧ PutPost w w' B tb (.slice A xs.length c) (kept xs e) (wrap64 (m + 1)) (mix3 s e.f0 e.f1 e.f2) := by
  have hu193 := Tryz.underlying193
  have hu90 := Tryz.underlying90
  have htb : tb < w.heap.size := blk_lt hblk
  have hbw : B ≤ w.heap.size := by omega
  have hbox0 : some w.heap.size ≠ (Value.slice A xs.length c).ownBlock := fun he => by
    obtain ⟨inner, hown⟩ := Kd.R_own hR
    have := own_lt hown _ he.symm; omega
  have hM0 : Mid w B tb (.slice A xs.length c) xs m s e (w.alloc (boxE e)) := ⟨A, c, ⟨(Below.heap_alloc _ _ _ htb).trans hblk, heap_alloc_new w _⟩, Kd.R_alloc hR _, (Only.refl w tb _).alloc _, .inl rfl, by simp, hbox0⟩
  have HM0 := Aside0.mk hM0
  have HM := Aside0.mk hm
  have h1 : w.cell? ⟨tb, 1, none⟩ = some (.int .i64 m) := blk_cell hblk 1
  have h2 : w.cell? ⟨tb, 2, none⟩ = some (.int .u64 s) := blk_cell hblk 2
  have f2 := blk_frozen hblk 2
  have HBK := Aside0.mk hblk
  have HR0 := Aside0.mk hR
  have HX := Aside0.mk hbox0
  clear hblk hR hm hM0 hbox0
  go_enter Tryz.func138, Tryz.ntmps138
  go_upto_if 10 with (fail)
  go_cut [] (fun wc => Mid w B tb (.slice A xs.length c) xs m s e wc)
  case first =>
    by_cases hm0 : (m == 0) = true
    · go_wp2
      go_meet
      case rel =>
        have hs := HM.out (by simpa using hm0)
        subst hs
        have hn := heap_alloc_new (w.setCell ⟨tb, 2, none⟩ (.int .u64 beg)) (boxE e)
        rw [World.size_setCell] at hn
        exact ⟨A, c, ⟨(Below.heap_alloc _ _ _ (by simp; omega)).trans (blk_set HBK.out 2 (.int .u64 beg)), hn⟩, Kd.R_alloc (Kd.R_set HR0.out HBK.out (by decide) 2 _) _, ((Only.refl w tb _).set_ 2 _).alloc _, .inl rfl, by simp, HX.out⟩
    · have hm0' : (m == 0) = false := by simpa using hm0
      clear hm0
      go_wp2
      go_meet
      case rel => exact HM0.out
  case rest =>
    clear HM0 HM h1 h2 f2 HBK HR0 HX
    obtain ⟨A1, c1, F, hR, O, hat, hsz, hbox⟩ := hcut
    have g0 := F.g0
    have k0 := F.k_ 0
    have b0 := F.b0
    have b1 := F.b1
    have b2 := F.b2
    have hne := Kd.R_ne hR F.blk (by decide)
    have FF := Aside0.mk F
    have FR := Aside0.mk hR
    have FO := Aside0.mk O
    have FA := Aside0.mk hat
    have FX := Aside0.mk hbox
    have FN := Aside0.mk hne
    clear F hR O hat hne hbox
    go_upto_if 19 with (fail)
    go_cut [] (fun wd => Mid w B tb (.slice A xs.length c) (kept xs e) m s e wd)
    case first =>
      by_cases hx : xs.length < 1000
      · have hx' : decide ((xs.length : Int) < 1000) = true := by simp; omega
        have HL := Aside0.mk (show (xs.length + 1) * 24 ≤ 140737488355328 by omega)
        have FR1 := Aside0.mk (Kd.R_drew FR.out)
        have hbw2 : B ≤ wc.heap.size := by omega
        have htbc : tb < wc.heap.size := by omega
        have HBb := Aside0.mk ((Below.refl B wc).drew)
        go_wp2
        go_region_law (refine Kd.R_append_step k193 (w0 := wc) (W := wc.drew) B rfl (.tmp 24) (.tmp 26) 88 193 _ 24 rfl Tryz.underlying88 info193 rfl (by decide) (by decide) (.slice A1 xs.length c1) xs e [.int .i64 e.f0, .int .i64 e.f1, .int .i64 e.f2] (fun _ => True) (fun _ => False) rfl (by simp [Act.eval]) (k193_mkM _ _ _ e) (fun _ h => h.elim) (fun _ _ => trivial) FR1.out HBb.out (by simp; omega) HL.out ?_; intro v1 w1 hR1 hB1 hg1 hat1; obtain ⟨A2, c2, hv1⟩ := Kd.R_slice hR1; rw [hv1]; have HF1 := Aside0.mk (FF.out.drew.grown hg1 FN.out FX.out); have g0 := HF1.out.g0; have k0 := HF1.out.k_ 0; have HO1 := Aside0.mk (FO.out.drew.grown2 (w1 := w1) FA.out hg1); have HR1 := Aside0.mk (hv1 ▸ hR1); have HA1 := Aside0.mk (show AtOr wc.drew (.slice A1 xs.length c1) (.slice A2 (xs ++ [e]).length c2) from hv1 ▸ hat1);  have HS1 := Aside0.mk hg1.size; clear hR1 hB1 hg1 hat1)
        all_goals go_wp2
        all_goals go_meet
        all_goals
          case rel => exact mid_close hx HF1.out HO1.out HR1.out FA.out HA1.out FX.out HS1.out hsz
      · have hx' : decide ((xs.length : Int) < 1000) = false := by simp; omega
        go_wp2
        go_meet
        case rel => 
          rw [show kept xs e = xs from if_neg hx]
          exact ⟨A1, c1, FF.out, FR.out, FO.out, FA.out, hsz, FX.out⟩
    case rest =>
      clear FF FR FO FA FX FN g0 k0 b0 b1 b2 hsz
      have hMid := Aside0.mk hcut
      obtain ⟨A2, c2, F, hR, O, hat, hsz, hbox⟩ := hcut
      have HFf := Aside0.mk F
      have HRr := Aside0.mk hR
      have HOo := Aside0.mk O
      have HAa := Aside0.mk hat
      have htbc : tb < wc.heap.size := blk_lt F.blk
      have hf1 := Aside0.mk (F.set1 (wrap64 (m + 1)))
      have g1 := F.g1
      have k1 := F.k_ 1
      clear F hR O hat hbox
      go_wp2
      obtain ⟨w7, hw7⟩ : ∃ w7, w7 = wc.setCell ⟨tb, 1, none⟩ (.int .i64 (wrap64 (m + 1))) := ⟨_, rfl⟩
      rw [← hw7]
      have F7 := Aside0.mk (show Facts w7 tb w.heap.size _ _ s e from hw7 ▸ hf1.out)
      have F8 := Aside0.mk (F7.out.alloc (Obj.cells #[Value.int IntKind.i64 e.f0, Value.int IntKind.i64 e.f1, Value.int IntKind.i64 e.f2] 3))
      have k3 := F8.out.k_ 2
      have g3 := F8.out.g2
      have HW7 := Aside0.mk hw7
      clear hw7
      -- BEGIN REGION 7
      refine start_ (n := 16) (S := fun w' => w'.cell? ⟨tb, 2, none⟩ = some (.int .u64 s) ∧ w'.cell? ⟨w.heap.size, 0, none⟩ = some (.int .i64 e.f0) ∧ w'.cell? ⟨w.heap.size, 1, none⟩ = some (.int .i64 e.f1) ∧ w'.cell? ⟨w.heap.size, 2, none⟩ = some (.int .i64 e.f2)) (ds := [15]) #[false, false, false, false, false, false, false, false, false, false, false, false, false, false, false, false] (by kernel_rfl) rfl rfl ⟨F7.out.drew.g2, F7.out.drew.b0, F7.out.drew.b1, F7.out.drew.b2⟩ (fun hHeld => ?_)
      refine pure_ (i := 0) (N := some 37) (v := ?_) (a' := ?_) #[true, false, false, false, false, false, false, false, false, false, false, false, false, false, false, false] rfl rfl (by kernel_rfl) (fun _ _ _ h => h) (Or.inl ⟨by rfl, ?_⟩) ?_ ?_
      rotate_left
      · intro w'
        go_simp
        with_reducible rfl
      rotate_left
      · simp only [Act.put, List.setIfInBounds_toArray, List.set_cons_zero, List.set_cons_succ, i64_w, i32_w]
        rfl
      refine pure_ (i := 1) (N := some 38) (v := ?_) (a' := ?_) #[true, true, false, false, false, false, false, false, false, false, false, false, false, false, false, false] rfl rfl (by kernel_rfl) (fun _ _ _ h => h) (Or.inl ⟨by rfl, ?_⟩) ?_ ?_
      rotate_left
      · intro w'
        go_simp
        with_reducible rfl
      rotate_left
      · simp only [Act.put, List.setIfInBounds_toArray, List.set_cons_zero, List.set_cons_succ, i64_w, i32_w]
        rfl
      refine pure_ (i := 2) (N := some 39) (v := ?_) (a' := ?_) #[true, true, true, false, false, false, false, false, false, false, false, false, false, false, false, false] rfl rfl (by kernel_rfl) (fun _ _ _ h => h) (Or.inl ⟨by rfl, ?_⟩) ?_ ?_
      rotate_left
      · intro w'
        go_simp
        with_reducible rfl
      rotate_left
      · simp only [Act.put, List.setIfInBounds_toArray, List.set_cons_zero, List.set_cons_succ, i64_w, i32_w]
        rfl
      refine pure_ (i := 3) (N := some 40) (v := ?_) (a' := ?_) #[true, true, true, true, false, false, false, false, false, false, false, false, false, false, false, false] rfl rfl (by kernel_rfl) (fun _ _ _ h => h) (Or.inl ⟨by rfl, ?_⟩) ?_ ?_
      rotate_left
      · intro w'
        go_simp
        with_reducible rfl
      rotate_left
      · simp only [Act.put, List.setIfInBounds_toArray, List.set_cons_zero, List.set_cons_succ, i64_w, i32_w]
        rfl
      refine pure_ (i := 5) (N := some 42) (v := ?_) (a' := ?_) #[true, true, true, true, false, true, false, false, false, false, false, false, false, false, false, false] rfl rfl (by kernel_rfl) (fun _ _ _ h => h) (Or.inl ⟨by rfl, ?_⟩) ?_ ?_
      rotate_left
      · intro w'
        go_simp
        with_reducible rfl
      rotate_left
      · simp only [Act.put, List.setIfInBounds_toArray, List.set_cons_zero, List.set_cons_succ, i64_w, i32_w]
        rfl
      refine pure_ (i := 7) (N := some 44) (v := ?_) (a' := ?_) #[true, true, true, true, false, true, false, true, false, false, false, false, false, false, false, false] rfl rfl (by kernel_rfl) (fun _ _ _ h => h) (Or.inl ⟨by rfl, ?_⟩) ?_ ?_
      rotate_left
      · intro w'
        go_simp
        with_reducible rfl
      rotate_left
      · simp only [Act.put, List.setIfInBounds_toArray, List.set_cons_zero, List.set_cons_succ, i64_w, i32_w]
        rfl
      refine pure_ (i := 9) (N := some 46) (v := ?_) (a' := ?_) #[true, true, true, true, false, true, false, true, false, true, false, false, false, false, false, false] rfl rfl (by kernel_rfl) (fun _ _ _ h => h) (Or.inl ⟨by rfl, ?_⟩) ?_ ?_
      rotate_left
      · intro w'
        go_simp
        with_reducible rfl
      rotate_left
      · simp only [Act.put, List.setIfInBounds_toArray, List.set_cons_zero, List.set_cons_succ, i64_w, i32_w]
        rfl
      refine take_ (i := 4) (N := some 41) (v := ?_) (a' := ?_) #[true, true, true, true, true, true, false, true, false, true, false, false, false, false, false, false] rfl rfl (by kernel_rfl) (fun _ _ _ h => h) (Or.inl ⟨by rfl, ?_⟩) hHeld ?_ ?_
      rotate_left
      · rintro w' ⟨s0, s1, s2, s3⟩
        go_simp
        with_reducible rfl
      rotate_left
      · simp only [Act.put, List.setIfInBounds_toArray, List.set_cons_zero, List.set_cons_succ, i64_w, i32_w]
        rfl
      refine take_ (i := 6) (N := some 43) (v := ?_) (a' := ?_) #[true, true, true, true, true, true, true, true, false, true, false, false, false, false, false, false] rfl rfl (by kernel_rfl) (fun _ _ _ h => h) (Or.inl ⟨by rfl, ?_⟩) hHeld ?_ ?_
      rotate_left
      · rintro w' ⟨s0, s1, s2, s3⟩
        go_simp
        with_reducible rfl
      rotate_left
      · simp only [Act.put, List.setIfInBounds_toArray, List.set_cons_zero, List.set_cons_succ, i64_w, i32_w]
        rfl
      refine take_ (i := 8) (N := some 45) (v := ?_) (a' := ?_) #[true, true, true, true, true, true, true, true, true, true, false, false, false, false, false, false] rfl rfl (by kernel_rfl) (fun _ _ _ h => h) (Or.inl ⟨by rfl, ?_⟩) hHeld ?_ ?_
      rotate_left
      · rintro w' ⟨s0, s1, s2, s3⟩
        go_simp
        with_reducible rfl
      rotate_left
      · simp only [Act.put, List.setIfInBounds_toArray, List.set_cons_zero, List.set_cons_succ, i64_w, i32_w]
        rfl
      refine take_ (i := 10) (N := some 47) (v := ?_) (a' := ?_) #[true, true, true, true, true, true, true, true, true, true, true, false, false, false, false, false] rfl rfl (by kernel_rfl) (fun _ _ _ h => h) (Or.inl ⟨by rfl, ?_⟩) hHeld ?_ ?_
      rotate_left
      · rintro w' ⟨s0, s1, s2, s3⟩
        go_simp
        with_reducible rfl
      rotate_left
      · simp only [Act.put, List.setIfInBounds_toArray, List.set_cons_zero, List.set_cons_succ, i64_w, i32_w]
        rfl
      refine one_ (i := 11) (N := some 48) #[true, true, true, true, true, true, true, true, true, true, true, true, false, false, false, false] rfl rfl (by kernel_rfl) (by decide) (fun K hK => ?_)
      refine value_ (w1 := ?_) (v := ?_) (by rfl) rfl ?_ ?_
      rotate_left 2
      · go_simp
        constructor
        · rfl
        · rfl
      refine hK.out _ _ ⟨(F7.out.alloc _).drew.g2, (F7.out.alloc _).drew.b0, (F7.out.alloc _).drew.b1, (F7.out.alloc _).drew.b2⟩ (fun hHeld => ?_)
      clear hK K
      refine norm_ (a' := ?_) ?_ ?_
      rotate_left
      · show Act.put _ (some 48) _ = _
        simp only [Act.put, List.setIfInBounds_toArray, List.set_cons_zero, List.set_cons_succ, i64_w, i32_w]
        rfl
      refine one_ (i := 12) (N := some 49) #[true, true, true, true, true, true, true, true, true, true, true, true, true, false, false, false] rfl rfl (by kernel_rfl) (by decide) (fun K hK => ?_)
      refine goes_ Tryz.func181 (by kernel_rfl) rfl #[.int .u64 s, .slice (some ⟨w7.heap.size, 0, none⟩) 3 3] (by rfl) rfl rfl (by simp only [List.map_toArray, List.map_cons, List.map_nil]; rfl) ?_
      with_reducible refine (mixed3 s e.f0 e.f1 e.f2 _ _ (cell_newd (by simp) 0) (cell_newd (by simp) 1) (cell_newd (by simp) 2)).mono ?_
      rintro e' w3 ⟨rfl, rfl⟩
      refine ⟨_, rfl, ?_⟩
      refine hK.out _ _ ⟨(F7.out.alloc _).drew.g2, (F7.out.alloc _).drew.b0, (F7.out.alloc _).drew.b1, (F7.out.alloc _).drew.b2⟩ (fun hHeld => ?_)
      clear hK K
      refine norm_ (a' := ?_) ?_ ?_
      rotate_left
      · show Act.put _ (some 49) _ = _
        simp only [Act.put, List.setIfInBounds_toArray, List.set_cons_zero, List.set_cons_succ, i64_w, i32_w]
        rfl
      refine pure_ (i := 13) (N := some 50) (v := ?_) (a' := ?_) #[true, true, true, true, true, true, true, true, true, true, true, true, true, true, false, false] rfl rfl (by kernel_rfl) (fun _ _ _ h => h) (Or.inl ⟨by rfl, ?_⟩) ?_ ?_
      rotate_left
      · intro w'
        go_simp
        with_reducible rfl
      rotate_left
      · simp only [Act.put, List.setIfInBounds_toArray, List.set_cons_zero, List.set_cons_succ, i64_w, i32_w]
        rfl
      refine pure_ (i := 14) (N := some 51) (v := ?_) (a' := ?_) #[true, true, true, true, true, true, true, true, true, true, true, true, true, true, true, false] rfl rfl (by kernel_rfl) (fun _ _ _ h => h) (Or.inl ⟨by rfl, ?_⟩) ?_ ?_
      rotate_left
      · intro w'
        go_simp
        with_reducible rfl
      rotate_left
      · simp only [Act.put, List.setIfInBounds_toArray, List.set_cons_zero, List.set_cons_succ, i64_w, i32_w]
        rfl
      refine last_ (i := 15) (N := none) #[true, true, true, true, true, true, true, true, true, true, true, true, true, true, true, true] rfl rfl (by kernel_rfl) (by decide) (fun K hK => ?_)
      refine skip_ (w1 := ?_) (by rfl) rfl ?_ ?_
      rotate_left
      · go_simp
        rfl
      refine hK.out _ _ ?_
      clear hK K
      refine done_ (by kernel_rfl) ?_
      -- END REGION 7
      go_wp2
      go_end0
      have hM := hMid.out
      have hW := HW7.out
      clear hMid HW7
      subst hW
      exact ⟨rfl, put_close hM _ _ _⟩
end Go.Proofs.YtjpibgehhgaopaaGreat.Top
/- A trace's state as a list of events, nil let in; the contracts of put, Span, Branch, Index over it. -/
namespace Go.Proofs.YtjpibgehhgaopaaGreat.Top
open Go.RowKit Go.Proofs.YtjpibgehhgaopaaGreatW.PrintWords Go.Proofs.YtjpibgehhgaopaaGreatW.PrintLast Go.Proofs.YtjpibgehhgaopaaGreat.PTopGenerated
set_option linter.unusedVariables false
set_option linter.unusedSimpArgs false

theorem chain {B C : Nat} {a b c : World} (h : Below B a b) (k : Below C b c) (hC : B ≤ C) : Below B a c := h.trans (k.mono hC)
def mixE (s : Int) (e : S193) : Int := mix3 s e.f0 e.f1 e.f2
def sumE (l : List S193) : Int := l.foldl mixE beg
theorem sumE_snoc (l : List S193) (e : S193) : sumE (l ++ [e]) = mix3 (sumE l) e.f0 e.f1 e.f2 := by simp [sumE, mixE]

def Tr (w : World) (B tb : Nat) (v : Value) (l : List S193) : Prop :=
  B ≤ tb ∧ w.heap[tb]? = some (.cells #[v, .int .i64 (l.length : Int), .int .u64 (sumE l)] 90 (0, 0)) ∧ Kd.R k193 193 w B (fun _ => True) v (l.take 1000)
/-- nil: nothing is there. -/
def TrO (w : World) (B : Nat) (t : Option Nat) (v : Value) (l : List S193) : Prop :=
  match t with
  | none => v = .slice none 0 0
  | some tb => Tr w B tb v l
def ptrV (t : Option Nat) : Value := .pointer (t.map fun b => ⟨b, 0, none⟩)
/-- Only the trace's own block, its row and what is new have turned. -/
structure OnlyT (w w' : World) (t row : Option Nat) : Prop where
  os : w'.os = w.os
  tape : w'.tape = w.tape
  output : w'.output = w.output
  size : w.heap.size ≤ w'.heap.size
  block : ∀ k, k < w.heap.size → some k ≠ t → some k ≠ row → w'.heap[k]? = w.heap[k]?
theorem OnlyT.refl (w : World) (t row : Option Nat) : OnlyT w w t row := ⟨rfl, rfl, rfl, Nat.le_refl _, fun _ _ _ _ => rfl⟩
theorem OnlyT.of_below {w w' : World} (h : Below w.heap.size w w') (t row : Option Nat) : OnlyT w w' t row := ⟨h.os, h.tape, h.output, h.size, fun k hk _ _ => h.block k hk⟩
theorem OnlyT.of_only {w w' : World} {tb : Nat} {row : Option Nat} (h : Only w w' tb row) : OnlyT w w' (some tb) row :=
  ⟨h.os, h.tape, h.output, h.size, fun k hk h1 h2 => h.block k hk (fun e => h1 (by rw [e])) h2⟩
def PutO (w w' : World) (B : Nat) (t : Option Nat) (v : Value) (l : List S193) : Prop := ∃ v', TrO w' B t v' l ∧ OnlyT w w' t v.ownBlock ∧ AtOr w v v'
theorem AtOr.refl (w : World) (v : Value) : AtOr w v v := .inl rfl

section
variable {w w1 w2 : World} {B : Nat} {t : Option Nat} {v v1 : Value} {l l' : List S193}
theorem OnlyT.trans (h : OnlyT w w1 t v.ownBlock) (ha : AtOr w v v1) (k : OnlyT w1 w2 t v1.ownBlock) : OnlyT w w2 t v.ownBlock :=
  ⟨k.os.trans h.os, k.tape.trans h.tape, k.output.trans h.output, Nat.le_trans h.size k.size, fun i hi h1 h2 => (k.block i (by have := h.size; omega) h1 (by
    rcases ha with e | ⟨b, e, hb⟩
    · rw [e]; exact h2
    · rw [e]; intro he; injection he with he; omega)).trans (h.block i hi h1 h2)⟩
/-- Nothing that was there has turned: the trace is what it was. -/
theorem TrO.below (h : TrO w B t v l) (hb : Below w.heap.size w w1) : TrO w1 B t v l := by
  rcases t with _ | tb
  · exact h
  · obtain ⟨h1, h2, h3⟩ := h
    exact ⟨h1, (hb.block tb (blk_lt h2)).trans h2, Kd.R_below h3 hb⟩
/-- Another trace has been written to. -/
theorem TrO.other {t' : Option Nat} {v' : Value} {row : Option Nat} (h : TrO w B t v l) (hb : OnlyT w w1 t' row) (h1 : ∀ tb, t = some tb → t' ≠ some tb ∧ row ≠ some tb) (h2 : ∀ k, v.ownBlock = some k → t' ≠ some k ∧ row ≠ some k) : TrO w1 B t v l := by
  rcases t with _ | tb
  · exact h
  · obtain ⟨h3, h4, h5⟩ := h
    obtain ⟨e1, e2⟩ := h1 tb rfl
    refine ⟨h3, (hb.block tb (blk_lt h4) (fun e => e1 e.symm) (fun e => e2 e.symm)).trans h4, ?_⟩
    obtain ⟨ho, inner, hown, hr⟩ := h5
    have hm : ∀ k, v.ownBlock = some k → w1.heap[k]? = w.heap[k]? := fun k hk => by
      obtain ⟨e3, e4⟩ := h2 k hk
      exact hb.block k (own_lt hown k hk) (fun e => e3 e.symm) (fun e => e4 e.symm)
    exact ⟨ho, inner, own_move hown hm, hr.imp_ (fun _ _ hp => by
      obtain ⟨_, _, rfl, rfl, ⟨_, _, rfl, rfl, rfl⟩⟩ := hp
      exact k193_mkM _ _ _ _)⟩
theorem PutO.trans (h : PutO w w1 B t v l) (k : ∀ v1, TrO w1 B t v1 l → PutO w1 w2 B t v1 l') : PutO w w2 B t v l' := by
  obtain ⟨v1, h1, h2, h3⟩ := h
  obtain ⟨v2, k1, k2, k3⟩ := k v1 h1
  exact ⟨v2, k1, h2.trans h3 k2, h3.trans h2.size k3⟩
theorem PutO.step (h2 : OnlyT w w1 t v.ownBlock) (h3 : AtOr w v v1) (k : PutO w1 w2 B t v1 l') : PutO w w2 B t v l' := by
  obtain ⟨v2, k1, k2, k3⟩ := k
  exact ⟨v2, k1, h2.trans h3 k2, h3.trans h2.size k3⟩
theorem PutO.of_below (h : TrO w B t v l) (hb : Below w.heap.size w w1) : PutO w w1 B t v l := ⟨v, h.below hb, OnlyT.of_below hb _ _, AtOr.refl _ _⟩
theorem PutO.after_below (hb : Below w.heap.size w w1) (k : PutO w1 w2 B t v l') : PutO w w2 B t v l' := by
  obtain ⟨v2, k1, k2, k3⟩ := k
  exact ⟨v2, k1, (OnlyT.of_below hb t v.ownBlock).trans (AtOr.refl w v) k2, (AtOr.refl w v).trans hb.size k3⟩
theorem PutO.then_below (h : PutO w w1 B t v l) (hb : Below w1.heap.size w1 w2) : PutO w w2 B t v l := h.trans fun _ h1 => PutO.of_below h1 hb
end

theorem kept_take (l : List S193) (e : S193) : kept (l.take 1000) e = (l ++ [e]).take 1000 := by
  unfold kept
  by_cases h : l.length < 1000
  · rw [if_pos (by rw [List.length_take]; omega), List.take_of_length_le (by omega), List.take_of_length_le (by simp; omega)]
  · rw [if_neg (by rw [List.length_take]; omega), List.take_append_of_le_length (by omega)]

abbrev evV (e : S193) : Value := .agg #[.int .i64 e.f0, .int .i64 e.f1, .int .i64 e.f2]

theorem putO (B : Nat) (t : Option Nat) (v : Value) (l : List S193) (e : S193) (w : World) (h : TrO w B t v l) (hl : l.length ≤ 1099511627776) :
    Calls Tryz.prog 138 #[ptrV t, evV e] w fun x w' => x = .returned (.tuple #[]) ∧ PutO w w' B t v (l ++ [e]) := by
  rcases t with _ | tb
  · obtain rfl : v = .slice none 0 0 := h
    have hu193 := Tryz.underlying193
    show Calls Tryz.prog 138 #[.pointer none, evV e] w _
    go_enter Tryz.func138, Tryz.ntmps138
    go_wp2
    refine bodyPost_ret (results_none rfl _ _ _) rfl ?_
    exact ⟨rfl, ⟨.slice none 0 0, rfl, OnlyT.of_below ((Below.refl _ _).alloc (Nat.le_refl _) _) _ _, AtOr.refl _ _⟩⟩
  · obtain ⟨hB, hblk, hR⟩ := h
    obtain ⟨A, c, rfl⟩ := Kd.R_slice hR
    have hm : (l.length : Int) = 0 → sumE l = beg := fun h0 => by
      obtain rfl : l = [] := List.eq_nil_of_length_eq_zero (by omega)
      rfl
    refine (put_any B tb A (l.take 1000) c (l.length : Int) (sumE l) e w hB hblk hR hm).mono ?_
    rintro x w' ⟨rfl, A1, c1, hb1, hR1, hO, hat⟩
    rw [kept_take] at hb1 hR1 hat
    have hw : wrap64 ((l.length : Int) + 1) = ((l ++ [e]).length : Int) := by
      rw [List.length_append, List.length_singleton]
      unfold wrap64
      omega
    rw [hw, ← sumE_snoc] at hb1
    exact ⟨rfl, _, ⟨hB, hb1, hR1⟩, OnlyT.of_only hO, hat⟩
end Go.Proofs.YtjpibgehhgaopaaGreat.Top
