/- The script's New, Left and each: what they answer. -/
import Derived.Test.YtcjphioimmgbfaaPdG
import Derived.Test.YtcjphioimmgbfaaRfA
import Derived.Shelf.Abstract
import Derived.Shelf.RegionOpen
import Derived.WalkKit
import Derived.OwnWalkIn
import Derived.TacticsInMore
import Derived.LoopNIn
import Derived.LoopIn
import Derived.Maps.AppendAt
namespace Go.Proofs.Ytcjphioimmgbfaa.Tra
open Go.RowKit Go.Proofs.YtcjphioimmgbfaaW.PrintWords Go.Proofs.YtcjphioimmgbfaaW.PrintLast Go.Proofs.YtcjphioimmgbfaaW.PrintMore Go.Proofs.Ytcjphioimmgbfaa.PTraceActs Go.Proofs.Ytcjphioimmgbfaa.Rf
attribute [local go_sem] Oper.semAt_some
set_option linter.unusedVariables false
set_option linter.unusedSimpArgs false

/-- A script's block: its bytes' slice, its place. -/
abbrev scB (A : Option Addr) (n c : Nat) (i : Int) : Obj := .cells #[.slice A n c, .int .i64 i] 75
theorem newS (A : Option Addr) (c : Nat) (bs : List Int) (w : World) (hr : ReadsInt w .u8 A bs.length bs) (hl : bs.length ≤ 1000000) :
    Calls Try.prog 32 #[.slice A bs.length c] w fun x w' => ∃ sb A1 c1, x = .returned (.pointer (some ⟨sb, 0, none⟩)) ∧ Aside0 (w'.heap[sb]? = some (scB A1 bs.length c1 0)) ∧ Aside0 (w'.ownsRow w.heap.size 5 1 (.slice A1 bs.length c1) bs.length (nums .u8 bs)) ∧ Aside0 (Below w.heap.size w w' ∧ w.heap.size ≤ sb) := by
  have HR := Aside0.mk hr
  clear hr
  have hu75 := Try.underlying75
  go_enter Try.func32, Try.ntmps32
  go_wp2_with fail
  refine (cloneB A c bs.length bs _ HR.out hl).mono ?_
  rintro e w1 ⟨v, rfl, hO, hb⟩
  have HO := Aside0.mk hO
  have HB := Aside0.mk hb
  obtain ⟨A1, c1, rfl, _⟩ := own_reads hO
  clear hO hb
  go_wp2_with fail
  go_ret
  refine ⟨w1.heap.size, A1, c1, rfl, ⟨heap_alloc_new w1 _⟩, ⟨own_keepB HO.out (below_alloc (Below.refl _ _) _)⟩, ⟨HB.out.trans ((below_alloc (Below.refl w1.heap.size w1) _).mono HB.out.size), HB.out.size⟩⟩
theorem leftS (sb : Nat) (A : Option Addr) (n c : Nat) (i : Nat) (w : World) (hb : w.heap[sb]? = some (scB A n c (i : Int))) (hi : i ≤ n) (hn : n ≤ 1000000) :
    Calls Try.prog 50 #[.pointer (some ⟨sb, 0, none⟩)] w fun x w' => x = .returned (.int .i64 ((n : Int) - (i : Int))) ∧ ∃ k, w' = w.drewN k := by
  have h0 : w.cell? ⟨sb, 0, none⟩ = some (.slice A n c) := blk_cell hb 0
  have h1 : w.cell? ⟨sb, 1, none⟩ = some (.int .i64 (i : Int)) := blk_cell hb 1
  have hw : wrap64 ((n : Int) - (i : Int)) = (n : Int) - (i : Int) := by unfold wrap64; omega
  clear hb
  have hu75 := Try.underlying75
  go_enter Try.func50, Try.ntmps50
  go_wp2_with fail
  go_quiet (fail)
  go_wp2_with fail
  go_ret
  exact ⟨rfl, _, rfl⟩
/-- each: the script's pointer is boxed; the closure holds the box. -/
theorem eachS (p : Option Addr) (w : World) : Calls Try.prog 47 #[.pointer p] w fun x w' => x = .returned (.func (.func 49) #[] #[.pointer (some ⟨w.heap.size, 0, none⟩)]) ∧ w' = w.alloc (.cells #[.pointer p] 58) := by
  go_enter Try.func47, Try.ntmps47
  go_wp2_with fail
  go_ret
  exact ⟨rfl, rfl⟩
end Go.Proofs.Ytcjphioimmgbfaa.Tra
