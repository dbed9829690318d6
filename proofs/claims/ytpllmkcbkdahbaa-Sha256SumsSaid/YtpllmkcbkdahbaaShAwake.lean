/- 'awake': the sum of "abc" is what it should be. The four laws' small helper 'same'. -/
import Derived.Test.YtpllmkcbkdahbaaShSumA
import Derived.Test.YtpllmkcbkdahbaaShAbc
import Derived.Lib.SlBytesConst
namespace Go.Proofs.Ytpllmkcbkdahbaa.Sha
open Go.RowKit Go.Proofs.YtpllmkcbkdahbaaW.PrintWords Go.Proofs.YtpllmkcbkdahbaaW.PrintLast Go.Proofs.YtpllmkcbkdahbaaW.PrintMore Go.Proofs.Ytpllmkcbkdahbaa.Psame
set_option linter.unusedVariables false
set_option linter.unusedSimpArgs false

theorem awake_any (w : World) : Calls Try.prog 7 #[] w fun e w' => e = .returned (.bool true) ∧ Below w.heap.size w w' := by
  have hcv := Lib.run_convert_bytes_const (P := Try.prog) w 22 5 #[.int .u8 97, .int .u8 98, .int .u8 99] 3 3 Try.underlying22 Try.underlying5
  have HB := Aside0.mk (below_alloc (Below.refl w.heap.size w) (.cells #[.int .u8 97, .int .u8 98, .int .u8 99] 5 (3, 4)))
  have hR : ReadsInt (w.alloc (.cells #[.int .u8 97, .int .u8 98, .int .u8 99] 5 (3, 4))) .u8 (some ⟨w.heap.size, 0, none⟩) ([97, 98, 99] : List Int).length [97, 98, 99] := by
    refine ⟨rfl, by decide, fun _ => ⟨_, rfl, fun j hj => ?_⟩⟩
    rw [add_plain, cell_of_row _ _ j _ _ _ (heap_alloc_new w _)]
    rcases j with _ | _ | _ | j <;> first | rfl | (simp at hj; omega)
  have HR := Aside0.mk hR
  clear hR
  go_enter Try.func7, Try.ntmps7
  go_wp2_with fail
  refine (sumA (some ⟨w.heap.size, 0, none⟩) 3 [97, 98, 99] _ HR.out (by decide) (by decide)).mono ?_
  rintro e w1 ⟨v, rfl, hO, hB⟩
  rw [abc] at hO
  have HB1 := Aside0.mk (HB.out.trans (hB.mono HB.out.size))
  obtain ⟨g, cap, rfl, h1, h2⟩ := hO.form (by decide)
  have hc : ∀ j u, (nums .u8 [186, 120, 22, 191, 143, 1, 207, 234, 65, 65, 64, 222, 93, 174, 34, 35, 176, 3, 97, 163, 150, 23, 122, 156, 180, 16, 255, 97, 242, 0, 21, 173])[j]? = some u → w1.cell? ⟨g, j, none⟩ = some u := fun j u hj => by
    have := World.ownsRow.cells hO (g := g) rfl j u hj
    rwa [add_plain] at this
  have c0 := hc 0 (.int .u8 186) rfl
  have c1 := hc 1 (.int .u8 120) rfl
  have c31 := hc 31 (.int .u8 173) rfl
  clear hc h1 h2 hO hB
  go_wp2_with fail
  go_ret
  exact ⟨rfl, HB1.out⟩
theorem same_own {w : World} {B : Nat} {v v' : Value} {l : List Int} (h : w.ownsRow B 5 1 v l.length (nums .u8 l)) (h' : w.ownsRow B 5 1 v' l.length (nums .u8 l)) : Calls Try.prog 8 #[v, v'] w fun e w' => e = .returned (.bool true) ∧ Drawn0 w w' := by
  have hcap : ∀ {A : Option Addr} {c : Nat} {n : Nat} {xs : List Value}, w.ownsRow B 5 1 (.slice A n c) n xs → n ≤ c := by
    intro A c n xs h
    rcases h.2 with ⟨h1, h2⟩ | ⟨g, cap, cur, h1, _, _, h2, _⟩
    · omega
    · injection h1 with _ _ h3; omega
  obtain ⟨A, c, rfl, hr⟩ := own_reads h
  obtain ⟨A', c', rfl, hr'⟩ := own_reads h'
  exact sconcelaw11_same.calls A c l A' c' l true w (Kd.C_of_reads (d := (0 : Int)) (h1 := fun _ => rfl) hr) (hcap h) (Kd.C_of_reads (d := (0 : Int)) (h1 := fun _ => rfl) hr') (hcap h') (by simp [sconcelaw11_same.f])
end Go.Proofs.Ytpllmkcbkdahbaa.Sha
