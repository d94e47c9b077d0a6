/-
Hours among the arguments of a statement, with their capacity. No statement of the seat is proved here; no conditions beyond those of each theorem.
-/
import Derived.Test.YtdoeejcmaeefcaaGreatJRC
namespace Go.Proofs.YtdoeejcmaeefcaaGreat
set_option linter.unusedVariables false
set_option linter.unusedSimpArgs false
open Go.ChangeShapes Go.WideShapes Go.ChangeAt Go.RowKit Go.Deep
open Wd Cm

theorem hsc_of {H : Type} {enc : TypeId × Value → H} {W : World} {fuel : Nat} {cs : List Value} {x : DataW H × List MemPlace} (h : DataW.trod enc Tryz.prog W 0 (fun _ => true) true fuel 23 cs = some x) : ∃ A n c hs, cs = [.slice A n c] ∧ (HsAt W A n hs ∧ n ≤ c) := by
  obtain ⟨A, n, c, hs, e, g⟩ := hs_of h
  refine ⟨A, n, c, hs, e, g, ?_⟩
  rcases open_slice Tryz.underlying23 h with ⟨e2, _⟩ | ⟨a, len, cap, m, k, D, Pl, e2, _, hl, _⟩
  · rw [e] at e2
    simp at e2
    omega
  · rw [e] at e2
    simp at e2
    omega

end Go.Proofs.YtdoeejcmaeefcaaGreat
