/-
The length of a slice that came in is at most its capacity. No statement of the seat is proved here; no conditions beyond those of each theorem.
-/
import Derived.Test.YthpldmlpononhaaGreatRV
namespace Go.Proofs.YthpldmlpononhaaGreat
set_option linter.unusedVariables false
set_option linter.unusedSimpArgs false
open Go.ChangeShapes Go.WideShapes Go.ChangeAt Go.RowKit Go.Deep
open Wd
variable {H : Type} {enc : TypeId × Value → H} {W : World}

theorem cap_of {t e : TypeId} (hu : Tryz.prog.underlying t = some (.slice e)) {fuel : Nat} {A : Option Addr} {n c : Nat} {x : DataW H × List MemPlace} (h : DataW.trod enc Tryz.prog W 0 (fun _ => true) true fuel t [.slice A n c] = some x) : n ≤ c := by
  rcases open_slice hu h with ⟨h0, _⟩ | ⟨a, len, cap, m, k, D, Pl, h0, _, hl, _⟩
  · simp at h0
    omega
  · simp at h0
    omega

end Go.Proofs.YthpldmlpononhaaGreat
