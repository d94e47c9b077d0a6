/-
The walk of ClearEquilibrium, joined. No statement of the seat is proved here; no conditions beyond those of each theorem.
-/
import Derived.Test.YtnjpojpfiijlfaaGreatH5
namespace Go.Proofs.YtnjpojpfiijlfaaGreat
open Go.RowKit
open Wd
theorem cequi_any (A B : Option Addr) (n c m d : Nat) (os bs : List (List (Int × Int))) (w : World) (h : CsAt w A n os) (h' : CsAt w B m bs) :
    Calls Tryz.prog 17 #[.slice A n c, .slice B m d] w fun e w' => e = .returned (.bool true) ∧ Below w.heap.size w w' := by
  by_cases hx : (longC os || longC bs) = true
  · exact cequi_short A B n c m d os bs w h h' hx
  · rw [Bool.not_eq_true] at hx
    by_cases hc : ckB os bs = 0
    · exact cequi_yes A B n c m d os bs w h h' hx hc
    · exact cequi_no A B n c m d os bs w h h' hx hc

end Go.Proofs.YtnjpojpfiijlfaaGreat
