/-
A statement that draws its order, reads, and calls what makes new memory alone: walked once, in the order of the text. No statement of the seat is proved here; no conditions.
-/
import Derived.Test.YthpldmlpononhaaGreatMem
namespace Go.Proofs.YthpldmlpononhaaGreat
set_option linter.unusedVariables false
set_option linter.unusedSimpArgs false
open Go.RowKit

/-- A world in which nothing of W has turned. -/
structure KW (W : World) where
  w : World
  h : Kp W w
instance KW.some (W : World) : Nonempty (KW W) := ⟨⟨W, Kp.refl W⟩⟩
theorem wp_region_kw {P : Program} {id : Nat} {Q : Exit → Act → World → Prop} {a : Act} {W : World} {l : List Oper} (hm : P.follows .mixedOrders = true) (hB : Region.lexB .any l.toArray = true)
    (h : wpQuiet P l.toArray (fun w' => ∃ s : KW W, w' = s.w) (fun a' => ∀ w', (∃ s : KW W, w' = s.w) → Q .normal a' w') l a) : (Code.region id l.toArray true).wp P Q a W :=
  wp_region_quiet (C := fun w' => ∃ s : KW W, w' = s.w) hm hB ⟨⟨W.drew, Kp.drew (Kp.refl W)⟩, rfl⟩ (by simpa using h)
theorem kw_call {P : Program} {f : FuncId} {args : Array Value} {W : World} {s : KW W} {v : Value} (h : Calls P f args s.w fun e w' => e = .returned v ∧ Below s.w.heap.size s.w w') :
    Calls P f args s.w fun e w'' => e = .returned v ∧ ∃ s' : KW W, w'' = s'.w :=
  h.mono fun _ w' ⟨he, hb⟩ => ⟨he, ⟨w', Kp.trans s.h hb⟩, rfl⟩
theorem KW.cell {W : World} {g : Nat} {t : TypeId} {cs : Array Value} (h : Blk W g t cs) (i : Nat) (s : KW W) : s.w.cell? ⟨g, i, none⟩ = cs[i]? := (Kp.blk s.h h).cell i

end Go.Proofs.YthpldmlpononhaaGreat
