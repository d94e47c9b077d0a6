/-
Lemmas of the walk; no further conditions.
-/
import Derived.Test.YtjajigkacccdgaaGreatTfAH
import Derived.BigRegion
set_option linter.unusedVariables false
set_option linter.unusedSimpArgs false
set_option maxRecDepth 100000
set_option maxHeartbeats 16000000
namespace Go.Proofs.YtjajigkacccdgaaGreat
open Go.RowKit
open Wd
structure LdS (w:World) (gu gv gq N n m:Nat) (v U Q:List Nat) (wr:World):Prop where
 hu:Rw wr gu 0 N U
 hv:Wat wr (some ⟨gv,0,none⟩) n v
 hq:Rw wr gq 0 m Q
 hb:Below w.heap.size w wr
end Go.Proofs.YtjajigkacccdgaaGreat
