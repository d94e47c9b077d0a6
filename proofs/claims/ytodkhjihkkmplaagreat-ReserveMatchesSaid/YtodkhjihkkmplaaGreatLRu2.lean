/-
Plain law of ReserveMarginalPrice. Plain law of ReserveAdditivity. No statement of the seat is proved here; no conditions beyond those of each theorem.
-/
import Derived.Test.YtodkhjihkkmplaaGreatLQD
import Derived.Test.YtodkhjihkkmplaaGreatLRt4
namespace Go.Proofs.YtodkhjihkkmplaaGreat
set_option linter.unusedVariables false
set_option linter.unusedSimpArgs false
open Go.RowKit
open Wd



end Go.Proofs.YtodkhjihkkmplaaGreat
namespace Go.Proofs.YtodkhjihkkmplaaGreat
open Go.RowKit
open Wd



end Go.Proofs.YtodkhjihkkmplaaGreat