/-
pylonlaw25.whole: integers as rationals. Plain law of the mirrored market: stacks, quantity, shares, welfare. Plain law of welfare: what is traded lies between the bounds of the price; the welfare is the surplus at the price; more curves lower neither welfare. Plain law of the shares at the clearing price: each curve trades between its bounds, the shares sum to the quantity, their welfare is the welfare. clear.Welfare of a trade of whole quantities. The walk of ClearEquilibrium. The walk of ClearPriceInterval. No statement of the seat is proved here; no conditions beyond those of each theorem.
-/
import Derived.Test.YtjajigkacccdgaaGreatTbBL
import Derived.Test.YtjajigkacccdgaaGreatTbBR
import Derived.Test.YtjajigkacccdgaaGreatTbBS
import Derived.Test.YtjajigkacccdgaaGreatTbBV
import Derived.Test.YtjajigkacccdgaaGreatTbBT
import Derived.Test.YtjajigkacccdgaaGreatTbBU
namespace Go.Proofs.YtjajigkacccdgaaGreat
set_option linter.unusedVariables false
set_option linter.unusedSimpArgs false
open Go.RowKit
open Wd

end Go.Proofs.YtjajigkacccdgaaGreat
namespace Go.Proofs.YtjajigkacccdgaaGreat
set_option linter.unusedVariables false
set_option linter.unusedSimpArgs false
open Go.RowKit
open Wd
namespace St





end St








end Go.Proofs.YtjajigkacccdgaaGreat
namespace Go.Proofs.YtjajigkacccdgaaGreat
set_option linter.unusedVariables false
set_option linter.unusedSimpArgs false
open Go.RowKit
open Wd




/-- Quantities below a price, up to it, and the surplus of those below. -/
def aL (p : Int) (l : List (Int × Int)) : Int := sumI (l.map fun s => if s.2 < p then s.1 else 0)
def aM (p : Int) (l : List (Int × Int)) : Int := sumI (l.map fun s => if s.2 ≤ p then s.1 else 0)
def aG (p : Int) (l : List (Int × Int)) : Int := sumI (l.map fun s => if s.2 < p then s.1 * (p - s.2) else 0)












namespace St


end St
/-- The surplus of all curves at a price. -/
def gS (p : Int) (ls : List (List (Int × Int))) : Int := sumI (ls.map (aG p))
















end Go.Proofs.YtjajigkacccdgaaGreat
namespace Go.Proofs.YtjajigkacccdgaaGreat
set_option linter.unusedVariables false
set_option linter.unusedSimpArgs false
open Go.RowKit
open Wd











namespace St


end St
/-- What one side of the market trades at a price between its bounds. -/
structure Side (ls : List (List (Int × Int))) (p z : Int) (xs : List Int) : Prop where
 len : xs.length = ls.length
 lo : ∀ i, i < ls.length → aL p (ls[i]?.getD []) ≤ xs[i]?.getD 0
 hi : ∀ i, i < ls.length → xs[i]?.getD 0 ≤ aM p (ls[i]?.getD [])
 sum : sumI xs = z
















end Go.Proofs.YtjajigkacccdgaaGreat
namespace Go.Proofs.YtjajigkacccdgaaGreat
set_option linter.unusedVariables false
set_option linter.unusedSimpArgs false
open Go.RowKit
open Wd








end Go.Proofs.YtjajigkacccdgaaGreat
namespace Go.Proofs.YtjajigkacccdgaaGreat
set_option linter.unusedVariables false
set_option linter.unusedSimpArgs false
open Go.RowKit
open Wd
theorem PrZ.bds {os bs : List (List (Int × Int))} {p : Int} (h : PrZ os bs p) (ho : PrB os) (hb : PrB bs) : -1000000 ≤ p ∧ p ≤ 1000000 := by
 rcases h with ⟨h1, _⟩ | ⟨h1, _⟩
 ·have key : ∀ ls : List (List (Int × Int)), PrB ls → absI p ∈ absS ls → -1000000 ≤ p ∧ p ≤ 1000000 := fun ls hl hm => by
   obtain ⟨l, hl1, hd⟩ := List.mem_flatMap.1 hm
   obtain ⟨s, hs, e⟩ := List.mem_map.1 hd
   have h1 := hl l hl1 s hs
   have h2 := absI_or s.2
   have h3 := absI_or p
   omega
  rcases List.mem_cons.1 h1 with e | hm
  ·have := absI_or p
   omega
  ·rcases List.mem_append.1 hm with hm | hm
   ·exact key os ho hm
   ·exact key bs hb hm
 ·omega



end Go.Proofs.YtjajigkacccdgaaGreat
namespace Go.Proofs.YtjajigkacccdgaaGreat
set_option linter.unusedVariables false
set_option linter.unusedSimpArgs false
open Go.RowKit
open Wd
theorem long_qq (an an' bn bn' : Bool) (pA pB qA qB : Option Addr) (pk pc pj pd qk qc qj qd : Nat) (W : World) :
  Calls Tryz.prog 23 #[.slice (some ⟨W.heap.size, 0, none⟩) 2 2] (W.alloc (.cells #[.bool an, .slice pA pk pc, .bool an', .slice pB pj pd, .bool bn, .slice qA qk qc, .bool bn', .slice qB qj qd] 42)) fun e w' => e = .returned (.bool ([(an, (pA, pk, pc), an', (pB, pj, pd)), (bn, (qA, qk, qc), bn', (qB, qj, qd))].any bigQ)) ∧ Below (W.alloc (.cells #[.bool an, .slice pA pk pc, .bool an', .slice pB pj pd, .bool bn, .slice qA qk qc, .bool bn', .slice qB qj qd] 42)).heap.size (W.alloc (.cells #[.bool an, .slice pA pk pc, .bool an', .slice pB pj pd, .bool bn, .slice qA qk qc, .bool bn', .slice qB qj qd] 42)) w' :=
 long23_any (some ⟨W.heap.size, 0, none⟩) 2 2 _ _ (QsAtR.two (Blk.new W 42 #[.bool an, .slice pA pk pc, .bool an', .slice pB pj pd, .bool bn, .slice qA qk qc, .bool bn', .slice qB qj qd])) (by omega)

set_option maxRecDepth 100000 in
set_option maxHeartbeats 4000000 in
theorem pint_short (A B : Option Addr) (n c m d : Nat) (os bs : List (List (Int × Int))) (an an' bn bn' : Bool) (pA pB qA qB : Option Addr) (pk pc pj pd qk qc qj qd part : Nat) (w : World) (h : CsAt w A n os) (h' : CsAt w B m bs) (hs : ∀ l ∈ os, l.length ≤ 1000000000000) (ht : ∀ l ∈ bs, l.length ≤ 1000000000000) (hp : QRaw w pA pk pc pB pj pd) (hq : QRaw w qA qk qc qB qj qd) (hpt : part ≤ 255) (hx : (longC os || longC bs) = true ∨ [(an, (pA, pk, pc), an', (pB, pj, pd)), (bn, (qA, qk, qc), bn', (qB, qj, qd))].any bigQ = true ∨ ckB os bs ≠ 0) : Calls Tryz.prog 8 #[.slice A n c, .slice B m d, .agg #[.bool an, .slice pA pk pc, .bool an', .slice pB pj pd], .agg #[.bool bn, .slice qA qk qc, .bool bn', .slice qB qj qd], .int .u8 (part : Int)] w fun e w' => e = .returned (.bool true) ∧ Below w.heap.size w w' := by
 have HAW := Lib.hid (fun W => awake25_any W)
 have HL := Lib.hid (fun W (hW : Below w.heap.size w W) => long25_any A B n c m d os bs W (h.below hW) (h'.below hW))
 have HLQ := Lib.hid (fun W => long_qq an an' bn bn' pA pB qA qB pk pc pj pd qk qc qj qd W)
 have HM := Lib.hid (fun W (hW : Below w.heap.size w W) => may_any A B n c m d os bs W (h.below hW) (h'.below hW) hs ht)
 by_cases hlg : (longC os || longC bs) = true
 ·rw [hlg] at HL
  clear h h' hs ht hp hq hx hlg HLQ HM hpt
  go_enter Tryz.func8, Tryz.ntmps8
  go_wp2_with fail
  obtain ⟨hB0, hB1, hBW, hsz⟩ := pre2 w 42 #[.bool an, .slice pA pk pc, .bool an', .slice pB pj pd] 42 #[.bool bn, .slice qA qk qc, .bool bn', .slice qB qj qd]
  generalize (w.alloc (.cells #[.bool an, .slice pA pk pc, .bool an', .slice pB pj pd] 42)).alloc (.cells #[.bool bn, .slice qA qk qc, .bool bn', .slice qB qj qd] 42) = W at *
  have HSZ := Lib.hid hsz
  clear hsz

  refine (HL.out W hBW).mono ?_
  rintro e w1 ⟨rfl, hb1⟩
  obtain ⟨f0, f1, f2, f3, -, -, -, -⟩ := (hB0.below hb1 hB0.lt).four
  obtain ⟨g0, g1, g2, g3, -, -, -, -⟩ := (hB1.below hb1 hB1.lt).four
  have HB1 := Lib.hid (hBW.trans (hb1.mono hBW.size))
  have HBX := Lib.hid (And.intro (hB0.below hb1 hB0.lt) (hB1.below hb1 hB1.lt))
  clear hb1 HL hB0 hB1 hBW HSZ
  go_wp2_with fail
  refine (HAW.out _).mono ?_
  rintro e wz ⟨rfl, hbz⟩
  have HBZ := Lib.hid (HB1.out.trans (hbz.mono HB1.out.size))
  clear hbz
  go_wp2
  go_ret
  exact ⟨rfl, HBZ.out⟩
 ·rw [Bool.not_eq_true] at hlg
  rw [hlg] at HL
  by_cases hbq : [(an, (pA, pk, pc), an', (pB, pj, pd)), (bn, (qA, qk, qc), bn', (qB, qj, qd))].any bigQ = true
  ·rw [hbq] at HLQ
   clear h h' hs ht hp hq hx hlg hbq HM hpt
   go_enter Tryz.func8, Tryz.ntmps8
   go_wp2_with fail
   obtain ⟨hB0, hB1, hBW, hsz⟩ := pre2 w 42 #[.bool an, .slice pA pk pc, .bool an', .slice pB pj pd] 42 #[.bool bn, .slice qA qk qc, .bool bn', .slice qB qj qd]
   generalize (w.alloc (.cells #[.bool an, .slice pA pk pc, .bool an', .slice pB pj pd] 42)).alloc (.cells #[.bool bn, .slice qA qk qc, .bool bn', .slice qB qj qd] 42) = W at *
   have HSZ := Lib.hid hsz
   clear hsz

   refine (HL.out W hBW).mono ?_
   rintro e w1 ⟨rfl, hb1⟩
   obtain ⟨f0, f1, f2, f3, -, -, -, -⟩ := (hB0.below hb1 hB0.lt).four
   obtain ⟨g0, g1, g2, g3, -, -, -, -⟩ := (hB1.below hb1 hB1.lt).four
   have HB1 := Lib.hid (hBW.trans (hb1.mono hBW.size))
   have HBX := Lib.hid (And.intro (hB0.below hb1 hB0.lt) (hB1.below hb1 hB1.lt))
   clear hb1 HL hB0 hB1 hBW HSZ
   go_wp2_with fail
   refine (HLQ.out w1).mono ?_
   rintro e w2 ⟨rfl, hb2⟩
   have hb2' : Below w1.heap.size w1 w2 := Below.trans ((Kp.refl w1).alloc (.cells #[.bool an, .slice pA pk pc, .bool an', .slice pB pj pd, .bool bn, .slice qA qk qc, .bool bn', .slice qB qj qd] 42)) (hb2.mono (by simp))
   have HB2 := Lib.hid (HB1.out.trans (hb2'.mono HB1.out.size))
   have HBX2 := Lib.hid (And.intro (HBX.out.1.below hb2' HBX.out.1.lt) (HBX.out.2.below hb2' HBX.out.2.lt))
   clear hb2 hb2' HB1 HBX HLQ f0 f1 f2 f3 g0 g1 g2 g3
   go_wp2_with fail
   refine (HAW.out _).mono ?_
   rintro e wz ⟨rfl, hbz⟩
   have HBZ := Lib.hid (HB2.out.trans (hbz.mono HB2.out.size))
   clear hbz
   go_wp2
   go_ret
   exact ⟨rfl, HBZ.out⟩
  ·have hc : ckB os bs ≠ 0 := by
    rcases hx with hx | hx | hx
    ·rw [hlg] at hx; simp at hx
    ·exact absurd hx hbq
    ·exact hx
   rw [Bool.not_eq_true] at hbq
   rw [hbq] at HLQ
   rw [decide_eq_false hc] at HM
   clear h h' hs ht hp hq hx hlg hbq hc hpt
   go_enter Tryz.func8, Tryz.ntmps8
   go_wp2_with fail
   obtain ⟨hB0, hB1, hBW, hsz⟩ := pre2 w 42 #[.bool an, .slice pA pk pc, .bool an', .slice pB pj pd] 42 #[.bool bn, .slice qA qk qc, .bool bn', .slice qB qj qd]
   generalize (w.alloc (.cells #[.bool an, .slice pA pk pc, .bool an', .slice pB pj pd] 42)).alloc (.cells #[.bool bn, .slice qA qk qc, .bool bn', .slice qB qj qd] 42) = W at *
   have HSZ := Lib.hid hsz
   clear hsz

   refine (HL.out W hBW).mono ?_
   rintro e w1 ⟨rfl, hb1⟩
   obtain ⟨f0, f1, f2, f3, -, -, -, -⟩ := (hB0.below hb1 hB0.lt).four
   obtain ⟨g0, g1, g2, g3, -, -, -, -⟩ := (hB1.below hb1 hB1.lt).four
   have HB1 := Lib.hid (hBW.trans (hb1.mono hBW.size))
   have HBX := Lib.hid (And.intro (hB0.below hb1 hB0.lt) (hB1.below hb1 hB1.lt))
   clear hb1 HL hB0 hB1 hBW HSZ
   go_wp2_with fail
   refine (HLQ.out w1).mono ?_
   rintro e w2 ⟨rfl, hb2⟩
   have hb2' : Below w1.heap.size w1 w2 := Below.trans ((Kp.refl w1).alloc (.cells #[.bool an, .slice pA pk pc, .bool an', .slice pB pj pd, .bool bn, .slice qA qk qc, .bool bn', .slice qB qj qd] 42)) (hb2.mono (by simp))
   have HB2 := Lib.hid (HB1.out.trans (hb2'.mono HB1.out.size))
   have HBX2 := Lib.hid (And.intro (HBX.out.1.below hb2' HBX.out.1.lt) (HBX.out.2.below hb2' HBX.out.2.lt))
   clear hb2 hb2' HB1 HBX HLQ f0 f1 f2 f3 g0 g1 g2 g3
   go_wp2_with fail
   refine (HM.out w2 HB2.out).mono ?_
   rintro e w3 ⟨rfl, hb3⟩
   have HB3 := Lib.hid (HB2.out.trans (hb3.mono HB2.out.size))
   have hb3' : Below w2.heap.size w2 w3 := hb3
   have HBX3 := Lib.hid (And.intro (HBX2.out.1.below hb3' HBX2.out.1.lt) (HBX2.out.2.below hb3' HBX2.out.2.lt))
   clear hb3 hb3' HB2 HBX2 HM
   go_wp2_with fail
   refine (HAW.out _).mono ?_
   rintro e wz ⟨rfl, hbz⟩
   have HBZ := Lib.hid (HB3.out.trans (hbz.mono HB3.out.size))
   clear hbz
   go_wp2
   go_ret
   exact ⟨rfl, HBZ.out⟩

end Go.Proofs.YtjajigkacccdgaaGreat
