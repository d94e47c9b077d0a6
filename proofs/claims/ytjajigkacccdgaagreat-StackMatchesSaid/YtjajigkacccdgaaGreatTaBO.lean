/-
The reference of layer 1: From, Same. Plain facts on numbers written in base 65536, least digit first, as lists of integers. No program occurs here; no conditions beyond those of each theorem. The reference of layer 1 at numbers of any size: trim, at, halves, of, cmp. Plain facts on sums, differences and products digit by digit in base 65536. No program occurs here; no conditions beyond those of each theorem. Plain facts on quotients digit by digit in base 65536. No program occurs here; no conditions beyond those of each theorem. The reference of layer 1 at numbers of any size: add, sub, times. The reference of layer 1 at numbers of any size: small, back, mul. The reference of layer 1 at numbers of any size: mul. The reference of layer 1 at numbers of any size: div. The reference of layer 1 at numbers of any size: div by one digit, and by many. The reference of layer 1 at numbers of any size: div by many digits; div whole. The reference of layer 1 at integers of any size: Sign, Abs, Neg, Least, Gcd. The reference of layer 1 at integers of any size: Gcd, Div without rest, Cmp of positive numbers. The reference of layer 1 at integers of any size: Div without rest, Cmp of positive numbers. The reference of layer 1 at integers of any size: Cmp of positive numbers. The reference of layer 2 at rationals of any size: one, den, num. The reference of layer 2 at rationals of any size: over. The reference of layer 2 at rationals of any size: Least, Of, Neg, Sign. The reference of layer 2 at rationals of any size: Of, Neg, Sign. The reference of layer 1 at integers of any size: Mul, Add. Rationals whose size is counted in words: sums and products add their sizes. Words that may be overwritten: rows of rationals whose words lie apart. The statements of layer 24: Long, stacked. The statements of layer 24: stacked. No statement of the seat is proved here; no conditions beyond those of each theorem.
-/
import Derived.Test.YtjajigkacccdgaaGreatTaBN
import Derived.Deep.CutRange
import Derived.Deep.DeepCutAuto
import Derived.Deep.DrawnRows
import Derived.Test.YtjajigkacccdgaaGreatTaAR
import Derived.Test.YtjajigkacccdgaaGreatTaAO
import Derived.Test.YtjajigkacccdgaaGreatTaAZ
import Derived.Test.YtjajigkacccdgaaGreatTaBM
import Derived.Test.YtjajigkacccdgaaGreatTaAS
import Derived.Test.YtjajigkacccdgaaGreatTaBB
namespace Go.Proofs.YtjajigkacccdgaaGreat
set_option linter.unusedVariables false
set_option linter.unusedSimpArgs false
open Go.RowKit
open Wd

theorem blk_wat2 {w : World} {g d d' : Nat} {t : TypeId} (h : Blk w g t #[.int .u32 ((d : Nat) : Int), .int .u32 ((d' : Nat) : Int)]) (h1 : d < 4294967296) (h2 : d' < 4294967296) : Wat w (some ⟨g, 0, none⟩) 2 [d, d'] := by
 refine ⟨rfl, ?_, fun _ => ⟨g, 0, rfl, h.lt, fun j hj => ?_⟩⟩
 ·intro x hx
  simp at hx
  rcases hx with rfl | rfl <;> assumption
 ·obtain ⟨a, b, _, _⟩ := h.two
  rcases j with _ | _ | j
  ·exact a
  ·exact b
  ·omega
theorem val_two (u : Nat) : val [u % 4294967296, u / 4294967296] = u := by
 rw [val_cons, val_cons, val_nil]
 omega

set_option maxRecDepth 100000 in
set_option maxHeartbeats 1000000 in
theorem rfrom_any (z : Int) (w : World) (h1 : -9223372036854775808 ≤ z) (h2 : z ≤ 9223372036854775807) :
  Calls Tryz.prog 87 #[.int .i64 z] w (RetZ w z) := by
 by_cases hz : z < 0
 ·have hw : IntKind.u64.wrap (-(IntKind.u64.wrap z)) = (z.natAbs : Int) := by
   rw [IntKind.wrap_u64, IntKind.wrap_u64]; omega
  have hw2 : IntKind.u64.wrap ((z.natAbs : Int).tdiv 4294967296) = ((z.natAbs / 4294967296 : Nat) : Int) := by
   rw [IntKind.wrap_u64, Int.tdiv_eq_ediv_of_nonneg (by omega)]; omega
  have hm1 : (z.natAbs : Int).tmod 4294967296 % 4294967296 = ((z.natAbs % 4294967296 : Nat) : Int) := by
   rw [Int.tmod_eq_emod_of_nonneg (by omega)]; omega
  have hm2 : ((z.natAbs / 4294967296 : Nat) : Int) % 4294967296 = ((z.natAbs / 4294967296 : Nat) : Int) := by omega
  have hs : sg true (val [z.natAbs % 4294967296, z.natAbs / 4294967296]) = z := by rw [val_two]; unfold sg; simp; omega
  have hd : z.natAbs % 4294967296 < 4294967296 := by omega
  have hd' : z.natAbs / 4294967296 < 4294967296 := by omega
  have HW := Lib.hid hw
  have HW2 := Lib.hid hw2
  have HM1 := Lib.hid hm1
  have HM2 := Lib.hid hm2
  clear hw hw2 hm1 hm2 h1 h2
  go_enter Tryz.func87, Tryz.ntmps87
  go_wp2_with fail
  rw [HW.out, HW2.out, HM1.out, HM2.out]
  generalize z.natAbs % 4294967296 = d at *
  generalize z.natAbs / 4294967296 = d' at *
  clear HW HW2 HM1 HM2
  clear hz
  have HZ := Lib.hid hs
  have hg := (Blk.new w 40 #[.bool false, .slice none 0 0]).alloc (.cells #[.int .u32 ((d : Nat) : Int), .int .u32 ((d' : Nat) : Int)] 59)
  have hu := blk_wat2 (Blk.new1 w (.cells #[.bool false, .slice none 0 0] 40) 59 #[.int .u32 ((d : Nat) : Int), .int .u32 ((d' : Nat) : Int)]) hd hd'
  have hbw : Below w.heap.size w ((w.alloc (.cells #[.bool false, .slice none 0 0] 40)).alloc (.cells #[.int .u32 ((d : Nat) : Int), .int .u32 ((d' : Nat) : Int)] 59)) := ((Below.refl _ _).alloc (Nat.le_refl _) _).alloc (by simp) _
  have hsz : ((w.alloc (.cells #[.bool false, .slice none 0 0] 40)).alloc (.cells #[.int .u32 ((d : Nat) : Int), .int .u32 ((d' : Nat) : Int)] 59)).heap.size = w.heap.size + 2 := by simp
  generalize (w.alloc (.cells #[.bool false, .slice none 0 0] 40)).alloc (.cells #[.int .u32 ((d : Nat) : Int), .int .u32 ((d' : Nat) : Int)] 59) = W at *
  refine (rleast_any _ _ 2 2 [d, d'] W hu (by omega)).mono ?_
  rw [HZ.out]
  rintro e w1 ⟨A, k, c, rfl, hk, hW, hF, hB⟩
  have hg1 := hg.below hB (by omega)
  have hfin := retZ_close hbw (by omega) (by omega) ⟨hB.mono (by omega), _, _, hg1⟩ hk hW hF
  have hg2 := hg1.set2 (.bool (decide (z < 0))) (.slice A k c)
  obtain ⟨c0, c1, f0, f1⟩ := hg1.two
  have HF := Lib.hid hfin
  clear hfin hu hbw hsz hB hW hF hg hg1
  generalize decide (z < 0) = zb at *
  go_wp2
  obtain ⟨d0, d1, -, -⟩ := hg2.two
  refine bodyPost_ret (v := .agg #[.bool zb, .slice A k c]) ?_ rfl HF.out
  simp [results, Tryz.results87, go_sem, d0, d1]
 ·have hn : z = (z.natAbs : Int) := by omega
  generalize z.natAbs = n at *
  have hm1 : z % 4294967296 = ((n % 4294967296 : Nat) : Int) := by omega
  have hm2 : z / 4294967296 = ((n / 4294967296 : Nat) : Int) := by omega
  have hdz : decide (z < 0) = false := decide_eq_false hz
  have hs : sg false (val [n % 4294967296, n / 4294967296]) = z := by rw [val_two, hn]; unfold sg; simp
  have hd : n % 4294967296 < 4294967296 := by omega
  have hd' : n / 4294967296 < 4294967296 := by omega
  have HM1 := Lib.hid hm1
  have HM2 := Lib.hid hm2
  have HDZ := Lib.hid hdz
  clear hm1 hm2 hdz hn
  go_enter Tryz.func87, Tryz.ntmps87
  go_wp2_with fail
  rw [HM1.out, HM2.out]
  clear HM1 HM2 hz HDZ
  generalize n % 4294967296 = d at *
  generalize n / 4294967296 = d' at *
  have HZ := Lib.hid hs
  have hg := (Blk.new w 40 #[.bool false, .slice none 0 0]).alloc (.cells #[.int .u32 ((d : Nat) : Int), .int .u32 ((d' : Nat) : Int)] 59)
  have hu := blk_wat2 (Blk.new1 w (.cells #[.bool false, .slice none 0 0] 40) 59 #[.int .u32 ((d : Nat) : Int), .int .u32 ((d' : Nat) : Int)]) hd hd'
  have hbw : Below w.heap.size w ((w.alloc (.cells #[.bool false, .slice none 0 0] 40)).alloc (.cells #[.int .u32 ((d : Nat) : Int), .int .u32 ((d' : Nat) : Int)] 59)) := ((Below.refl _ _).alloc (Nat.le_refl _) _).alloc (by simp) _
  have hsz : ((w.alloc (.cells #[.bool false, .slice none 0 0] 40)).alloc (.cells #[.int .u32 ((d : Nat) : Int), .int .u32 ((d' : Nat) : Int)] 59)).heap.size = w.heap.size + 2 := by simp
  generalize (w.alloc (.cells #[.bool false, .slice none 0 0] 40)).alloc (.cells #[.int .u32 ((d : Nat) : Int), .int .u32 ((d' : Nat) : Int)] 59) = W at *
  refine (rleast_any _ _ 2 2 [d, d'] W hu (by omega)).mono ?_
  rw [HZ.out]
  rintro e w1 ⟨A, k, c, rfl, hk, hW, hF, hB⟩
  have hg1 := hg.below hB (by omega)
  have hfin := retZ_close hbw (by omega) (by omega) ⟨hB.mono (by omega), _, _, hg1⟩ hk hW hF
  have hg2 := hg1.set2 (.bool (decide (z < 0))) (.slice A k c)
  obtain ⟨c0, c1, f0, f1⟩ := hg1.two
  have HF := Lib.hid hfin
  clear hfin hu hbw hsz hB hW hF hg hg1
  generalize decide (z < 0) = zb at *
  go_wp2
  obtain ⟨d0, d1, -, -⟩ := hg2.two
  refine bodyPost_ret (v := .agg #[.bool zb, .slice A k c]) ?_ rfl HF.out
  simp [results, Tryz.results87, go_sem, d0, d1]

end Go.Proofs.YtjajigkacccdgaaGreat

namespace Go.Proofs.YtjajigkacccdgaaGreat
set_option linter.unusedVariables false
set_option linter.unusedSimpArgs false
open Go.RowKit
open Wd











/-- The canonical digits. -/
def hd (n : Nat) : List Int := if h : n = 0 then [] else ((n % 65536 : Nat) : Int) :: hd (n / 65536)
 termination_by n
 decreasing_by exact Nat.div_lt_self (Nat.pos_of_ne_zero h) (by decide)



















/-- The slice reads as the canonical digits of v. -/
def HA (w : World) (A : Option Addr) (n c v : Nat) : Prop := n = (hd v).length ∧ IsAt w A n (hd v) ∧ n ≤ c
section
variable {w w' : World} {A : Option Addr} {n c v : Nat}






end
end Go.Proofs.YtjajigkacccdgaaGreat
namespace Go.Proofs.YtjajigkacccdgaaGreat
set_option linter.unusedVariables false
set_option linter.unusedSimpArgs false
open Go.RowKit
open Wd











end Go.Proofs.YtjajigkacccdgaaGreat
namespace Go.Proofs.YtjajigkacccdgaaGreat
set_option linter.unusedVariables false
set_option linter.unusedSimpArgs false
open Go.RowKit
open Wd

















end Go.Proofs.YtjajigkacccdgaaGreat
namespace Go.Proofs.YtjajigkacccdgaaGreat
set_option linter.unusedVariables false
set_option linter.unusedSimpArgs false
open Go.RowKit
open Wd














end Go.Proofs.YtjajigkacccdgaaGreat
namespace Go.Proofs.YtjajigkacccdgaaGreat
set_option linter.unusedVariables false
set_option linter.unusedSimpArgs false
open Go.RowKit
open Wd










end Go.Proofs.YtjajigkacccdgaaGreat
namespace Go.Proofs.YtjajigkacccdgaaGreat
set_option linter.unusedVariables false
set_option linter.unusedSimpArgs false
open Go.RowKit
open Wd
/-- What stands from the place k on. -/
def tp (a k : Nat) : Nat := a / 65536 ^ k









end Go.Proofs.YtjajigkacccdgaaGreat
namespace Go.Proofs.YtjajigkacccdgaaGreat
set_option linter.unusedVariables false
set_option linter.unusedSimpArgs false
open Go.RowKit
open Wd








end Go.Proofs.YtjajigkacccdgaaGreat
namespace Go.Proofs.YtjajigkacccdgaaGreat
set_option linter.unusedVariables false
set_option linter.unusedSimpArgs false
open Go.RowKit
open Wd













end Go.Proofs.YtjajigkacccdgaaGreat
namespace Go.Proofs.YtjajigkacccdgaaGreat
set_option linter.unusedVariables false
set_option linter.unusedSimpArgs false
open Go.RowKit
open Wd
end Go.Proofs.YtjajigkacccdgaaGreat
namespace Go.Proofs.YtjajigkacccdgaaGreat
set_option linter.unusedVariables false
set_option linter.unusedSimpArgs false
open Go.RowKit
open Wd


end Go.Proofs.YtjajigkacccdgaaGreat
namespace Go.Proofs.YtjajigkacccdgaaGreat
set_option linter.unusedVariables false
set_option linter.unusedSimpArgs false
open Go.RowKit
open Wd
section
variable {w w' : World} {an : Bool} {A : Option Addr} {n c : Nat} {z : Int}






end






end Go.Proofs.YtjajigkacccdgaaGreat
namespace Go.Proofs.YtjajigkacccdgaaGreat
set_option linter.unusedVariables false
set_option linter.unusedSimpArgs false
open Go.RowKit
open Wd





end Go.Proofs.YtjajigkacccdgaaGreat
namespace Go.Proofs.YtjajigkacccdgaaGreat
set_option linter.unusedVariables false
set_option linter.unusedSimpArgs false
open Go.RowKit
open Wd


end Go.Proofs.YtjajigkacccdgaaGreat
namespace Go.Proofs.YtjajigkacccdgaaGreat
set_option linter.unusedVariables false
set_option linter.unusedSimpArgs false
open Go.RowKit
open Wd
end Go.Proofs.YtjajigkacccdgaaGreat
namespace Go.Proofs.YtjajigkacccdgaaGreat
set_option linter.unusedVariables false
set_option linter.unusedSimpArgs false
open Go.RowKit
open Wd




end Go.Proofs.YtjajigkacccdgaaGreat
namespace Go.Proofs.YtjajigkacccdgaaGreat
set_option linter.unusedVariables false
set_option linter.unusedSimpArgs false
open Go.RowKit
open Wd

end Go.Proofs.YtjajigkacccdgaaGreat
namespace Go.Proofs.YtjajigkacccdgaaGreat
set_option linter.unusedVariables false
set_option linter.unusedSimpArgs false
open Go.RowKit
open Wd





end Go.Proofs.YtjajigkacccdgaaGreat
namespace Go.Proofs.YtjajigkacccdgaaGreat
set_option linter.unusedVariables false
set_option linter.unusedSimpArgs false
open Go.RowKit
open Wd


end Go.Proofs.YtjajigkacccdgaaGreat
namespace Go.Proofs.YtjajigkacccdgaaGreat
set_option linter.unusedVariables false
set_option linter.unusedSimpArgs false
open Go.RowKit
open Wd






end Go.Proofs.YtjajigkacccdgaaGreat
namespace Go.Proofs.YtjajigkacccdgaaGreat
set_option linter.unusedVariables false
set_option linter.unusedSimpArgs false
open Go.RowKit
open Wd













section
variable {s t : Nat} {a b : Rat}




end
section
variable {k j s t : Nat} {w w' : World} {an an' bn bn' : Bool} {aA aA' bA bA' : Option Addr} {ak ac ak' ac' bk bc bk' bc' : Nat} {q qa qb : Rat}












end

end Go.Proofs.YtjajigkacccdgaaGreat
namespace Go.Proofs.YtjajigkacccdgaaGreat
set_option linter.unusedVariables false
set_option linter.unusedSimpArgs false
open Go.RowKit
open Wd
/-- The k words at A lie from block base on, not in block g, and may be written. -/
def Wr (base g : Nat) (w : World) (A : Option Addr) (k : Nat) : Prop := k ≤ 1000000000000 ∧ (k ≠ 0 → ∃ b o, A = some ⟨b, o, none⟩ ∧ base ≤ b ∧ b ≠ g ∧ b < w.heap.size ∧ ∀ j, j < k → (∃ v, w.cell? ⟨b, o + j, none⟩ = some v) ∧ w.frozen? ⟨b, o + j, none⟩ = false)
section
variable {base g k c k' c' : Nat} {w w' : World} {A A' B B' : Option Addr} {l : List Nat} {a b : Bool}
theorem Wr.nil : Wr base g w A 0 := ⟨by decide, fun h => absurd rfl h⟩
theorem Wr.below (h : Wr base g w A k) (hb : Below w.heap.size w w') : Wr base g w' A k := by
 refine ⟨h.1, fun hk => ?_⟩
 obtain ⟨b, o, rfl, h1, h2, h3, h4⟩ := h.2 hk
 exact ⟨b, o, rfl, h1, h2, Nat.lt_of_lt_of_le h3 hb.size, fun j hj => ⟨(h4 j hj).1.imp fun v hv => (hb.cell (p := ⟨b, o + j, none⟩) h3).trans hv, (hb.frozen (p := ⟨b, o + j, none⟩) h3).trans (h4 j hj).2⟩⟩
theorem Wr.set (h : Wr base g w A k) (p : Addr) (v : Value) : Wr base g (w.setCell p v) A k := by
 refine ⟨h.1, fun hk => ?_⟩
 obtain ⟨b, o, rfl, h1, h2, h3, h4⟩ := h.2 hk
 exact ⟨b, o, rfl, h1, h2, by simpa [World.setCell] using h3, fun j hj => ⟨by obtain ⟨u, hu⟩ := (h4 j hj).1; exact cell?_setCell_some hu, by rw [World.frozen?_setCell]; exact (h4 j hj).2⟩⟩

end

section
variable {base g n : Nat} {w w' : World}






end


end Go.Proofs.YtjajigkacccdgaaGreat
namespace Go.Proofs.YtjajigkacccdgaaGreat
set_option linter.unusedVariables false
set_option linter.unusedSimpArgs false
open Go.RowKit
open Wd
def longC (ls : List (List (Int × Int))) : Bool := decide (40 < ls.length) || ls.any fun l => decide (20 < l.length)

set_option maxRecDepth 100000 in
set_option maxHeartbeats 1000000 in
theorem long24_any (A : Option Addr) (n c : Nat) (ls : List (List (Int × Int))) (w : World) (h : CsAt w A n ls) :
  Calls Tryz.prog 12 #[.slice A n c] w fun e w' => e = .returned (.bool (longC ls)) ∧ Below w.heap.size w w' := by
 have HX := Lib.hid h
 have HLN := Lib.hid h.1
 by_cases h40 : 40 < n
 ·have d1 : decide ((40 : Int) < (n : Int)) = true := by simp; omega
  have HE : Hid (longC ls = true) := by
   show longC ls = true
   unfold longC
   rw [h.1]
   simp [h40]
  clear h
  go_enter Tryz.func12, Tryz.ntmps12
  go_wp2
  go_ret
  exact ⟨by rw [HE.out]; rfl, Below.refl _ _⟩
 ·have d1 : decide ((40 : Int) < (n : Int)) = false := by simp; omega
  have HE : Hid (longC ls = ls.any fun l => decide (20 < l.length)) := by
   show longC ls = _
   unfold longC
   rw [h.1]
   simp [h40]
  clear h
  go_enter Tryz.func12, Tryz.ntmps12
  go_wp2_with fail
  go_loopw [3] (fun t wr => ∃ k : Nat, k ≤ n ∧ t = .int .i64 k ∧ Hid (Below w.heap.size w wr ∧ (ls.take k).any (fun l => decide (20 < l.length)) = false)) (fun t _ => n - (intOf t).toNat)
  case atStart => exact ⟨0, Nat.zero_le _, rfl, Below.refl _ _, by simp⟩
  case round =>
   obtain ⟨k, hk, rfl, hR⟩ := hrel
   by_cases hlt : k < n
   ·obtain ⟨b, o, rfl, hb, hc⟩ := HX.out.2 (by omega)
    obtain ⟨A', n', c', hcell, hst⟩ := hc k hlt
    have hcell := (hR.out.1.cell (p := ⟨b, o + k, none⟩) hb).trans hcell
    have hl : (ls[k]?.getD []).length = n' := hst.1
    have hkl : k < ls.length := by rw [HLN.out]; exact hlt
    have htk : ls.take (k + 1) = ls.take k ++ [ls[k]?.getD []] := by rw [List.take_add_one, List.getElem?_eq_getElem hkl]; rfl
    have hany : (ls.take (k + 1)).any (fun l => decide (20 < l.length)) = decide (20 < n') := by rw [htk, List.any_append, hR.out.2]; simp [hl]
    have i1 : (0 : Int) ≤ (k : Int) := by omega
    have i2 : (k : Int) < (n : Int) := by omega
    have HB := Lib.hid hR.out.1
    have HA := Lib.hid hany
    by_cases h20 : 20 < n'
    ·have d2 : decide ((20 : Int) < (n' : Int)) = true := by simp; omega
     have HT : Hid (longC ls = true) := by
      show longC ls = true
      rw [HE.out]
      have := HA.out
      rw [decide_eq_true h20, List.any_eq_true] at this
      obtain ⟨x, hx, hx2⟩ := this
      exact List.any_eq_true.2 ⟨x, List.mem_of_mem_take hx, hx2⟩
     clear hR hst hc hl htk hany
     go_wp2
     go_ret
     exact ⟨by rw [HT.out]; rfl, HB.out⟩
    ·have d2 : decide ((20 : Int) < (n' : Int)) = false := by simp; omega
     have HF : Hid ((ls.take (k + 1)).any (fun l => decide (20 < l.length)) = false) := by
      show _ = _
      rw [HA.out]
      simp [h20]
     clear hR hst hc hl htk hany
     go_wp2
     go_roundw
     case rel => exact ⟨k + 1, by omega, by go_num, HB.out, HF.out⟩
     case measure => simp [intOf]; omega
   ·obtain rfl : k = n := by omega
    have HT : Hid (longC ls = false) := by
     show longC ls = false
     rw [HE.out]
     have := hR.out.2
     rwa [List.take_of_length_le (by rw [HLN.out]; omega)] at this
    have HB := Lib.hid hR.out.1
    clear hR
    go_wp2
    go_ret
    exact ⟨by rw [HT.out]; rfl, HB.out⟩

end Go.Proofs.YtjajigkacccdgaaGreat
namespace Go.Proofs.YtjajigkacccdgaaGreat
set_option linter.unusedVariables false
set_option linter.unusedSimpArgs false
open Go.RowKit
open Wd




end Go.Proofs.YtjajigkacccdgaaGreat