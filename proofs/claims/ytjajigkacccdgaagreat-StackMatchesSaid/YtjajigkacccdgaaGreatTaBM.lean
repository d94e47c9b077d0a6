/-
longDiv of package whole. addWords of package whole, of magnitudes of any size. addWords of package whole, of magnitudes of any size. subWords of package whole, of magnitudes of any size. signedSum, Add and Sub of package whole, of integers of any size. Add and Sub of package whole, of integers of any size. divWords of package whole, of magnitudes of any size; what package whole owes holds up to any bound. Rationals of growing size: every operation rises by one level. Canonical rationals in memory, at any size. The reference of layer 1: trim and at. The reference of layer 1: halves. No statement of the seat is proved here; no conditions beyond those of each theorem.
-/
import Derived.Test.YtjajigkacccdgaaGreatTaBL
import Derived.BigRegion
import Derived.Test.YtjajigkacccdgaaGreatTaAL
import Derived.Test.YtjajigkacccdgaaGreatTaAO
import Derived.Test.YtjajigkacccdgaaGreatTaBC
import Derived.Test.YtjajigkacccdgaaGreatTaAF
import Derived.Laws.EntriesVeiled
namespace Go.Proofs.YtjajigkacccdgaaGreat
set_option linter.unusedVariables false
set_option linter.unusedSimpArgs false
open Go.RowKit
open Wd


/-- The rows of a long division: u, v, q. -/
structure LdS (w : World) (gu gv gq N n m : Nat) (v U Q : List Nat) (wr : World) : Prop where
 hu : Rw wr gu 0 N U
 hv : Wat wr (some ⟨gv, 0, none⟩) n v
 hq : Rw wr gq 0 m Q
 hb : Below w.heap.size w wr







end Go.Proofs.YtjajigkacccdgaaGreat
namespace Go.Proofs.YtjajigkacccdgaaGreat
set_option linter.unusedVariables false
set_option linter.unusedSimpArgs false
open Go.RowKit Go.Shelf
open Wd
attribute [local go_sem] Oper.semAt_some

end Go.Proofs.YtjajigkacccdgaaGreat
namespace Go.Proofs.YtjajigkacccdgaaGreat
set_option linter.unusedVariables false
set_option linter.unusedSimpArgs false
open Go.RowKit Go.Shelf
open Wd
attribute [local go_sem] Oper.semAt_some

end Go.Proofs.YtjajigkacccdgaaGreat
namespace Go.Proofs.YtjajigkacccdgaaGreat
set_option linter.unusedVariables false
set_option linter.unusedSimpArgs false
open Go.RowKit Go.Shelf
open Wd
attribute [local go_sem] Oper.semAt_some





end Go.Proofs.YtjajigkacccdgaaGreat
namespace Go.Proofs.YtjajigkacccdgaaGreat
set_option linter.unusedVariables false
set_option linter.unusedSimpArgs false
open Go.RowKit
open Wd




end Go.Proofs.YtjajigkacccdgaaGreat
namespace Go.Proofs.YtjajigkacccdgaaGreat
set_option linter.unusedVariables false
set_option linter.unusedSimpArgs false
open Go.RowKit
open Wd





end Go.Proofs.YtjajigkacccdgaaGreat
namespace Go.Proofs.YtjajigkacccdgaaGreat
set_option linter.unusedVariables false
set_option linter.unusedSimpArgs false
open Go.RowKit
open Wd




end Go.Proofs.YtjajigkacccdgaaGreat
namespace Go.Proofs.YtjajigkacccdgaaGreat
set_option linter.unusedVariables false
set_option linter.unusedSimpArgs false
open Go.RowKit
open Wd
/-- The bound of level k. -/
def PB (k : Nat) : Nat := 4294967296 ^ (7 * 3 ^ k)





/-- A rational of level k. -/
def Lv (k : Nat) (q : Rat) : Prop := q.num.natAbs < PB k ∧ q.den < PB k



section
variable {k : Nat} {a b : Rat}




end
section
variable {k j : Nat} {w w' : World} {an an' bn bn' : Bool} {aA aA' bA bA' : Option Addr} {ak ac ak' ac' bk bc bk' bc' : Nat} {q qa qb : Rat}











end
end Go.Proofs.YtjajigkacccdgaaGreat
namespace Go.Proofs.YtjajigkacccdgaaGreat
set_option linter.unusedVariables false
set_option linter.unusedSimpArgs false
open Go.RowKit
open Wd
section
variable {w w' : World} {q : Rat} {A A' : Option Addr} {k c k' c' : Nat}



end
end Go.Proofs.YtjajigkacccdgaaGreat
namespace Go.Proofs.YtjajigkacccdgaaGreat
set_option linter.unusedVariables false
set_option linter.unusedSimpArgs false
open Go.RowKit
open Wd
/-- How many of the first k digits are left when zeros at the end are dropped. -/
def tl (hs : List Int) : Nat → Nat
 | 0 => 0
 | k + 1 => if hs[k]?.getD 0 = 0 then tl hs k else k + 1
theorem tl_le (hs : List Int) : ∀ k, tl hs k ≤ k
 | 0 => Nat.le_refl _
 | k + 1 => by
  have := tl_le hs k
  rw [tl]
  split <;> omega
theorem IsAt.take {w : World} {A : Option Addr} {n k : Nat} {us : List Int} (h : IsAt w A n us) (hk : k ≤ n) : IsAt w A k (us.take k) := by
 refine ⟨by simp [h.1, hk], fun h0 => ?_⟩
 obtain ⟨b, o, e, hlt, hc⟩ := h.2 (by omega)
 exact ⟨b, o, e, hlt, fun j hj => by rw [List.getElem?_take, if_pos hj]; exact hc j (by omega)⟩
theorem info_int : (Tryz.prog.info? 3).map (fun i => (i.zero, i.size, i.bytes)) = some (some (.int .i64 0), 1, 8) := by kernel_rfl

set_option maxRecDepth 100000 in
set_option maxHeartbeats 4000000 in
theorem rtrim_at (A : Option Addr) (n c : Nat) (hs : List Int) (w : World) (h : IsAt w A n hs) (hnc : n ≤ c) (hn : n ≤ 1000000000000) :
  Calls Tryz.prog 211 #[.slice A n c] w fun e w' => ∃ A1, e = .returned (.slice A1 (tl hs n) c) ∧ IsAt w' A1 (tl hs n) (hs.take (tl hs n)) ∧ w' = w ∧ ∀ b o, A = some ⟨b, o, none⟩ → A1 = some ⟨b, o, none⟩ := by
 have HX := Lib.hid h
 have HE : ∀ k, k ≤ n → ∃ A1, (∀ W, (Instr.sliceAt 199 (.slice A n c) none (some (.int .i64 (k : Int))) none).run Tryz.prog W = .ok (.slice A1 k c) W) ∧ IsAt w A1 k (hs.take k) ∧ ∀ b o, A = some ⟨b, o, none⟩ → A1 = some ⟨b, o, none⟩ := fun k hk => by
  obtain ⟨ii, hii, _⟩ := info_parts info_int
  obtain ⟨A1, h1, h2⟩ := slice_lo (P := Tryz.prog) Tryz.underlying199 hii A n c k (by omega)
  refine ⟨A1, h1, ⟨(h.take hk).1, fun h0 => ?_⟩, h2⟩
  obtain ⟨b, o, e, hh⟩ := (h.take hk).2 h0
  exact ⟨b, o, h2 b o e, hh⟩
 have HSL := Lib.hid HE
 clear h HE
 go_enter Tryz.func211, Tryz.ntmps211
 go_wp2_with fail
 go_loopw [3] (fun t wr => ∃ k : Nat, k ≤ n ∧ t = .int .i64 k ∧ Hid (tl hs n = tl hs k) ∧ Hid (wr = w)) (fun t _ => (intOf t).toNat)
 case atStart => exact ⟨n, Nat.le_refl _, rfl, rfl, by first | exact Lib.hid rfl | exact Lib.hid trivial⟩
 case round =>
  obtain ⟨k, hk, rfl, hR, hW⟩ := hrel
  obtain rfl := hW.out
  by_cases h0 : k = 0
  ·subst h0
   have hr := hR.out
   rw [tl] at hr
   obtain ⟨A1, hsl, hI, hAA⟩ := HSL.out 0 (by omega)
   clear hAA
   have HR := Lib.hid hr
   have HI := Lib.hid hI
   clear hr hI HSL hR
   go_wp2
   go_ret
   rw [HR.out]
   exact ⟨A, rfl, HX.out.take (Nat.zero_le _), rfl, fun b o h => h⟩
  ·obtain ⟨j, rfl⟩ : ∃ j, k = j + 1 := ⟨k - 1, by omega⟩
   obtain ⟨b, o, rfl, hb, hc⟩ := HX.out.2 (by omega)
   have cj := hc j (by omega)
   have hr := hR.out
   rw [tl] at hr
   have d1 : decide ((0 : Int) < (j : Int) + 1) = true := decide_eq_true (by omega)
   have xw : IntKind.i64.wrap ((j : Int) + 1 - 1) = (j : Int) := by rw [show (j : Int) + 1 - 1 = (j : Int) by omega]; exact IntWalk.i64_in _ (by omega)
   have xw2 : IntKind.i64.wrap (j : Int) = (j : Int) := IntWalk.i64_in _ (by omega)
   have j1 : (0 : Int) ≤ (j : Int) := by omega
   have j2 : (j : Int) < (n : Int) := by omega
   obtain ⟨A1, hsl, hI, hAA⟩ := HSL.out (j + 1) (by omega)
   have HAA := Lib.hid hAA
   clear hAA
   generalize hs[j]?.getD 0 = x at *
   clear hc hR
   by_cases hx : x = 0
   ·subst hx
    rw [if_pos rfl] at hr
    have HR := Lib.hid hr
    clear hr hI hsl
    go_wp2
    go_roundw
    case rel => exact ⟨j, by omega, by go_num, HR.out, by first | exact Lib.hid rfl | exact Lib.hid trivial⟩
    case measure => simp [intOf]
   ·rw [if_neg hx] at hr
    have HR := Lib.hid hr
    have HI := Lib.hid hI
    have hxz : (x == 0) = false := by simpa using hx
    have ej : ((j + 1 : Nat) : Int) = (j : Int) + 1 := rfl
    rw [ej] at hsl
    clear hr hI hx
    go_wp2
    go_ret
    rw [HR.out]
    exact ⟨A1, rfl, HI.out, rfl, by first | exact HAA.out | exact HAA.out _ _ rfl⟩

theorem rtrim_any (A : Option Addr) (n c : Nat) (hs : List Int) (w : World) (h : IsAt w A n hs) (hnc : n ≤ c) (hn : n ≤ 1000000000000) :
  Calls Tryz.prog 211 #[.slice A n c] w fun e w' => ∃ A1, e = .returned (.slice A1 (tl hs n) c) ∧ IsAt w' A1 (tl hs n) (hs.take (tl hs n)) ∧ w' = w :=
 (rtrim_at A n c hs w h hnc hn).mono fun e w' ⟨A1, h1, h2, h3, _⟩ => ⟨A1, h1, h2, h3⟩
set_option maxHeartbeats 2000000 in
theorem rat_any (A : Option Addr) (n c i : Nat) (hs : List Int) (w : World) (h : IsAt w A n hs) :
  Calls Tryz.prog 212 #[.slice A n c, .int .i64 i] w fun e w' => e = .returned (.int .i64 (hs[i]?.getD 0)) ∧ w' = w := by
 by_cases hi : i < n
 ·obtain ⟨b, o, rfl, hb, hc⟩ := h.2 (by omega)
  have ci := hc i hi
  have i1 : (0 : Int) ≤ (i : Int) := by omega
  have i2 : (i : Int) < (n : Int) := by omega
  generalize hs[i]?.getD 0 = x at *
  clear h hc
  go_enter Tryz.func212, Tryz.ntmps212
  go_wp2
  go_ret
  exact ⟨rfl, rfl⟩
 ·have e : hs[i]?.getD 0 = 0 := by rw [List.getElem?_eq_none (by rw [h.1]; omega)]; rfl
  have d1 : decide ((i : Int) < (n : Int)) = false := by simp; omega
  rw [e]
  clear e h
  go_enter Tryz.func212, Tryz.ntmps212
  go_wp2
  go_ret
  exact ⟨rfl, rfl⟩

end Go.Proofs.YtjajigkacccdgaaGreat

namespace Go.Proofs.YtjajigkacccdgaaGreat
set_option linter.unusedVariables false
set_option linter.unusedSimpArgs false
open Go.RowKit
open Wd

/-- The digits to base 65536 of words. -/
def halvesL (l : List Nat) : List Int := l.flatMap fun d : Nat => [((d : Nat) : Int) % 65536, ((d : Nat) : Int) / 65536]
theorem halvesL_len (l : List Nat) : (halvesL l).length = 2 * l.length := by
 induction l with
 | nil => rfl
 | cons d l ih =>
  unfold halvesL at *
  rw [List.flatMap_cons, List.length_append, ih, List.length_cons]
  simp
  omega
theorem halvesL_snoc {l : List Nat} {i : Nat} (hi : i < l.length) : halvesL (l.take (i + 1)) = halvesL (l.take i) ++ [((l[i]?.getD 0 : Nat) : Int) % 65536, ((l[i]?.getD 0 : Nat) : Int) / 65536] := by
 have e : l.take (i + 1) = l.take i ++ [l[i]?.getD 0] := by rw [List.take_add_one, List.getElem?_eq_getElem hi]; rfl
 unfold halvesL
 rw [e, List.flatMap_append]
 simp
theorem two_one {a b : Int} : ∀ u ∈ (#[.int .i64 a, .int .i64 b] : Array Value).toList, u.oneCell' = true := by
 intro u hu
 simp at hu
 rcases hu with rfl | rfl <;> rfl

set_option maxRecDepth 100000 in
set_option maxHeartbeats 4000000 in
theorem rhalves_any (A : Option Addr) (n c : Nat) (l : List Nat) (w : World) (h : Wat w A n l) (hn : n ≤ 100000000000) :
  Calls Tryz.prog 186 #[.slice A n c] w fun e w' => ∃ A1 c1, e = .returned (.slice A1 (tl (halvesL l) (2 * n)) c1) ∧ IsAt w' A1 (tl (halvesL l) (2 * n)) ((halvesL l).take (tl (halvesL l) (2 * n))) ∧ Below w.heap.size w w' ∧ tl (halvesL l) (2 * n) ≤ c1 := by
 have HW := Lib.hid h
 obtain ⟨ii, hii, hz0, hz1, hz2⟩ := info_parts info_int
 have HI := Lib.hid hii
 have HZ0 := Lib.hid hz0
 have HZ1 := Lib.hid hz1
 have HZ2 := Lib.hid hz2
 clear h hii hz0 hz1 hz2
 go_enter Tryz.func186, Tryz.ntmps186
 go_wp2_with fail
 go_loopw [3, 4] (fun th t wr => ∃ (i : Nat) (Ah : Option Addr) (ch : Nat), i ≤ n ∧ t = .int .i64 i ∧ th = .slice Ah (2 * i) ch ∧ Hid (Below w.heap.size w wr ∧ Own w.heap.size 3 1 wr Ah (2 * i) ch ((halvesL (l.take i)).map (Value.int .i64)))) (fun _ t _ => n - (intOf t).toNat)
 case atStart => exact ⟨0, none, 0, Nat.zero_le _, rfl, rfl, Below.refl _ _, by rw [List.take_zero]; exact Own.nil _ _ _ _⟩
 case round =>
  obtain ⟨i, Ah, ch, hi, rfl, rfl, hR⟩ := hrel
  by_cases hlt : i < n
  ·obtain ⟨hB, hO⟩ := hR.out
   obtain ⟨b, o, rfl, hb, hc⟩ := HW.out.2.2 (by omega)
   have hci := hc i hlt
   have cx := (hB.cell (p := ⟨b, o + i, none⟩) hb).trans hci
   have hsn := halvesL_snoc (l := l) (i := i) (by rw [HW.out.1]; exact hlt)
   have hd := HW.out.2.1.get i
   generalize l[i]?.getD 0 = d at *
   have hbr : b < wr.heap.size := Nat.lt_of_lt_of_le hb hB.size
   have q0 := hB
   have k1 := (Kp.refl wr).alloc (.cells #[.int .i64 ((d : Int) % 65536), .int .i64 ((d : Int) / 65536)] 3)
   have q1 : Below w.heap.size w (wr.alloc (.cells #[.int .i64 ((d : Int) % 65536), .int .i64 ((d : Int) / 65536)] 3)) := hB.trans (Below.mono k1 hB.size)
   have o1 := hO.keep k1
   have m1 := Blk.new wr 3 #[.int .i64 ((d : Int) % 65536), .int .i64 ((d : Int) / 65536)]
   have hS : ∀ w', Below w.heap.size w w' → w'.cell? ⟨b, o + i, none⟩ = some (.int .u32 (d : Int)) ∧ Below w.heap.size w w' := fun w' hk => ⟨(hk.cell (p := ⟨b, o + i, none⟩) hb).trans hci, hk⟩
   have HS := Lib.hid hS
   have i1 : (0 : Int) ≤ (i : Int) := by omega
   have i2 : (i : Int) < (n : Int) := by omega
   have HSN := Lib.hid hsn
   have e1 : ((d : Int)).tmod 65536 = (d : Int) % 65536 := Int.tmod_eq_emod_of_nonneg (by omega)
   have e2 : IntKind.i64.wrap ((d : Int) % 65536) = (d : Int) % 65536 := IntWalk.i64_in _ (by omega)
   have e3 : IntKind.u32.wrap ((d : Int) / 65536) = (d : Int) / 65536 := by rw [IntKind.wrap_u32]; omega
   have e4 : IntKind.i64.wrap ((d : Int) / 65536) = (d : Int) / 65536 := IntWalk.i64_in _ (by omega)
   clear hS hc hsn hR cx hci
   go_wp2_with fail
   go_region_held3 (fun w' => w'.cell? ⟨b, o + i, none⟩ = some (.int .u32 (d : Int)) ∧ Below w.heap.size w w')
    (first | exact HS.out _ g1 | exact HS.out _ q0.drew | exact HS.out _ q1.drew)
    (first
     | (refine step_append_my (base := w.heap.size) (e := 3) (size := 1) (bytes := 8) (by rfl) (.tmp 11) (.tmp 24) 199 rfl Tryz.underlying199 HI.out HZ0.out HZ1.out HZ2.out rfl (by decide) (xs := (halvesL (l.take i)).map (Value.int .i64)) (news := [.int .i64 ((d : Int) % 65536), .int .i64 ((d : Int) / 65536)]) rfl (by exact o1) rfl (by exact Blk.src m1 rfl two_one) (by simp only [maxLen]; omega) (by omega) (Below.size (w := w) (B := w.heap.size) (by exact q1.drew)) ?_
        intro B1 cb1 w1 hO1 hb1 hk1
        have g1 : Below w.heap.size w w1 := Below.trans (by exact q1.drew) hb1
        clear hb1 hk1))
   have hfin : Below w.heap.size w w1 ∧ Own w.heap.size 3 1 w1 B1 (2 * (i + 1)) cb1 ((halvesL (l.take (i + 1))).map (Value.int .i64)) := by
    refine ⟨g1, ?_⟩
    rw [HSN.out, List.map_append, show 2 * (i + 1) = 2 * i + 2 by omega]
    exact hO1
   have HF := Lib.hid hfin
   clear hfin g1 hO1
   go_wp2
   go_roundw
   case rel => exact ⟨i + 1, B1, cb1, by omega, by go_num, by rw [show 2 * (i + 1) = 2 * i + 2 by omega], HF.out⟩
   case measure => simp [intOf]; omega
  ·obtain rfl : i = n := by omega
   obtain ⟨hB, hO⟩ := hR.out
   rw [List.take_of_length_le (by rw [HW.out.1]; exact Nat.le_refl _)] at hO
   have hle : 2 * i ≤ ch := by
    rcases hO.2 with ⟨h7, h8⟩ | ⟨g', cap', cur', h7, _, _, h8, _⟩
    ·omega
    ·simp at h7; omega
   have T := rtrim_any Ah (2 * i) ch (halvesL l) wr hO.ints hle (by omega)
   have HT := Lib.hid T
   have HB := Lib.hid hB
   clear hR hB hO T
   go_wp2_with fail
   refine HT.out.mono ?_
   rintro e w1 ⟨A1, rfl, hI, rfl⟩
   have HI2 := Lib.hid hI
   clear hI HT
   go_wp2
   go_ret
   exact ⟨A1, ch, rfl, HI2.out, HB.out, Nat.le_trans (tl_le _ _) hle⟩

end Go.Proofs.YtjajigkacccdgaaGreat
