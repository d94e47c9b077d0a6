/-
The reference's MergeOffers and MergeBids of layer 24. Plain law of words in base 2^32: carried sums, differences, division by one word, the digit that a long division guesses. The iterator over the words of two magnitudes (package whole). A region that draws its order inside a round of a range over a function: it may be walked as outside of it, with loads taken first. addWords of package whole. Plain law of words in base 2^32: division by one word, a multiple subtracted, the long division. Rows of words that are written in place, and shortDiv of package whole. shiftLeft of package whole. estimate of package whole. estimate of package whole: the walk. The contracts of bits.Len32 and LeadingZeros32 at this dump, as the kit lays them. LeadingZeros32 of math/bits at words that are not 0. subtractMultiple of package whole. Plain law of a long division, digit by digit. No statement of the seat is proved here; no conditions beyond those of each theorem.
-/
import Derived.Test.YtjajigkacccdgaaGreatTaBJ
import Derived.Test.YtjajigkacccdgaaGreatTaBK
import Derived.Test.YtjajigkacccdgaaGreatTaBB
import Derived.OwnWalk
import Derived.Test.YtjajigkacccdgaaGreatTaAI
import Derived.RangeFuncBox
import Derived.RangeFuncNested
import Derived.RangeFuncLeaves
import Derived.Shelf.Abstract
import Derived.OwnWalkIn
import Derived.TacticsInMore
import Derived.LoopNIn
import Derived.LoopIn
import Derived.Maps.AppendAt
import Derived.OrdersIn
import Derived.OrdersHeld
import Derived.Deep.RegionHeld3
import Derived.Test.YtjajigkacccdgaaGreatTaAJ
import Derived.Laws.EntriesVeiled
import Derived.Test.YtjajigkacccdgaaGreatTaAK
import Derived.BigQuiet
import Derived.Shelf.Small.Bits
import Derived.Test.YtjajigkacccdgaaGreatProg
namespace Go.Proofs.YtjajigkacccdgaaGreat
set_option linter.unusedVariables false
set_option linter.unusedSimpArgs false
open Go.RowKit
open Wd

/-- What a merge returns, with the place of the error. -/
def MgX (up : Bool) (n : Nat) (ls : List (List (Int × Int))) (w : World) (e : Ending) (w' : World) : Prop :=
 ∃ (A : Option Addr) (m cap : Nat) (lv : List St.Lv), e = .returned (.tuple #[.slice A m cap, .int .i64 (ckC up ls).1, .int .i64 (ckC up ls).2]) ∧ LvAt w' A m n lv ∧ ((ckC up ls).2 = 0 → St.IsLv up n (St.tri 0 ls) lv ∧ VL up n lv) ∧ ((ckC up ls).2 ≠ 0 → lv = []) ∧ Below w.heap.size w w'
theorem ckF_place {up : Bool} : ∀ {ls : List (List (Int × Int))} {k : Nat}, (ckF up k ls).2 = 0 → (ckF up k ls).1 = 0
 | [], _, _ => rfl
 | x :: ls, k, h => by
  rw [ckF] at h ⊢
  by_cases hx : chk up x = 0
  ·rw [if_neg (by simpa using hx)] at h ⊢
   exact ckF_place h
  ·rw [if_pos hx] at h
   exact absurd h hx
theorem ckC_place {up : Bool} {ls : List (List (Int × Int))} (h : (ckC up ls).2 = 0) : (ckC up ls).1 = 0 := by
 unfold ckC at h ⊢
 split at h
 ·simp at h
 ·rename_i hn
  rw [if_neg hn]
  exact ckF_place h
/-- The levels of good curves. -/
theorem lv_some_of {up : Bool} {n : Nat} {T : List St.Tr} : ∃ lv, St.IsLv up n T lv := by
 have key : ∀ T : List St.Tr, ∃ D : List Int, D.Pairwise (St.ltU up) ∧ ∀ p, p ∈ D ↔ ∃ t ∈ T, t.2.2 = p := by
  have ins : ∀ (D : List Int) (x : Int), D.Pairwise (St.ltU up) → ∃ E : List Int, E.Pairwise (St.ltU up) ∧ ∀ p, p ∈ E ↔ p = x ∨ p ∈ D := by
   intro D x
   induction D with
   | nil => intro _; exact ⟨[x], by simp, by simp⟩
   | cons d D ih =>
    intro hD
    rw [List.pairwise_cons] at hD
    obtain ⟨E, hE, hm⟩ := ih hD.2
    rcases St.ltU_tri (up := up) x d with h | h | h
    ·refine ⟨x :: d :: D, ?_, by simp⟩
     rw [List.pairwise_cons]
     refine ⟨fun y hy => ?_, List.pairwise_cons.2 hD⟩
     rcases List.mem_cons.1 hy with rfl | hy
     ·exact h
     ·exact St.ltU_trans h (hD.1 y hy)
    ·subst h
     exact ⟨x :: D, List.pairwise_cons.2 hD, by simp⟩
    ·refine ⟨d :: E, ?_, fun p => ?_⟩
     ·rw [List.pairwise_cons]
      refine ⟨fun y hy => ?_, hE⟩
      rcases (hm y).1 hy with rfl | hy
      ·exact h
      ·exact hD.1 y hy
     ·rw [List.mem_cons, hm, List.mem_cons]
      constructor
      ·rintro (h | h | h)
       ·exact Or.inr (Or.inl h)
       ·exact Or.inl h
       ·exact Or.inr (Or.inr h)
      ·rintro (h | h | h)
       ·exact Or.inr (Or.inl h)
       ·exact Or.inl h
       ·exact Or.inr (Or.inr h)
  intro T
  induction T with
  | nil => exact ⟨[], List.Pairwise.nil, by simp⟩
  | cons t T ih =>
   obtain ⟨D, hD, hm⟩ := ih
   obtain ⟨E, hE, hmE⟩ := ins D t.2.2 hD
   refine ⟨E, hE, fun p => ?_⟩
   rw [hmE, hm]
   simp [eq_comm]
 obtain ⟨D, hD, hm⟩ := key T
 refine ⟨D.map fun p => (p, St.qty T p, St.parts n T p), ?_, fun p => ?_, fun x hx => ?_⟩
 ·rw [List.map_map]
  have e : D.map ((fun x : St.Lv => x.1) ∘ fun p => (p, St.qty T p, St.parts n T p)) = D := by
   have : ((fun x : St.Lv => x.1) ∘ fun p => (p, St.qty T p, St.parts n T p)) = id := rfl
   rw [this, List.map_id]
  rw [e]
  exact hD
 ·rw [← hm, List.map_map]
  have e : D.map ((fun x : St.Lv => x.1) ∘ fun p => (p, St.qty T p, St.parts n T p)) = D := by
   have : ((fun x : St.Lv => x.1) ∘ fun p => (p, St.qty T p, St.parts n T p)) = id := rfl
   rw [this, List.map_id]
  rw [e]
 ·obtain ⟨p, _, rfl⟩ := List.mem_map.1 hx
  exact ⟨rfl, rfl⟩

set_option maxRecDepth 100000 in
set_option maxHeartbeats 4000000 in
theorem rmerge_offers (A : Option Addr) (n c : Nat) (ls : List (List (Int × Int))) (w : World) (h : CsAt w A n ls) :
  Calls Tryz.prog 14 #[.slice A n c] w (MgX true n ls w) := by
 by_cases h5 : 16 < n
 ·have e : ckC true ls = (0, 5) := by unfold ckC; rw [if_pos (by rw [h.1]; exact h5)]
  have d5 : decide ((16 : Int) < (n : Int)) = true := by simp; omega
  unfold MgX
  rw [e]
  clear h e
  go_enter Tryz.func14, Tryz.ntmps14
  go_wp2
  go_ret3
  exact ⟨none, 0, 0, [], rfl, ⟨rfl, fun h0 => absurd rfl h0⟩, fun h0 => absurd h0 (by decide), fun _ => rfl, Below.refl _ _⟩
 ·have e : ckC true ls = ckF true 0 ls := by unfold ckC; rw [if_neg (by rw [h.1]; exact h5)]
  have d5 : decide ((16 : Int) < (n : Int)) = false := by simp; omega
  have HM := Lib.hid (fun (h0 : (ckC true ls).2 = 0) W (hW : Below w.heap.size w W) => (by
   obtain ⟨lv, hlv⟩ := lv_some_of (up := true) (n := n) (T := St.tri 0 ls)
   have hn : ls.length = n := h.1
   have hv : VL true n lv := by rw [← hn] at hlv ⊢; exact lv_valid h0 hlv
   refine (merge_true A n c ls lv W (h.below hW) (ckC_good h0).2.1 hlv hv (by omega)).mono ?_
   rintro e w' ⟨A1, c1, rfl, h1, h2⟩
   exact ⟨A1, c1, lv, rfl, h1, ⟨hlv, hv⟩, h2⟩ : Calls Tryz.prog 66 #[.slice A n c, .bool true] W fun e w' => ∃ A1 c1 lv, e = .returned (.slice A1 lv.length c1) ∧ LvAt w' A1 lv.length n lv ∧ (St.IsLv true n (St.tri 0 ls) lv ∧ VL true n lv) ∧ Below W.heap.size W w'))
  have HE := Lib.hid e
  have HC := Lib.hid h
  have HLN := Lib.hid h.1
  clear e h
  go_enter Tryz.func14, Tryz.ntmps14
  go_wp2_with fail
  go_loopw [5] (fun t wr => ∃ k : Nat, k ≤ n ∧ t = .int .i64 k ∧ Hid (ckF true 0 ls = ckF true k (ls.drop k)) ∧ Hid (Below w.heap.size w wr)) (fun t _ => n - (intOf t).toNat)
  case atStart => exact ⟨0, Nat.zero_le _, rfl, rfl, Below.refl _ _⟩
  case round =>
   obtain ⟨k, hk, rfl, hR, hB⟩ := hrel
   by_cases hlt : k < n
   ·obtain ⟨b, o, rfl, hb, hcell⟩ := HC.out.2 (by omega)
    obtain ⟨A', n', c', hci, hsi⟩ := hcell k hlt
    have hc2 := (hB.out.cell (p := ⟨b, o + k, none⟩) hb).trans hci
    have hr := hR.out
    rw [dropL (by rw [HLN.out]; exact hlt), ckF] at hr
    have T := rcheck_up A' n' c' _ wr (hsi.below hB.out)
    have hki1 : (0 : Int) ≤ (k : Int) := by omega
    have hki2 : (k : Int) < (n : Int) := by omega
    generalize ls[k]?.getD [] = l at *
    clear hcell hci hsi
    by_cases hz : chk true l = 0
    ·rw [if_neg (by simpa using hz)] at hr
     rw [hz] at T
     have HT := Lib.hid T
     have HR := Lib.hid hr
     clear T hr hz hR
     go_wp2_with fail
     refine HT.out.mono ?_
     rintro e w2 ⟨rfl, hb2⟩
     have HB2 := Lib.hid (hB.out.trans (hb2.mono hB.out.size))
     clear hb2 HT
     go_wp2
     go_roundw
     case rel => exact ⟨k + 1, by omega, by go_num, HR.out, HB2.out⟩
     case measure => simp [intOf]; omega
    ·rw [if_pos hz] at hr
     have HZ := Lib.hid hz
     generalize chk true l = x at *
     have hx : (x != 0) = true := by simpa using hz
     have HT := Lib.hid T
     have HR := Lib.hid hr
     clear T hr hz hR
     go_wp2_with fail
     refine HT.out.mono ?_
     rintro e w2 ⟨rfl, hb2⟩
     have HB2 := Lib.hid (hB.out.trans (hb2.mono hB.out.size))
     clear hb2 HT
     go_wp2
     go_ret3
     refine ⟨none, 0, 0, [], by rw [HE.out, HR.out]; rfl, ⟨rfl, fun h0 => absurd rfl h0⟩, fun h0 => ?_, fun _ => rfl, HB2.out⟩
     rw [HE.out, HR.out] at h0
     exact absurd h0 HZ.out
   ·obtain rfl : k = n := by omega
    have hr := hR.out
    rw [List.drop_of_length_le (by rw [HLN.out]; exact Nat.le_refl _), ckF, ← HE.out] at hr
    have h0 : (ckC true ls).2 = 0 := by rw [hr]
    have HT := Lib.hid (HM.out h0 wr hB.out)
    have HR := Lib.hid hr
    clear hr hR h0 HM HE
    go_wp2_with fail
    refine HT.out.mono ?_
    rintro e w2 ⟨A1, c1, lv, rfl, h1, h2, hb2⟩
    have HF := Lib.hid (And.intro h1 (And.intro h2 (hB.out.trans (hb2.mono hB.out.size))))
    clear h1 h2 hb2 HT
    go_wp2
    go_ret3
    exact ⟨A1, lv.length, c1, lv, by rw [HR.out]; rfl, HF.out.1, fun _ => HF.out.2.1, fun h0 => absurd (by rw [HR.out]) h0, HF.out.2.2⟩

set_option maxRecDepth 100000 in
set_option maxHeartbeats 4000000 in
theorem rmerge_bids (A : Option Addr) (n c : Nat) (ls : List (List (Int × Int))) (w : World) (h : CsAt w A n ls) :
  Calls Tryz.prog 15 #[.slice A n c] w (MgX false n ls w) := by
 by_cases h5 : 16 < n
 ·have e : ckC false ls = (0, 5) := by unfold ckC; rw [if_pos (by rw [h.1]; exact h5)]
  have d5 : decide ((16 : Int) < (n : Int)) = true := by simp; omega
  unfold MgX
  rw [e]
  clear h e
  go_enter Tryz.func15, Tryz.ntmps15
  go_wp2
  go_ret3
  exact ⟨none, 0, 0, [], rfl, ⟨rfl, fun h0 => absurd rfl h0⟩, fun h0 => absurd h0 (by decide), fun _ => rfl, Below.refl _ _⟩
 ·have e : ckC false ls = ckF false 0 ls := by unfold ckC; rw [if_neg (by rw [h.1]; exact h5)]
  have d5 : decide ((16 : Int) < (n : Int)) = false := by simp; omega
  have HM := Lib.hid (fun (h0 : (ckC false ls).2 = 0) W (hW : Below w.heap.size w W) => (by
   obtain ⟨lv, hlv⟩ := lv_some_of (up := false) (n := n) (T := St.tri 0 ls)
   have hn : ls.length = n := h.1
   have hv : VL false n lv := by rw [← hn] at hlv ⊢; exact lv_valid h0 hlv
   refine (merge_false A n c ls lv W (h.below hW) (ckC_good h0).2.1 hlv hv (by omega)).mono ?_
   rintro e w' ⟨A1, c1, rfl, h1, h2⟩
   exact ⟨A1, c1, lv, rfl, h1, ⟨hlv, hv⟩, h2⟩ : Calls Tryz.prog 66 #[.slice A n c, .bool false] W fun e w' => ∃ A1 c1 lv, e = .returned (.slice A1 lv.length c1) ∧ LvAt w' A1 lv.length n lv ∧ (St.IsLv false n (St.tri 0 ls) lv ∧ VL false n lv) ∧ Below W.heap.size W w'))
  have HE := Lib.hid e
  have HC := Lib.hid h
  have HLN := Lib.hid h.1
  clear e h
  go_enter Tryz.func15, Tryz.ntmps15
  go_wp2_with fail
  go_loopw [5] (fun t wr => ∃ k : Nat, k ≤ n ∧ t = .int .i64 k ∧ Hid (ckF false 0 ls = ckF false k (ls.drop k)) ∧ Hid (Below w.heap.size w wr)) (fun t _ => n - (intOf t).toNat)
  case atStart => exact ⟨0, Nat.zero_le _, rfl, rfl, Below.refl _ _⟩
  case round =>
   obtain ⟨k, hk, rfl, hR, hB⟩ := hrel
   by_cases hlt : k < n
   ·obtain ⟨b, o, rfl, hb, hcell⟩ := HC.out.2 (by omega)
    obtain ⟨A', n', c', hci, hsi⟩ := hcell k hlt
    have hc2 := (hB.out.cell (p := ⟨b, o + k, none⟩) hb).trans hci
    have hr := hR.out
    rw [dropL (by rw [HLN.out]; exact hlt), ckF] at hr
    have T := rcheck_dn A' n' c' _ wr (hsi.below hB.out)
    have hki1 : (0 : Int) ≤ (k : Int) := by omega
    have hki2 : (k : Int) < (n : Int) := by omega
    generalize ls[k]?.getD [] = l at *
    clear hcell hci hsi
    by_cases hz : chk false l = 0
    ·rw [if_neg (by simpa using hz)] at hr
     rw [hz] at T
     have HT := Lib.hid T
     have HR := Lib.hid hr
     clear T hr hz hR
     go_wp2_with fail
     refine HT.out.mono ?_
     rintro e w2 ⟨rfl, hb2⟩
     have HB2 := Lib.hid (hB.out.trans (hb2.mono hB.out.size))
     clear hb2 HT
     go_wp2
     go_roundw
     case rel => exact ⟨k + 1, by omega, by go_num, HR.out, HB2.out⟩
     case measure => simp [intOf]; omega
    ·rw [if_pos hz] at hr
     have HZ := Lib.hid hz
     generalize chk false l = x at *
     have hx : (x != 0) = true := by simpa using hz
     have HT := Lib.hid T
     have HR := Lib.hid hr
     clear T hr hz hR
     go_wp2_with fail
     refine HT.out.mono ?_
     rintro e w2 ⟨rfl, hb2⟩
     have HB2 := Lib.hid (hB.out.trans (hb2.mono hB.out.size))
     clear hb2 HT
     go_wp2
     go_ret3
     refine ⟨none, 0, 0, [], by rw [HE.out, HR.out]; rfl, ⟨rfl, fun h0 => absurd rfl h0⟩, fun h0 => ?_, fun _ => rfl, HB2.out⟩
     rw [HE.out, HR.out] at h0
     exact absurd h0 HZ.out
   ·obtain rfl : k = n := by omega
    have hr := hR.out
    rw [List.drop_of_length_le (by rw [HLN.out]; exact Nat.le_refl _), ckF, ← HE.out] at hr
    have h0 : (ckC false ls).2 = 0 := by rw [hr]
    have HT := Lib.hid (HM.out h0 wr hB.out)
    have HR := Lib.hid hr
    clear hr hR h0 HM HE
    go_wp2_with fail
    refine HT.out.mono ?_
    rintro e w2 ⟨A1, c1, lv, rfl, h1, h2, hb2⟩
    have HF := Lib.hid (And.intro h1 (And.intro h2 (hB.out.trans (hb2.mono hB.out.size))))
    clear h1 h2 hb2 HT
    go_wp2
    go_ret3
    exact ⟨A1, lv.length, c1, lv, by rw [HR.out]; rfl, HF.out.1, fun _ => HF.out.2.1, fun h0 => absurd (by rw [HR.out]) h0, HF.out.2.2⟩

end Go.Proofs.YtjajigkacccdgaaGreat

namespace Go.Proofs.YtjajigkacccdgaaGreat
namespace Wd
set_option linter.unusedVariables false
set_option linter.unusedSimpArgs false






















end Wd
end Go.Proofs.YtjajigkacccdgaaGreat
namespace Go.Proofs.YtjajigkacccdgaaGreat
set_option linter.unusedVariables false
set_option linter.unusedSimpArgs false
open Go.RowKit Go.Shelf
open Wd
attribute [local go_sem] Oper.semAt_some













end Go.Proofs.YtjajigkacccdgaaGreat
namespace Go.Proofs.YtjajigkacccdgaaGreat
set_option linter.unusedVariables false
set_option linter.unusedSimpArgs false
open Go












end Go.Proofs.YtjajigkacccdgaaGreat
namespace Go.Proofs.YtjajigkacccdgaaGreat
set_option linter.unusedVariables false
set_option linter.unusedSimpArgs false
open Go.RowKit Go.Shelf
open Wd
attribute [local go_sem] Oper.semAt_some





















end Go.Proofs.YtjajigkacccdgaaGreat
namespace Go.Proofs.YtjajigkacccdgaaGreat
namespace Wd
set_option linter.unusedVariables false
set_option linter.unusedSimpArgs false



/-- While the words from i on have been divided by y: p in place of l, r over. -/
structure SdInv (l : List Nat) (y i : Nat) (p : List Nat) (r : Nat) : Prop where
 len : p.length = l.length
 ws : Ws p
 low : ∀ j, j < i → p[j]?.getD 0 = l[j]?.getD 0
 eq : val (l.drop i) = y * val (p.drop i) + r
 rest : r < y



/-- While the words below i of f v have been taken from u: p in place of u, c the carry of the product, b the borrow. -/
structure SmInv (u v : List Nat) (f i : Nat) (p : List Nat) (c b : Nat) : Prop where
 len : p.length = u.length
 ws : Ws p
 high : ∀ j, i ≤ j → p[j]?.getD 0 = u[j]?.getD 0
 carry : c < 4294967296
 borrow : b ≤ 1
 none : v.length < i → c = 0
 eq : val (u.take i) + 4294967296 ^ i * (b + c) = val (p.take i) + f * val (v.take i)







end Wd
end Go.Proofs.YtjajigkacccdgaaGreat
namespace Go.Proofs.YtjajigkacccdgaaGreat
set_option linter.unusedVariables false
set_option linter.unusedSimpArgs false
open Go.RowKit
open Wd
/-- Words in a row that may be written: in block b from offset o on. -/
def Rw (w : World) (b o n : Nat) (p : List Nat) : Prop :=
 p.length = n ∧ Ws p ∧ b < w.heap.size ∧ (∀ j, j < n → w.cell? ⟨b, o + j, none⟩ = some (.int .u32 ((p[j]?.getD 0 : Nat) : Int))) ∧ ∀ j, j < n → w.frozen? ⟨b, o + j, none⟩ = false







/-- All blocks that were there are as they were, but for block b. -/
structure Bx (b : Nat) (w w' : World) : Prop where
 os : w'.os = w.os
 tape : w'.tape = w.tape
 output : w'.output = w.output
 size : w.heap.size ≤ w'.heap.size
 block : ∀ k, k < w.heap.size → k ≠ b → w'.heap[k]? = w.heap[k]?









end Go.Proofs.YtjajigkacccdgaaGreat
namespace Go.Proofs.YtjajigkacccdgaaGreat
set_option linter.unusedVariables false
set_option linter.unusedSimpArgs false
open Go.RowKit
open Wd








end Go.Proofs.YtjajigkacccdgaaGreat
namespace Go.Proofs.YtjajigkacccdgaaGreat
set_option linter.unusedVariables false
set_option linter.unusedSimpArgs false
open Go.RowKit
open Wd


/-- The words that estimate looks at, as numbers. -/
structure EsF (f s t x P ul vl U V : Nat) : Prop where
 hV : V = (f * 4294967296 + s) * P + vl
 hU : U = (t * 4294967296 + x) * P + ul
 hul : ul < P
 hvl : vl < P
 hx : x < 4294967296
 hs : s < 4294967296
 hf : 4294967296 ≤ 2 * f
 hlt : U < 4294967296 * V






end Go.Proofs.YtjajigkacccdgaaGreat
namespace Go.Proofs.YtjajigkacccdgaaGreat
set_option linter.unusedVariables false
set_option linter.unusedSimpArgs false
open Go.RowKit
open Wd
end Go.Proofs.YtjajigkacccdgaaGreat
namespace Go.Proofs.YtjajigkacccdgaaGreat
open Go.Shelf



end Go.Proofs.YtjajigkacccdgaaGreat
namespace Go.Proofs.YtjajigkacccdgaaGreat
set_option linter.unusedVariables false
set_option linter.unusedSimpArgs false
open Go.RowKit
open Wd

end Go.Proofs.YtjajigkacccdgaaGreat
namespace Go.Proofs.YtjajigkacccdgaaGreat
set_option linter.unusedVariables false
set_option linter.unusedSimpArgs false
open Go.RowKit
open Wd










end Go.Proofs.YtjajigkacccdgaaGreat
namespace Go.Proofs.YtjajigkacccdgaaGreat
set_option linter.unusedVariables false
set_option linter.unusedSimpArgs false
open Go.RowKit
open Wd

/-- While the digits from k on are found: U in place of u0, Q the digits. -/
structure LdI (u0 v : List Nat) (n k : Nat) (U Q : List Nat) : Prop where
 len : U.length = u0.length
 ws : Ws U
 qws : Ws Q
 low : val (U.drop k) < val v
 top : val (U.drop (k + n)) = 0
 eq : val u0 = val v * (4294967296 ^ k * val (Q.drop k)) + val U















end Go.Proofs.YtjajigkacccdgaaGreat