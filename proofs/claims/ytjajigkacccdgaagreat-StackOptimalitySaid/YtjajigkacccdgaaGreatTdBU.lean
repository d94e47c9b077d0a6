/-
Allocate and Cost of package step where the quantity is refused; fill of package stack where it is refused. Plain facts on numbers written in base 65536, least digit first, as lists of integers. No program occurs here; no conditions beyond those of each theorem. The reference of layer 1 at numbers of any size: trim, at, halves, of, cmp. No statement of the seat is proved here; no conditions beyond those of each theorem.
-/
import Derived.Test.YtjajigkacccdgaaGreatTdBO
import Derived.Test.YtjajigkacccdgaaGreatTdBT
import Derived.Test.YtjajigkacccdgaaGreatTdBE
import Derived.Test.YtjajigkacccdgaaGreatTdBQ
import Derived.Test.YtjajigkacccdgaaGreatTdBL
namespace Go.Proofs.YtjajigkacccdgaaGreat
set_option linter.unusedVariables false
set_option linter.unusedSimpArgs false
open Go.RowKit
open Wd

theorem num_ltW (q : Rat) : q < 0 ↔ q.num < 0 := by rw [Rat.lt_iff]; simp

set_option maxRecDepth 100000 in
set_option maxHeartbeats 8000000 in
theorem salloc_no (A : Option Addr) (n c : Nat) (l : List (Int × Int)) (w : World) (h : StAt w A n l) (he : curveE l = 0) (an an' : Bool) (aA aA' : Option Addr) (ak ac ak' ac' : Nat) (q : Rat) (hq : QArg w an aA ak ac an' aA' ak' ac' q) (hx : q < 0 ∨ ((qsum l : Int) : Rat) < q) :
  Calls Tryz.prog 89 #[.slice A n c, .agg #[.bool an, .slice aA ak ac, .bool an', .slice aA' ak' ac']] w fun e w' => e = .returned (.tuple #[.slice none 0 0, .int .i64 1]) ∧ Below w.heap.size w w' := by
 obtain ⟨hn0, hn3, hok⟩ := curve_ok he
 have hln := h.1
 have hbd := qsum_bd l hok
 have hlen : (l.length : Int) ≤ 3 := by omega
 have hsum : sumS l = qsum l := by unfold sumS; rw [if_pos he]
 have CC := fun W (hW : Below w.heap.size w W) => checkCurve_any A n c l W (h.below hW) (by omega)
 have SM := fun W (hW : Below w.heap.size w W) => sum_any A n c l W (h.below hW) (by omega)
 rw [he] at CC
 rw [hsum] at SM
 have SG := fun W (hW : Below w.heap.size w W) => (by obtain ⟨N, D, hqa⟩ := hq.below hW; exact qsign_any an an' aA aA' ak ac ak' ac' q W hqa : Calls Tryz.prog 57 #[.agg #[.bool an, .slice aA ak ac, .bool an', .slice aA' ak' ac']] W fun e w' => e = .returned (.int .i64 (sgnQ q)) ∧ Below W.heap.size W w')
 have FI := fun W => qfromInt64_any (qsum l) W (by omega) (by omega)
 have CM := fun (W : World) (hW : Below w.heap.size w W) (B : Option Addr) (k d : Nat) (B' : Option Addr) (k' d' : Nat) (h : RQ W ((qsum l : Int) : Rat) B k d B' k' d') => qcmp_arg an an' _ false aA aA' B B' ak ac ak' ac' k d k' d' q _ W (hq.below hW) (WQ.arg h (by omega))
 generalize qsum l = sl at *
 generalize ((sl : Int) : Rat) = qs at *
 by_cases hneg : q < 0
 ·have hsg : decide (sgnQ q < 0) = true := by
   have := (num_ltW q).1 hneg
   unfold sgnQ
   rw [cmpI_lt this]
   decide
  generalize sgnQ q = sq at *
  have SG := Lib.hid SG
  have CC := Lib.hid CC
  clear SM FI CM h hq hx hneg
  go_enter Tryz.func89, Tryz.ntmps89
  go_wp2_with fail
  have hB0 := Blk.new w 42 #[.bool an, .slice aA ak ac, .bool an', .slice aA' ak' ac']
  have hBW : Below w.heap.size w (w.alloc (.cells #[.bool an, .slice aA ak ac, .bool an', .slice aA' ak' ac'] 42)) := (Below.refl _ _).alloc (Nat.le_refl _) _
  generalize w.alloc (.cells #[.bool an, .slice aA ak ac, .bool an', .slice aA' ak' ac'] 42) = W at *
  refine (CC.out W hBW).mono ?_
  rintro e w1 ⟨rfl, hb1⟩
  have hB1 := hB0.below hb1 hB0.lt
  have hBW1 : Below w.heap.size w w1 := hBW.trans (hb1.mono hBW.size)
  have HBK := Lib.hid (show ∀ w', Kp w1 w' → Below w.heap.size w w' from fun w' hk => hBW1.trans (Below.mono hk hBW1.size))
  have HS := Lib.hid (show ∀ w', Kp w1 w' → (w'.cell? ⟨w.heap.size, 0, none⟩ = some (.bool an) ∧ w'.cell? ⟨w.heap.size, 1, none⟩ = some (.slice aA ak ac) ∧ w'.cell? ⟨w.heap.size, 2, none⟩ = some (.bool an') ∧ w'.cell? ⟨w.heap.size, 3, none⟩ = some (.slice aA' ak' ac')) ∧ Kp w1 w' from fun w' hk => ⟨⟨(hk.blk hB1).cell 0, (hk.blk hB1).cell 1, (hk.blk hB1).cell 2, (hk.blk hB1).cell 3⟩, hk⟩)
  clear hb1 hB0 hBW hB1 hBW1 CC
  go_wp2_with fail
  refine wp_region_held_drew (S := fun w' => (w'.cell? ⟨w.heap.size, 0, none⟩ = some (.bool an) ∧ w'.cell? ⟨w.heap.size, 1, none⟩ = some (.slice aA ak ac) ∧ w'.cell? ⟨w.heap.size, 2, none⟩ = some (.bool an') ∧ w'.cell? ⟨w.heap.size, 3, none⟩ = some (.slice aA' ak' ac')) ∧ Kp w1 w') (by kernel_rfl) (HS.out _ (Kp.drew (Kp.refl w1))) (fun hHeld => ?_)
  refine' tkk 0 rfl (by kernel_rfl) (fun _ _ _ h => h) (.inl ⟨by rfl, ?_⟩) (by assumption) ?_; rotate_left
  ·(intro w hSw; (try dsimp only at hSw); (try simp only [p1, p2, p3]); go_simp; first | done | with_reducible rfl)
  (try simp only [Act.put, p1, p2, p3, p4, p5, p6])
  refine wpAnyH_ready (rs := [1]) (by kernel_rfl) (by simp) ?_
  refine AllReadyH.cons rfl (fun K hK => ?_) AllReadyH.nil
  (try simp only [p1, p2, p3])
  go_simp
  have hk := And.right ‹_ ∧ Kp w1 _›
  refine (SG.out _ (HBK.out _ hk)).mono ?_
  rintro e v1 ⟨rfl, hbx⟩
  have hp : Kp w1 v1 := Kp.trans hk hbx
  clear hk hbx
  (try (go_wp2_with fail))
  refine hK.out _ _ ?k1 (fun hHeld1 => ?n1)
  case k1 => ((try dsimp only); first | (with_reducible refine HS.out _ ?_; with_reducible assumption) | (with_reducible refine HS.out _ (Kp.drew ?_); with_reducible assumption) | (with_reducible refine' HS.out _ (Kp.drew (And.right ?_)); rotate_left; with_reducible assumption))
  clear hK K
  (try simp only [Act.put, p1, p2, p3, p4, p5, p6])
  refine' tkk 2 rfl (by kernel_rfl) (fun _ _ _ h => h) (.inl ⟨by rfl, ?_⟩) (by assumption) ?_; rotate_left
  ·(intro w hSw; (try dsimp only at hSw); (try simp only [p1, p2, p3]); go_simp; first | done | with_reducible rfl)
  (try simp only [Act.put, p1, p2, p3, p4, p5, p6])
  refine' tkk 3 rfl (by kernel_rfl) (fun _ _ _ h => h) (.inl ⟨by rfl, ?_⟩) (by assumption) ?_; rotate_left
  ·(intro w hSw; (try dsimp only at hSw); (try simp only [p1, p2, p3]); go_simp; first | done | with_reducible rfl)
  (try simp only [Act.put, p1, p2, p3, p4, p5, p6])
  refine tkk (v := undef) 4 rfl (by kernel_rfl) (fun _ _ _ h => h) (.inr ⟨by rfl, rfl⟩) (by assumption) ?_
  (try simp only [Act.put, p1, p2, p3, p4, p5, p6])
  refine tkk (v := undef) 5 rfl (by kernel_rfl) (fun _ _ _ h => h) (.inr ⟨by rfl, rfl⟩) (by assumption) ?_
  (try simp only [Act.put, p1, p2, p3, p4, p5, p6])
  refine tkk (v := undef) 6 rfl (by kernel_rfl) (fun _ _ _ h => h) (.inr ⟨by rfl, rfl⟩) (by assumption) ?_
  (try simp only [Act.put, p1, p2, p3, p4, p5, p6])
  refine tkk (v := undef) 7 rfl (by kernel_rfl) (fun _ _ _ h => h) (.inr ⟨by rfl, rfl⟩) (by assumption) ?_
  (try simp only [Act.put, p1, p2, p3, p4, p5, p6])
  refine tkk (v := undef) 8 rfl (by kernel_rfl) (fun _ _ _ h => h) (.inr ⟨by rfl, rfl⟩) (by assumption) ?_
  (try simp only [Act.put, p1, p2, p3, p4, p5, p6])
  refine tkk (v := undef) 9 rfl (by kernel_rfl) (fun _ _ _ h => h) (.inr ⟨by rfl, rfl⟩) (by assumption) ?_
  (try simp only [Act.put, p1, p2, p3, p4, p5, p6])
  refine' tkk 10 rfl (by kernel_rfl) (fun _ _ _ h => h) (.inl ⟨by rfl, ?_⟩) (by assumption) ?_; rotate_left
  ·(intro w hSw; (try dsimp only at hSw); (try simp only [p1, p2, p3]); go_simp; first | done | with_reducible rfl)
  (try simp only [Act.put, p1, p2, p3, p4, p5, p6])
  refine wpAnyH_done (by kernel_rfl) ?_ _
  (try clear hHeld1)
  (try clear hHeld2)
  (try clear hHeld3)
  (try clear hHeld4)
  (try clear hHeld5)
  (try clear hHeld6)
  (try clear hHeld7)
  (try clear hHeld8)
  (try clear hHeld9)
  (try clear hHeld10)
  (try clear hHeld11)
  (try clear hHeld12)
  (try clear hHeld13)
  (try clear hHeld14)
  (try clear hHeld15)
  (try clear hHeld16)
  (try clear hHeld17)
  (try clear hHeld18)
  (try clear hHeld19)
  (try clear hHeld20)
  (try clear hHeld21)
  (try clear hHeld22)
  (try clear hHeld23)
  (try clear hHeld24)
  (try clear hHeld25)
  (try clear hHeld26)
  (try clear hHeld27)
  (try clear hHeld28)
  (try clear hHeld29)
  (try clear hHeld30)
  (try clear hHeld31)
  (try clear hHeld32)
  (try clear hHeld33)
  (try clear hHeld34)
  (try clear hHeld35)
  (try clear hHeld36)
  (try clear hHeld37)
  (try clear hHeld38)
  (try clear hHeld39)
  (try clear hHeld40)
  (try clear hHeld41)
  (try clear hHeld42)
  (try clear hHeld43)
  (try clear hHeld44)
  (try clear hHeld45)
  (try clear hHeld46)
  (try clear hHeld47)
  (try clear hHeld48)
  (try clear hHeld49)
  (try clear hHeld50)
  (try clear hHeld51)
  (try clear hHeld52)
  (try clear hHeld53)
  (try clear hHeld54)
  (try clear hHeld55)
  (try clear hHeld56)
  (try clear hHeld57)
  (try clear hHeld58)
  (try clear hHeld59)
  (try clear hHeld60)
  (try clear hHeld61)
  (try clear hHeld62)
  (try clear hHeld63)
  (try clear hHeld64)
  (try clear hHeld65)
  (try clear hHeld66)
  (try clear hHeld67)
  (try clear hHeld68)
  (try clear hHeld69)
  (try clear hHeld70)
  (try clear hHeld71)
  (try clear hHeld72)
  (try clear hHeld73)
  (try clear hHeld74)
  (try clear hHeld75)
  (try clear hHeld76)
  (try clear hHeld77)
  (try clear hHeld78)
  (try clear hHeld79)
  (try clear hHeld80)
  (try clear hHeld81)
  (try clear hHeld82)
  (try clear hHeld83)
  (try clear hHeld84)
  (try clear hHeld85)
  (try clear hHeld86)
  (try clear hHeld87)
  (try clear hHeld88)
  (try clear hHeld89)
  (try clear hHeld90)
  (try clear hHeld91)
  (try clear hHeld92)
  (try clear hHeld93)
  (try clear hHeld94)
  (try clear hHeld95)
  (try clear hHeld96)
  (try clear hHeld97)
  (try clear hHeld98)
  (try clear hHeld99)
  (try clear hHeld100)
  (try clear hHeld101)
  (try clear hHeld102)
  (try clear hHeld103)
  (try clear hHeld104)
  (try clear hHeld105)
  (try clear hHeld106)
  (try clear hHeld107)
  (try clear hHeld108)
  (try clear hHeld109)
  (try clear hHeld110)
  (try clear hHeld111)
  (try clear hHeld112)
  (try clear hHeld113)
  (try clear hHeld114)
  (try clear hHeld115)
  (try clear hHeld116)
  (try clear hHeld117)
  (try clear hHeld118)
  (try clear hHeld119)
  (try clear hHeld120)
  (try clear hHeld121)
  (try clear hHeld122)
  (try clear hHeld123)
  (try clear hHeld124)
  (try clear hHeld125)
  (try clear hHeld126)
  (try clear hHeld127)
  (try clear hHeld128)
  (try clear hHeld129)
  (try clear hHeld130)
  (try clear hHeld131)
  (try clear hHeld132)
  (try clear hHeld133)
  (try clear hHeld134)
  (try clear hHeld135)
  (try clear hHeld136)
  (try clear hHeld137)
  (try clear hHeld138)
  (try clear hHeld139)
  (try clear hHeld140)
  (try clear hHeld141)
  (try clear hHeld142)
  (try clear hHeld143)
  (try clear hHeld144)
  (try clear hHeld145)
  (try clear hHeld146)
  (try clear hHeld147)
  (try clear hHeld148)
  (try clear hHeld149)
  (try clear hHeld150)
  (try clear hHeld151)
  (try clear hHeld152)
  (try clear hHeld153)
  (try clear hHeld154)
  (try clear hHeld155)
  (try clear hHeld156)
  (try clear hHeld157)
  (try clear hHeld158)
  (try clear hHeld159)
  (try clear hHeld160)
  (try clear hHeld161)
  (try clear hHeld162)
  (try clear hHeld163)
  (try clear hHeld164)
  (try clear hHeld165)
  (try clear hHeld166)
  (try clear hHeld167)
  (try clear hHeld168)
  (try clear hHeld169)
  (try clear hHeld170)
  (try clear hHeld171)
  (try clear hHeld172)
  (try clear hHeld173)
  (try clear hHeld174)
  (try clear hHeld175)
  (try clear hHeld176)
  (try clear hHeld177)
  (try clear hHeld178)
  (try clear hHeld179)
  (try clear hHeld180)
  (try clear hHeld181)
  (try clear hHeld182)
  (try clear hHeld183)
  (try clear hHeld184)
  (try clear hHeld185)
  (try clear hHeld186)
  (try clear hHeld187)
  (try clear hHeld188)
  (try clear hHeld189)
  (try clear hHeld190)
  (try clear hHeld191)
  (try clear hHeld192)
  (try clear hHeld193)
  (try clear hHeld194)
  (try clear hHeld195)
  (try clear hHeld196)
  (try clear hHeld197)
  (try clear hHeld198)
  (try clear hHeld199)
  have HF := Lib.hid (HBK.out _ hp)
  clear hp HS
  go_wp2
  go_ret2
  exact ⟨rfl, HF.out⟩
 ·have hsg : decide (sgnQ q < 0) = false := by
   have h1 : ¬ q.num < 0 := fun hh => hneg ((num_ltW q).2 hh)
   apply decide_eq_false
   unfold sgnQ
   rcases Int.lt_trichotomy q.num 0 with h2 | h2 | h2
   ·exact absurd h2 h1
   ·rw [h2]; decide
   ·rw [cmpI_gt h2]; decide
  have hcm : decide (0 < cmpQ q qs) = true := by
   apply decide_eq_true
   rw [cmpQ_gt.2 (by rcases hx with hx | hx; exact absurd hx hneg; exact hx)]
   decide
  generalize sgnQ q = sq at *
  generalize cmpQ q qs = cq at *
  have SG := Lib.hid SG
  have CC := Lib.hid CC
  have SM := Lib.hid SM
  have FI := Lib.hid FI
  have CM := Lib.hid CM
  clear h hq hx hneg
  go_enter Tryz.func89, Tryz.ntmps89
  go_wp2_with fail
  have hB0 := Blk.new w 42 #[.bool an, .slice aA ak ac, .bool an', .slice aA' ak' ac']
  have hBW : Below w.heap.size w (w.alloc (.cells #[.bool an, .slice aA ak ac, .bool an', .slice aA' ak' ac'] 42)) := (Below.refl _ _).alloc (Nat.le_refl _) _
  generalize w.alloc (.cells #[.bool an, .slice aA ak ac, .bool an', .slice aA' ak' ac'] 42) = W at *
  refine (CC.out W hBW).mono ?_
  rintro e w1 ⟨rfl, hb1⟩
  have hB1 := hB0.below hb1 hB0.lt
  have hBW1 : Below w.heap.size w w1 := hBW.trans (hb1.mono hBW.size)
  have HBK := Lib.hid (show ∀ w', Kp w1 w' → Below w.heap.size w w' from fun w' hk => hBW1.trans (Below.mono hk hBW1.size))
  have HS := Lib.hid (show ∀ w', Kp w1 w' → (w'.cell? ⟨w.heap.size, 0, none⟩ = some (.bool an) ∧ w'.cell? ⟨w.heap.size, 1, none⟩ = some (.slice aA ak ac) ∧ w'.cell? ⟨w.heap.size, 2, none⟩ = some (.bool an') ∧ w'.cell? ⟨w.heap.size, 3, none⟩ = some (.slice aA' ak' ac')) ∧ Kp w1 w' from fun w' hk => ⟨⟨(hk.blk hB1).cell 0, (hk.blk hB1).cell 1, (hk.blk hB1).cell 2, (hk.blk hB1).cell 3⟩, hk⟩)
  clear hb1 hB0 hBW hB1 hBW1 CC
  go_wp2_with fail
  refine wp_region_held_drew (S := fun w' => (w'.cell? ⟨w.heap.size, 0, none⟩ = some (.bool an) ∧ w'.cell? ⟨w.heap.size, 1, none⟩ = some (.slice aA ak ac) ∧ w'.cell? ⟨w.heap.size, 2, none⟩ = some (.bool an') ∧ w'.cell? ⟨w.heap.size, 3, none⟩ = some (.slice aA' ak' ac')) ∧ Kp w1 w') (by kernel_rfl) (HS.out _ (Kp.drew (Kp.refl w1))) (fun hHeld => ?_)
  refine' tkk 0 rfl (by kernel_rfl) (fun _ _ _ h => h) (.inl ⟨by rfl, ?_⟩) (by assumption) ?_; rotate_left
  ·(intro w hSw; (try dsimp only at hSw); (try simp only [p1, p2, p3]); go_simp; first | done | with_reducible rfl)
  (try simp only [Act.put, p1, p2, p3, p4, p5, p6])
  refine wpAnyH_ready (rs := [1]) (by kernel_rfl) (by simp) ?_
  refine AllReadyH.cons rfl (fun K hK => ?_) AllReadyH.nil
  (try simp only [p1, p2, p3])
  go_simp
  have hk := And.right ‹_ ∧ Kp w1 _›
  refine (SG.out _ (HBK.out _ hk)).mono ?_
  rintro e v1 ⟨rfl, hbx⟩
  have hp : Kp w1 v1 := Kp.trans hk hbx
  clear hk hbx
  (try (go_wp2_with fail))
  refine hK.out _ _ ?k2 (fun hHeld2 => ?n2)
  case k2 => ((try dsimp only); first | (with_reducible refine HS.out _ ?_; with_reducible assumption) | (with_reducible refine HS.out _ (Kp.drew ?_); with_reducible assumption) | (with_reducible refine' HS.out _ (Kp.drew (And.right ?_)); rotate_left; with_reducible assumption))
  clear hK K
  (try simp only [Act.put, p1, p2, p3, p4, p5, p6])
  refine' tkk 2 rfl (by kernel_rfl) (fun _ _ _ h => h) (.inl ⟨by rfl, ?_⟩) (by assumption) ?_; rotate_left
  ·(intro w hSw; (try dsimp only at hSw); (try simp only [p1, p2, p3]); go_simp; first | done | with_reducible rfl)
  (try simp only [Act.put, p1, p2, p3, p4, p5, p6])
  refine' tkk 3 rfl (by kernel_rfl) (fun _ _ _ h => h) (.inl ⟨by rfl, ?_⟩) (by assumption) ?_; rotate_left
  ·(intro w hSw; (try dsimp only at hSw); (try simp only [p1, p2, p3]); go_simp; first | done | with_reducible rfl)
  (try simp only [Act.put, p1, p2, p3, p4, p5, p6])
  refine' tkk 4 rfl (by kernel_rfl) (fun _ _ _ h => h) (.inl ⟨by rfl, ?_⟩) (by assumption) ?_; rotate_left
  ·(intro w hSw; (try dsimp only at hSw); (try simp only [p1, p2, p3]); go_simp; first | done | with_reducible rfl)
  (try simp only [Act.put, p1, p2, p3, p4, p5, p6])
  refine' tkk 5 rfl (by kernel_rfl) (fun _ _ _ h => h) (.inl ⟨by rfl, ?_⟩) (by assumption) ?_; rotate_left
  ·(intro w hSw; (try dsimp only at hSw); (try simp only [p1, p2, p3]); go_simp; first | done | with_reducible rfl)
  (try simp only [Act.put, p1, p2, p3, p4, p5, p6])
  refine wpAnyH_ready (rs := [6]) (by kernel_rfl) (by simp) ?_
  refine AllReadyH.cons rfl (fun K hK => ?_) AllReadyH.nil
  (try simp only [p1, p2, p3])
  go_simp
  have hk := And.right ‹_ ∧ Kp w1 _›
  refine (SM.out _ (HBK.out _ hk)).mono ?_
  rintro e v2 ⟨rfl, hbx⟩
  have hp : Kp w1 v2 := Kp.trans hk hbx
  clear hk hbx
  (try (go_wp2_with fail))
  refine hK.out _ _ ?k3 (fun hHeld3 => ?n3)
  case k3 => ((try dsimp only); first | (with_reducible refine HS.out _ ?_; with_reducible assumption) | (with_reducible refine HS.out _ (Kp.drew ?_); with_reducible assumption) | (with_reducible refine' HS.out _ (Kp.drew (And.right ?_)); rotate_left; with_reducible assumption))
  clear hK K
  (try simp only [Act.put, p1, p2, p3, p4, p5, p6])
  refine wpAnyH_ready (rs := [7]) (by kernel_rfl) (by simp) ?_
  refine AllReadyH.cons rfl (fun K hK => ?_) AllReadyH.nil
  (try simp only [p1, p2, p3])
  go_simp
  have hk := And.right ‹_ ∧ Kp w1 _›
  refine (FI.out _).mono ?_
  rintro e v3 ⟨A3, k3, c3, A4, k4, c4, rfl, hk3, hk4, hW3, hW4, -, -, hbx⟩
  have hp : Kp w1 v3 := Kp.trans hk hbx
  have hrq := (show RQ v3 qs A3 k3 c3 A4 k4 c4 from ⟨hk3, hk4, hW3, hW4⟩)
  clear hk hbx hk3 hk4 hW3 hW4
  (try (go_wp2_with fail))
  refine hK.out _ _ ?k4 (fun hHeld4 => ?n4)
  case k4 => ((try dsimp only); first | (with_reducible refine HS.out _ ?_; with_reducible assumption) | (with_reducible refine HS.out _ (Kp.drew ?_); with_reducible assumption) | (with_reducible refine' HS.out _ (Kp.drew (And.right ?_)); rotate_left; with_reducible assumption))
  clear hK K
  (try simp only [Act.put, p1, p2, p3, p4, p5, p6])
  refine wpAnyH_ready (rs := [8]) (by kernel_rfl) (by simp) ?_
  refine AllReadyH.cons rfl (fun K hK => ?_) AllReadyH.nil
  (try simp only [p1, p2, p3])
  go_simp
  have hk := And.right ‹_ ∧ Kp w1 _›
  refine (CM.out _ (HBK.out _ hk) _ _ _ _ _ _ hrq).mono ?_
  rintro e v4 ⟨rfl, hbx⟩
  have hp : Kp w1 v4 := Kp.trans hk hbx
  clear hk hbx hrq
  (try (go_wp2_with fail))
  refine hK.out _ _ ?k5 (fun hHeld5 => ?n5)
  case k5 => ((try dsimp only); first | (with_reducible refine HS.out _ ?_; with_reducible assumption) | (with_reducible refine HS.out _ (Kp.drew ?_); with_reducible assumption) | (with_reducible refine' HS.out _ (Kp.drew (And.right ?_)); rotate_left; with_reducible assumption))
  clear hK K
  (try simp only [Act.put, p1, p2, p3, p4, p5, p6])
  refine' tkk 9 rfl (by kernel_rfl) (fun _ _ _ h => h) (.inl ⟨by rfl, ?_⟩) (by assumption) ?_; rotate_left
  ·(intro w hSw; (try dsimp only at hSw); (try simp only [p1, p2, p3]); go_simp; first | done | with_reducible rfl)
  (try simp only [Act.put, p1, p2, p3, p4, p5, p6])
  refine' tkk 10 rfl (by kernel_rfl) (fun _ _ _ h => h) (.inl ⟨by rfl, ?_⟩) (by assumption) ?_; rotate_left
  ·(intro w hSw; (try dsimp only at hSw); (try simp only [p1, p2, p3]); go_simp; first | done | with_reducible rfl)
  (try simp only [Act.put, p1, p2, p3, p4, p5, p6])
  refine wpAnyH_done (by kernel_rfl) ?_ _
  (try clear hHeld1)
  (try clear hHeld2)
  (try clear hHeld3)
  (try clear hHeld4)
  (try clear hHeld5)
  (try clear hHeld6)
  (try clear hHeld7)
  (try clear hHeld8)
  (try clear hHeld9)
  (try clear hHeld10)
  (try clear hHeld11)
  (try clear hHeld12)
  (try clear hHeld13)
  (try clear hHeld14)
  (try clear hHeld15)
  (try clear hHeld16)
  (try clear hHeld17)
  (try clear hHeld18)
  (try clear hHeld19)
  (try clear hHeld20)
  (try clear hHeld21)
  (try clear hHeld22)
  (try clear hHeld23)
  (try clear hHeld24)
  (try clear hHeld25)
  (try clear hHeld26)
  (try clear hHeld27)
  (try clear hHeld28)
  (try clear hHeld29)
  (try clear hHeld30)
  (try clear hHeld31)
  (try clear hHeld32)
  (try clear hHeld33)
  (try clear hHeld34)
  (try clear hHeld35)
  (try clear hHeld36)
  (try clear hHeld37)
  (try clear hHeld38)
  (try clear hHeld39)
  (try clear hHeld40)
  (try clear hHeld41)
  (try clear hHeld42)
  (try clear hHeld43)
  (try clear hHeld44)
  (try clear hHeld45)
  (try clear hHeld46)
  (try clear hHeld47)
  (try clear hHeld48)
  (try clear hHeld49)
  (try clear hHeld50)
  (try clear hHeld51)
  (try clear hHeld52)
  (try clear hHeld53)
  (try clear hHeld54)
  (try clear hHeld55)
  (try clear hHeld56)
  (try clear hHeld57)
  (try clear hHeld58)
  (try clear hHeld59)
  (try clear hHeld60)
  (try clear hHeld61)
  (try clear hHeld62)
  (try clear hHeld63)
  (try clear hHeld64)
  (try clear hHeld65)
  (try clear hHeld66)
  (try clear hHeld67)
  (try clear hHeld68)
  (try clear hHeld69)
  (try clear hHeld70)
  (try clear hHeld71)
  (try clear hHeld72)
  (try clear hHeld73)
  (try clear hHeld74)
  (try clear hHeld75)
  (try clear hHeld76)
  (try clear hHeld77)
  (try clear hHeld78)
  (try clear hHeld79)
  (try clear hHeld80)
  (try clear hHeld81)
  (try clear hHeld82)
  (try clear hHeld83)
  (try clear hHeld84)
  (try clear hHeld85)
  (try clear hHeld86)
  (try clear hHeld87)
  (try clear hHeld88)
  (try clear hHeld89)
  (try clear hHeld90)
  (try clear hHeld91)
  (try clear hHeld92)
  (try clear hHeld93)
  (try clear hHeld94)
  (try clear hHeld95)
  (try clear hHeld96)
  (try clear hHeld97)
  (try clear hHeld98)
  (try clear hHeld99)
  (try clear hHeld100)
  (try clear hHeld101)
  (try clear hHeld102)
  (try clear hHeld103)
  (try clear hHeld104)
  (try clear hHeld105)
  (try clear hHeld106)
  (try clear hHeld107)
  (try clear hHeld108)
  (try clear hHeld109)
  (try clear hHeld110)
  (try clear hHeld111)
  (try clear hHeld112)
  (try clear hHeld113)
  (try clear hHeld114)
  (try clear hHeld115)
  (try clear hHeld116)
  (try clear hHeld117)
  (try clear hHeld118)
  (try clear hHeld119)
  (try clear hHeld120)
  (try clear hHeld121)
  (try clear hHeld122)
  (try clear hHeld123)
  (try clear hHeld124)
  (try clear hHeld125)
  (try clear hHeld126)
  (try clear hHeld127)
  (try clear hHeld128)
  (try clear hHeld129)
  (try clear hHeld130)
  (try clear hHeld131)
  (try clear hHeld132)
  (try clear hHeld133)
  (try clear hHeld134)
  (try clear hHeld135)
  (try clear hHeld136)
  (try clear hHeld137)
  (try clear hHeld138)
  (try clear hHeld139)
  (try clear hHeld140)
  (try clear hHeld141)
  (try clear hHeld142)
  (try clear hHeld143)
  (try clear hHeld144)
  (try clear hHeld145)
  (try clear hHeld146)
  (try clear hHeld147)
  (try clear hHeld148)
  (try clear hHeld149)
  (try clear hHeld150)
  (try clear hHeld151)
  (try clear hHeld152)
  (try clear hHeld153)
  (try clear hHeld154)
  (try clear hHeld155)
  (try clear hHeld156)
  (try clear hHeld157)
  (try clear hHeld158)
  (try clear hHeld159)
  (try clear hHeld160)
  (try clear hHeld161)
  (try clear hHeld162)
  (try clear hHeld163)
  (try clear hHeld164)
  (try clear hHeld165)
  (try clear hHeld166)
  (try clear hHeld167)
  (try clear hHeld168)
  (try clear hHeld169)
  (try clear hHeld170)
  (try clear hHeld171)
  (try clear hHeld172)
  (try clear hHeld173)
  (try clear hHeld174)
  (try clear hHeld175)
  (try clear hHeld176)
  (try clear hHeld177)
  (try clear hHeld178)
  (try clear hHeld179)
  (try clear hHeld180)
  (try clear hHeld181)
  (try clear hHeld182)
  (try clear hHeld183)
  (try clear hHeld184)
  (try clear hHeld185)
  (try clear hHeld186)
  (try clear hHeld187)
  (try clear hHeld188)
  (try clear hHeld189)
  (try clear hHeld190)
  (try clear hHeld191)
  (try clear hHeld192)
  (try clear hHeld193)
  (try clear hHeld194)
  (try clear hHeld195)
  (try clear hHeld196)
  (try clear hHeld197)
  (try clear hHeld198)
  (try clear hHeld199)
  have HF := Lib.hid (HBK.out _ hp)
  clear hp HS
  go_wp2
  go_ret2
  exact ⟨rfl, HF.out⟩



/-- A zero rational and an error. -/
def ErrQ (w : World) (x : Int) (e : Ending) (w' : World) : Prop := e = .returned (.tuple #[.agg #[.bool false, .slice none 0 0, .bool false, .slice none 0 0], .int .i64 x]) ∧ Below w.heap.size w w'

set_option maxRecDepth 100000 in
set_option maxHeartbeats 4000000 in
theorem scost_no (A : Option Addr) (n c : Nat) (l : List (Int × Int)) (w : World) (h : StAt w A n l) (he : curveE l = 0) (an an' : Bool) (aA aA' : Option Addr) (ak ac ak' ac' : Nat) (q : Rat) (hq : QArg w an aA ak ac an' aA' ak' ac' q) (hx : q < 0 ∨ ((qsum l : Int) : Rat) < q) :
  Calls Tryz.prog 41 #[.slice A n c, .agg #[.bool an, .slice aA ak ac, .bool an', .slice aA' ak' ac']] w (ErrQ w 1) := by
 have TA := Lib.hid (fun W (hW : Below w.heap.size w W) => salloc_no A n c l W (h.below hW) he an an' aA aA' ak ac ak' ac' q (hq.below hW) hx)
 unfold ErrQ
 clear h hq hx he
 go_enter Tryz.func41, Tryz.ntmps41
 go_wp2_with fail
 obtain ⟨hB0, hB1, hBW, hsz⟩ := pre2 w 42 #[.bool an, .slice aA ak ac, .bool an', .slice aA' ak' ac'] 42 #[.bool false, .slice none 0 0, .bool false, .slice none 0 0]
 generalize (w.alloc (.cells #[.bool an, .slice aA ak ac, .bool an', .slice aA' ak' ac'] 42)).alloc (.cells #[.bool false, .slice none 0 0, .bool false, .slice none 0 0] 42) = W at *
 have HSZ := Lib.hid hsz
 clear hsz
 refine (TA.out W hBW).mono ?_
 rintro e w1 ⟨rfl, hb1⟩
 have hr := (RS4.start hB1).call hb1
 obtain ⟨_, _, _, _, c0, c1, c2, c3, f0, f1, f2, f3⟩ := hr.four
 obtain ⟨d0, d1, d2, d3, -, -, -, -⟩ := (hr.done (.bool false) (.slice none 0 0) (.bool false) (.slice none 0 0)).four
 have HF := Lib.hid (below_set4 (g := w.heap.size + 1) (hBW.trans (hb1.mono hBW.size)) (by omega) (.bool false) (.slice none 0 0) (.bool false) (.slice none 0 0))
 clear hr hb1 hB0 hB1 hBW TA
 go_wp2
 refine bodyPost_ret (v := .tuple #[.agg #[.bool false, .slice none 0 0, .bool false, .slice none 0 0], .int .i64 1]) ?_ rfl ⟨rfl, HF.out⟩
 simp [results, Tryz.results41, go_sem, d0, d1, d2, d3]


end Go.Proofs.YtjajigkacccdgaaGreat
namespace Go.Proofs.YtjajigkacccdgaaGreat
set_option linter.unusedVariables false
set_option linter.unusedSimpArgs false
open Go.RowKit
open Wd
/-- The value of a list of digits. -/
def vh : List Int → Nat
 | [] => 0
 | d :: l => d.toNat + 65536 * vh l
theorem vh_cons (d : Int) (l : List Int) : vh (d :: l) = d.toNat + 65536 * vh l := rfl
theorem Dg.nil : Dg [] := fun i => by simp
theorem Dg.head {d : Int} {l : List Int} (h : Dg (d :: l)) : 0 ≤ d ∧ d < 65536 := by have := h 0; simpa using this
theorem Dg.tail {d : Int} {l : List Int} (h : Dg (d :: l)) : Dg l := fun i => by have := h (i + 1); simpa using this
theorem Dg.cons {d : Int} {l : List Int} (h0 : 0 ≤ d) (h1 : d < 65536) (h : Dg l) : Dg (d :: l) := fun i => by
 match i with
 | 0 => simp; omega
 | i + 1 => have := h i; simpa using this

theorem vh_snoc (a : List Int) (d : Int) : vh (a ++ [d]) = vh a + 65536 ^ a.length * d.toNat := by
 induction a with
 | nil => simp [vh]
 | cons e a ih =>
  simp only [List.cons_append, vh_cons, ih, List.length_cons, Nat.pow_succ, Nat.mul_add]
  rw [show 65536 * (65536 ^ a.length * d.toNat) = 65536 ^ a.length * 65536 * d.toNat by
   rw [← Nat.mul_assoc, Nat.mul_comm 65536 (65536 ^ a.length)]]
  omega
theorem vh_lt {l : List Int} (h : Dg l) : vh l < 65536 ^ l.length := by
 induction l with
 | nil => simp [vh]
 | cons d l ih =>
  have h1 := ih h.tail
  have h2 := h.head
  simp only [vh_cons, List.length_cons, Nat.pow_succ]
  omega
/-- A digit by division. -/
theorem vh_get {l : List Int} (h : Dg l) (i : Nat) : l[i]?.getD 0 = ((vh l / 65536 ^ i % 65536 : Nat) : Int) := by
 induction l generalizing i with
 | nil => simp [vh]
 | cons d l ih =>
  have h2 := h.head
  match i with
  | 0 => simp [vh_cons]; omega
  | i + 1 =>
   rw [List.getElem?_cons_succ, ih h.tail i, vh_cons, Nat.pow_succ, Nat.mul_comm (65536 ^ i), ← Nat.div_div_eq_div_mul, show (d.toNat + 65536 * vh l) / 65536 = vh l by omega]
/-- The canonical digits. -/
def hd (n : Nat) : List Int := if h : n = 0 then [] else ((n % 65536 : Nat) : Int) :: hd (n / 65536)
 termination_by n
 decreasing_by exact Nat.div_lt_self (Nat.pos_of_ne_zero h) (by decide)
theorem hd_zero : hd 0 = [] := by rw [hd]; simp
theorem hd_pos {n : Nat} (h : n ≠ 0) : hd n = ((n % 65536 : Nat) : Int) :: hd (n / 65536) := by
 rw [hd]; simp [h]
theorem vh_hd (n : Nat) : vh (hd n) = n := by
 induction n using Nat.strongRecOn with
 | _ n ih =>
  rcases Nat.eq_zero_or_pos n with h0 | h0
  ·subst h0; rw [hd_zero]; rfl
  ·rw [hd_pos (by omega), vh_cons, ih _ (Nat.div_lt_self h0 (by decide)), Int.toNat_natCast]
   omega
theorem hd_Dg (n : Nat) : Dg (hd n) := by
 induction n using Nat.strongRecOn with
 | _ n ih =>
  rcases Nat.eq_zero_or_pos n with h0 | h0
  ·subst h0; rw [hd_zero]; exact Dg.nil
  ·rw [hd_pos (by omega)]
   exact Dg.cons (by omega) (by omega) (ih _ (Nat.div_lt_self h0 (by decide)))
theorem hd_len_le {n k : Nat} : (hd n).length ≤ k ↔ n < 65536 ^ k := by
 induction k generalizing n with
 | zero =>
  constructor
  ·intro h
   rcases Nat.eq_zero_or_pos n with h0 | h0
   ·omega
   ·rw [hd_pos (by omega)] at h; simp at h
  ·intro h
   have : n = 0 := by simpa using h
   subst this; rw [hd_zero]; simp
 | succ k ih =>
  rcases Nat.eq_zero_or_pos n with h0 | h0
  ·subst h0; rw [hd_zero]; simp [Nat.pow_pos]
  ·rw [hd_pos (by omega), List.length_cons, Nat.pow_succ]
   have := @ih (n / 65536)
   rw [Nat.add_le_add_iff_right, this, Nat.div_lt_iff_lt_mul (by decide)]
theorem hd_len_zero {n : Nat} : (hd n).length = 0 ↔ n = 0 := by
 have := @hd_len_le n 0
 simp only [Nat.pow_zero] at this
 omega










theorem mod_step (a i : Nat) : a % 65536 ^ (i + 1) = a % 65536 ^ i + 65536 ^ i * (a / 65536 ^ i % 65536) := by
 rw [Nat.pow_succ, Nat.mod_mul]

/-- The slice reads as some digits of v. -/
def RA (w : World) (A : Option Addr) (n c v : Nat) : Prop := ∃ hs, IsAt w A n hs ∧ Dg hs ∧ vh hs = v ∧ n ≤ c
/-- The slice reads as the canonical digits of v. -/
def HA (w : World) (A : Option Addr) (n c v : Nat) : Prop := n = (hd v).length ∧ IsAt w A n (hd v) ∧ n ≤ c
section
variable {w w' : World} {A : Option Addr} {n c v : Nat}
theorem HA.ra (h : HA w A n c v) : RA w A n c v := ⟨hd v, h.2.1, hd_Dg v, vh_hd v, h.2.2⟩
theorem RA.below (h : RA w A n c v) (hb : Below w.heap.size w w') : RA w' A n c v := by
 obtain ⟨hs, h1, h2⟩ := h
 exact ⟨hs, h1.below hb, h2⟩
theorem HA.below (h : HA w A n c v) (hb : Below w.heap.size w w') : HA w' A n c v := ⟨h.1, h.2.1.below hb, h.2.2⟩
theorem RA.lt (h : RA w A n c v) : v < 65536 ^ n := by
 obtain ⟨hs, h1, h2, h3, h4⟩ := h
 have := vh_lt h2
 rw [h1.1, h3] at this
 exact this

theorem HA.zero (h : HA w A n c v) : n = 0 ↔ v = 0 := by rw [h.1]; exact hd_len_zero
theorem RA.nil : RA w none 0 0 0 := ⟨[], ⟨rfl, fun h => absurd rfl h⟩, Dg.nil, rfl, Nat.le_refl _⟩
end

end Go.Proofs.YtjajigkacccdgaaGreat

namespace Go.Proofs.YtjajigkacccdgaaGreat
set_option linter.unusedVariables false
set_option linter.unusedSimpArgs false
open Go.RowKit
open Wd

/-- A digit of a number. -/
def dg (v i : Nat) : Nat := v / 65536 ^ i % 65536
theorem dg_lt (v i : Nat) : dg v i < 65536 := Nat.mod_lt _ (by decide)









end Go.Proofs.YtjajigkacccdgaaGreat