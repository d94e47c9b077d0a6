/-
The reference of layer 30: Pay. No statement of the seat is proved here; no conditions beyond those of each theorem.
-/
import Derived.Test.YtodkhjihkkmplaaGreatLRc3
import Derived.Test.YtodkhjihkkmplaaGreatLQA
import Derived.Test.YtodkhjihkkmplaaGreatLRt4
import Derived.Test.YtodkhjihkkmplaaGreatLSp
import Derived.Deep.CutRange
import Derived.Deep.DrawnRows
namespace Go.Proofs.YtodkhjihkkmplaaGreat
set_option linter.unusedVariables false
set_option linter.unusedSimpArgs false
open Go.RowKit
open Wd

/-- All below block g is as in V. -/
def Kg (g : Nat) (V w' : World) : Prop := g < V.heap.size ∧ Below g V w'
theorem Kg.trans {g : Nat} {V w w' : World} (h : Kg g V w) (hb : Below w.heap.size w w') : Kg g V w' := ⟨h.1, h.2.trans (hb.mono (Nat.le_trans (Nat.le_of_lt h.1) (Below.size h.2)))⟩
theorem Kg.drew {g : Nat} {V w : World} (h : Kg g V w) : Kg g V w.drew := ⟨h.1, h.2.drew⟩
theorem Kg.alloc {g : Nat} {V w : World} (h : Kg g V w) (o : Obj) : Kg g V (w.alloc o) := h.trans ((Kp.refl w).alloc o)
/-- The payments and their sum, of the reference's own. -/
def RPayP (n : Nat) (p : Rat) (qs : List Rat) (w : World) (e : Ending) (w' : World) : Prop :=
  ∃ Ah ch A k c A' k' c', e = .returned (.tuple #[.slice Ah n ch, .agg #[.bool (decide ((pyS p qs n).2.num < 0)), .slice A k c, .bool false, .slice A' k' c']]) ∧ QsAt w' Ah n (pyS p qs n).1 ∧ RQ w' (pyS p qs n).2 A k c A' k' c' ∧ Below w.heap.size w w'
theorem pyS_ls {p : Rat} {qs : List Rat} {n : Nat} (hp : Ls 3 p) (hl : ∀ j, j < n → Ls 7 (qs[j]?.getD 0)) : ∀ {i : Nat}, i ≤ n → Ls (3 + 12 * i) (pyS p qs i).2
  | 0, _ => ls_int (z := 0) (by omega) (by decide)
  | i + 1, h => ((pyS_ls hp hl (i := i) (by omega)).add (hp.mul (hl i (by omega)))).mono (by omega)
/-- The loop's memory before number i: the row so far, the sum in its box. -/
def PyI (g : Nat) (V : World) (ms : List Rat) (sm : Rat) (i : Nat) (Ah : Option Addr) (ch : Nat) (es : List QEnt) (wr : World) : Prop :=
  Below g V wr ∧ Own V.heap.size 31 4 wr Ah i ch (qCells es) ∧ QEnts Ah ms wr i es ∧ ∃ A k c A' k' c', Blk wr g 31 #[.bool (decide (sm.num < 0)), .slice A k c, .bool false, .slice A' k' c'] ∧ RQ wr sm A k c A' k' c' ∧ Off Ah A k ∧ Off Ah A' k'
theorem QEnts.put4 {B : Option Addr} {ps : List Rat} {w : World} {i g o : Nat} {es : List QEnt} {a b : Bool} {X X' : Option Addr} {j d j' d' : Nat} {t : TypeId} {cs : Array Value} (h : QEnts B ps w i es) (hb : Blk w g t cs) (hn : NoInt cs) : QEnts B ps (qst w g o a b X X' j d j' d') i es :=
  ⟨h.1, fun k hk => ⟨(h.2 k hk).1, (h.2 k hk).2.1.put4 hb hn, (h.2 k hk).2.2⟩⟩
theorem Own.put4 {base g o : Nat} {e : TypeId} {size n c : Nat} {w : World} {A : Option Addr} {xs : List Value} {a b : Bool} {X X' : Option Addr} {j d j' d' : Nat} (h : Own base e size w A n c xs) (hg : g < base) : Own base e size (qst w g o a b X X' j d j' d') A n c xs :=
  (((h.aside (p := ⟨g, o, none⟩) hg _).aside (p := ⟨g, o + 1, none⟩) hg _).aside (p := ⟨g, o + 2, none⟩) hg _).aside (p := ⟨g, o + 3, none⟩) hg _
theorem QEnts.take {B : Option Addr} {ps : List Rat} {w : World} {i : Nat} {es : List QEnt} (h : QEnts B ps w i es) : QEnts B (ps.take i) w i es :=
  ⟨h.1, fun j hj => by rw [List.getElem?_take_of_lt hj]; exact h.2 j hj⟩

set_option maxRecDepth 100000 in
set_option maxHeartbeats 8000000 in
theorem rpay_any (A : Option Addr) (n c : Nat) (qs : List Rat) (price : Int) (w : World) (hg : GsAt 0 w A n qs) (hn : n ≤ 30) (hpr : Fits price) :
    Calls Tryz.prog 17 #[.slice A n c, .int .i64 price] w (RPayP n (price : Rat) qs w) := by
  have HG := Lib.hid hg
  have TI := Lib.hid (fun W => rint_any price W hpr.1 hpr.2)
  have TZ := Lib.hid (fun W => rint_any 0 W (by omega) (by omega))
  have HLP := Lib.hid (ls_int (s := 3) (by omega) (z := price) (by obtain ⟨h1, h2⟩ := hpr; omega))
  have HPM := Lib.hid hn
  have hlq : ∀ j, j < n → Ls 7 (qs[j]?.getD 0) := fun j hj => by
    obtain ⟨_, _, _, _, hc⟩ := hg.2 (by omega)
    obtain ⟨_, _, _, _, _, _, _, _, _, _, _, _, hq⟩ := hc j hj
    exact hq.lv
  have HLS := Lib.hid (fun i (hi : i ≤ n) => pyS_ls (p := (price : Rat)) HLP.out hlq hi)
  have HLQ := Lib.hid hlq
  have hms : (pyS (price : Rat) qs n).1.length = n := by rw [pyS_len]; exact hg.1
  have HMS := Lib.hid hms
  have HMI := Lib.hid (fun j (hj : j < n) => pyS_get (price : Rat) qs n j hj (by rw [hg.1]; exact Nat.le_refl _))
  obtain ⟨ms, hmsE⟩ : ∃ ms, ms = (pyS (price : Rat) qs n).1 := ⟨_, rfl⟩
  rw [← hmsE] at HMS HMI
  have HME := Lib.hid hmsE
  clear hg hpr hn hlq hms hmsE
  generalize hpq : ((price : Int) : Rat) = pq at *
  have HPQ := Lib.hid hpq
  clear hpq
  unfold RPayP
  go_enter Tryz.func17, Tryz.ntmps17
  go_wp2_with fail
  refine (TZ.out _).mono ?_
  rintro e w1 ⟨F3, f3, g3, G3, i3, j3, rfl, hz1, hz2, hz3, hz4, hz5, hz6, hb1⟩
  have H1 := Lib.hid (And.intro (show RQ w1 ((0 : Int) : Rat) F3 f3 g3 G3 i3 j3 from ⟨hz1, hz2, hz3, hz4⟩) hb1)
  have HB0 := Lib.hid (Blk.new w 31 #[.bool false, .slice none 0 0, .bool false, .slice none 0 0])
  clear hz1 hz2 hz3 hz4 hz5 hz6 hb1 TZ
  go_wp2_with fail
  have hB7 := Blk.new w1 31 #[.bool false, .slice F3 f3 g3, .bool false, .slice G3 i3 j3]
  have hxV := (Kp.refl w1).alloc (.cells #[.bool false, .slice F3 f3 g3, .bool false, .slice G3 i3 j3] 31)
  have hw1 : Below w.heap.size w w1 := below_of_alloc H1.out.2
  have hlt1 : w.heap.size < w1.heap.size := Nat.lt_of_lt_of_le HB0.out.lt (Below.size H1.out.2)
  have HV := Lib.hid (And.intro (hw1.trans (Below.mono hxV (Below.size hw1))) (And.intro (Kp.blk hxV (Kp.blk H1.out.2 HB0.out)) (And.intro hlt1 (And.intro hB7 (H1.out.1.below hxV)))))
  clear hB7 hw1 hlt1 H1 HB0
  generalize w1.alloc (.cells #[.bool false, .slice F3 f3 g3, .bool false, .slice G3 i3 j3] 31) = V at *
  generalize w1.heap.size = g at *
  have HGV := Lib.hid HV.out.2.2.2.1.lt
  clear hxV w1
  obtain ⟨ii, hii, hz0, hz1, hz2⟩ := info_parts info_q
  have HI := Lib.hid hii
  have HZ0 := Lib.hid hz0
  have HZ1 := Lib.hid hz1
  have HZ2 := Lib.hid hz2
  clear hii hz0 hz1 hz2
  go_loopw [6, 8] (fun th t wr => ∃ (i : Nat) (Ah : Option Addr) (ch : Nat) (es : List QEnt), i ≤ n ∧ th = .slice Ah i ch ∧ t = .int .i64 (i : Int) ∧ Hid (PyI g V ms (pyS pq qs i).2 i Ah ch es wr)) (fun _ t _ => n - (intOf t).toNat)
  case atStart => exact ⟨0, none, 0, [], Nat.zero_le _, rfl, rfl, Lib.hid ⟨Below.refl _ _, Own.nil _ _ _ _, QEnts.start, F3, f3, g3, G3, i3, j3, HV.out.2.2.2.1, HV.out.2.2.2.2, by
    have h := HV.out.2.2.2.2.2.2.1.1
    rw [show ((0 : Int) : Rat).num.natAbs = 0 from rfl, digs_zero] at h
    exact fun h0 => absurd h.symm h0, by
    have h := HV.out.2.2.2.2.2.2.2.1
    rw [show denW ((0 : Int) : Rat).den = [] from rfl] at h
    exact fun h0 => absurd h.symm h0⟩⟩
  case round =>
    obtain ⟨i, Ah, ch, es, hi, rfl, rfl, HR0⟩ := hrel
    by_cases hlt : i < n
    · obtain ⟨r1, r2, r3, A5, k5, c5, A6, k6, c6, r4, r5, r6, r7⟩ := HR0.out
      have HR := Lib.hid (And.intro r1 (And.intro r2 r3))
      have HBX := Lib.hid (And.intro r4 (And.intro r5 (And.intro r6 r7)))
      have hwr := HV.out.1.trans (r1.mono (Nat.le_of_lt HV.out.2.2.1))
      have HSV := Lib.hid (Below.size r1)
      obtain ⟨b2, o2, rfl, hb2, hcell2⟩ := HG.out.2 (by omega)
      obtain ⟨an, aA, ak, ac, an', aA', ak', ac', z1, z2, z3, z4, hq⟩ := hcell2 i hlt
      have z1 := (Below.cell HV.out.1 (p := ⟨b2, o2 + i * 4, none⟩) hb2).trans z1
      have z2 := (Below.cell HV.out.1 (p := ⟨b2, o2 + i * 4 + 1, none⟩) hb2).trans z2
      have z3 := (Below.cell HV.out.1 (p := ⟨b2, o2 + i * 4 + 2, none⟩) hb2).trans z3
      have z4 := (Below.cell HV.out.1 (p := ⟨b2, o2 + i * 4 + 3, none⟩) hb2).trans z4
      have hq : QS (7 * 3 ^ 0) w an aA ak ac an' aA' ak' ac' (qs[i]?.getD 0) := hq
      rw [show 7 * 3 ^ 0 = 7 from rfl] at hq
      have hbr2 : b2 < g := Nat.lt_trans hb2 HV.out.2.2.1
      have hkg : Kg g V wr := ⟨HGV.out, r1⟩
      have hmi := HMI.out i hlt
      have hyl : Ls (3 + 7 + 1) (pq * (qs[i]?.getD 0)) := HLP.out.mul (HLQ.out i hlt)
      have hsl := HLS.out i hi
      have hst : (pyS pq qs (i + 1)).2 = (pyS pq qs i).2 + pq * (qs[i]?.getD 0) := rfl
      rw [Rat.mul_comm] at hmi hyl hst
      generalize (pyS pq qs i).2 = sm at *
      generalize qs[i]?.getD 0 = q at *
      have TM := Lib.hid (fun (W : World) (hW : Kg g V W) (R R' : Option Addr) (k d k' d' : Nat) (h : RQ W pq R k d R' k' d') => rmulq_s (s := 7) (by omega) an an' (decide (pq.num < 0)) false aA aA' R R' ak ac ak' ac' k d k' d' q pq W (hq.below (HV.out.1.trans (hW.2.mono (Nat.le_of_lt HV.out.2.2.1)))) (h.qs (HLP.out.mono (by omega)) (by omega)))
      generalize q * pq = yq at *
      have HYQ := Lib.hid hmi
      have HYL := Lib.hid hyl
      have HSL := Lib.hid hsl
      have HSTEP := Lib.hid hst
      have HS := Lib.hid (show ∀ w', Kg g V w' → (w'.cell? ⟨b2, o2 + i * 4, none⟩ = some (.bool an) ∧ w'.cell? ⟨b2, o2 + i * 4 + 1, none⟩ = some (.slice aA ak ac) ∧ w'.cell? ⟨b2, o2 + i * 4 + 2, none⟩ = some (.bool an') ∧ w'.cell? ⟨b2, o2 + i * 4 + 3, none⟩ = some (.slice aA' ak' ac')) ∧ Kg g V w' from fun w' hk => ⟨⟨(Below.cell hk.2 (p := ⟨b2, _, none⟩) hbr2).trans z1, (Below.cell hk.2 (p := ⟨b2, _, none⟩) hbr2).trans z2, (Below.cell hk.2 (p := ⟨b2, _, none⟩) hbr2).trans z3, (Below.cell hk.2 (p := ⟨b2, _, none⟩) hbr2).trans z4⟩, hk⟩)
      have hki1 : (0 : Int) ≤ (i : Int) := by omega
      have hki2 : (i : Int) < (n : Int) := by omega
      have i1 : IntKind.i64.wrap ((i : Int) + 1) = ((i + 1 : Nat) : Int) := IntWalk.i64_in _ (by have := HPM.out; omega)
      clear HR0 r1 r2 r3 r4 r5 r6 r7 hwr hb2 hcell2 z1 z2 z3 z4 hq hbr2 hmi hyl hsl hst
      go_wp2_with fail
      refine wp_region_held_drew (S := fun w' => (w'.cell? ⟨b2, o2 + i * 4, none⟩ = some (.bool an) ∧ w'.cell? ⟨b2, o2 + i * 4 + 1, none⟩ = some (.slice aA ak ac) ∧ w'.cell? ⟨b2, o2 + i * 4 + 2, none⟩ = some (.bool an') ∧ w'.cell? ⟨b2, o2 + i * 4 + 3, none⟩ = some (.slice aA' ak' ac')) ∧ Kg g V w') (by kernel_rfl) (HS.out _ (Kg.drew hkg)) (fun hHeld => ?_)
      refine wpAnyH_take (i := 0) (v := ?v8) rfl (by kernel_rfl) (by kernel_rfl) (by kernel_rfl) (fun _ _ _ h => h) (Or.inl ⟨by rfl, ?y8⟩) (by assumption) ?r8
      case y8 => (intro w hSw; (try dsimp only at hSw); (try simp only [List.getElem_toArray, List.getElem_cons_zero, List.getElem_cons_succ]); go_simp; first | done | with_reducible rfl)
      (try simp only [Act.put, List.getElem_toArray, List.getElem_cons_zero, List.getElem_cons_succ, List.setIfInBounds_toArray, List.set_cons_zero, List.set_cons_succ])
      refine wpAnyH_take (i := 1) (v := ?v9) rfl (by kernel_rfl) (by kernel_rfl) (by kernel_rfl) (fun _ _ _ h => h) (Or.inl ⟨by rfl, ?y9⟩) (by assumption) ?r9
      case y9 => (intro w hSw; (try dsimp only at hSw); (try simp only [List.getElem_toArray, List.getElem_cons_zero, List.getElem_cons_succ]); go_simp; first | done | with_reducible rfl)
      (try simp only [Act.put, List.getElem_toArray, List.getElem_cons_zero, List.getElem_cons_succ, List.setIfInBounds_toArray, List.set_cons_zero, List.set_cons_succ])
      refine wpAnyH_take (i := 2) (v := ?v10) rfl (by kernel_rfl) (by kernel_rfl) (by kernel_rfl) (fun _ _ _ h => h) (Or.inl ⟨by rfl, ?y10⟩) (by assumption) ?r10
      case y10 => (intro w hSw; (try dsimp only at hSw); (try simp only [List.getElem_toArray, List.getElem_cons_zero, List.getElem_cons_succ]); go_simp; first | done | with_reducible rfl)
      (try simp only [Act.put, List.getElem_toArray, List.getElem_cons_zero, List.getElem_cons_succ, List.setIfInBounds_toArray, List.set_cons_zero, List.set_cons_succ])
      refine wpAnyH_take (i := 3) (v := ?v11) rfl (by kernel_rfl) (by kernel_rfl) (by kernel_rfl) (fun _ _ _ h => h) (Or.inl ⟨by rfl, ?y11⟩) (by assumption) ?r11
      case y11 => (intro w hSw; (try dsimp only at hSw); (try simp only [List.getElem_toArray, List.getElem_cons_zero, List.getElem_cons_succ]); go_simp; first | done | with_reducible rfl)
      (try simp only [Act.put, List.getElem_toArray, List.getElem_cons_zero, List.getElem_cons_succ, List.setIfInBounds_toArray, List.set_cons_zero, List.set_cons_succ])
      refine wpAnyH_take (i := 4) (v := ?v12) rfl (by kernel_rfl) (by kernel_rfl) (by kernel_rfl) (fun _ _ _ h => h) (Or.inl ⟨by rfl, ?y12⟩) (by assumption) ?r12
      case y12 => (intro w hSw; (try dsimp only at hSw); (try simp only [List.getElem_toArray, List.getElem_cons_zero, List.getElem_cons_succ]); go_simp; first | done | with_reducible rfl)
      (try simp only [Act.put, List.getElem_toArray, List.getElem_cons_zero, List.getElem_cons_succ, List.setIfInBounds_toArray, List.set_cons_zero, List.set_cons_succ])
      refine wpAnyH_take (i := 5) (v := ?v13) rfl (by kernel_rfl) (by kernel_rfl) (by kernel_rfl) (fun _ _ _ h => h) (Or.inl ⟨by rfl, ?y13⟩) (by assumption) ?r13
      case y13 => (intro w hSw; (try dsimp only at hSw); (try simp only [List.getElem_toArray, List.getElem_cons_zero, List.getElem_cons_succ]); go_simp; first | done | with_reducible rfl)
      (try simp only [Act.put, List.getElem_toArray, List.getElem_cons_zero, List.getElem_cons_succ, List.setIfInBounds_toArray, List.set_cons_zero, List.set_cons_succ])
      refine wpAnyH_ready (rs := [6]) (by kernel_rfl) (by simp) ?_
      refine AllReadyH.cons rfl (fun K hK => ?_) ?_
      · (try simp only [List.getElem_toArray, List.getElem_cons_zero, List.getElem_cons_succ])
        go_simp
        have hk := And.right ‹_ ∧ Kg g V _›
        refine (TI.out _).mono ?_
        rintro e v1 ⟨P1, p1, p2, P2, p3, p4, rfl, hk9, hj9, hW9, hX9, hF9, hG9, hbx⟩
        have hp := Kg.trans hk hbx
        have r1 : RQ v1 (pq) P1 p1 p2 P2 p3 p4 := ⟨hk9, hj9, hW9, hX9⟩
        have K1 : Kp wr v1 := Kp.trans (Kp.drew (Kp.refl wr)) hbx
        clear hk hbx hk9 hj9 hW9 hX9 hF9 hG9
        (try (go_wp2_with fail))
        refine hK.out _ _ ?k15 (fun hHeld15 => ?n15)
        case k15 => ((try dsimp only); first | (with_reducible refine HS.out _ ?_; with_reducible assumption) | (with_reducible refine HS.out _ (Kg.drew ?_); with_reducible assumption) | (with_reducible refine' HS.out _ (Kg.drew (And.right ?_)); rotate_left; with_reducible assumption) | (with_reducible refine' HS.out _ (Kg.alloc (And.right ?_) _); rotate_left; with_reducible assumption))
        clear hK K
        (try simp only [Act.put, List.getElem_toArray, List.getElem_cons_zero, List.getElem_cons_succ, List.setIfInBounds_toArray, List.set_cons_zero, List.set_cons_succ])
        refine wpAnyH_ready (rs := [7]) (by kernel_rfl) (by simp) ?_
        refine AllReadyH.cons rfl (fun K hK => ?_) ?_
        · (try simp only [List.getElem_toArray, List.getElem_cons_zero, List.getElem_cons_succ])
          go_simp
          have hk := And.right ‹_ ∧ Kg g V _›
          refine (TM.out _ hk _ _ _ _ _ _ r1).mono ?_
          rintro e v2 ⟨A1, k1, c1, A2, k2, c2, rfl, hk9, hj9, hW9, hX9, hF9, hG9, hbx⟩
          have hp := Kg.trans hk hbx
          have r2 : RQ v2 (yq) A1 k1 c1 A2 k2 c2 := ⟨hk9, hj9, hW9, hX9⟩
          have HW := Lib.hid (And.intro r2 (And.intro hF9 hG9))
          have HSZ2 := Lib.hid (Below.size K1)
          have HB2 := Lib.hid (Kp.trans K1 hbx)
          clear r1 K1
          clear hk hbx hk9 hj9 hW9 hX9 hF9 hG9
          (try (go_wp2_with fail))
          refine hK.out _ _ ?k17 (fun hHeld17 => ?n17)
          case k17 => ((try dsimp only); first | (with_reducible refine HS.out _ ?_; with_reducible assumption) | (with_reducible refine HS.out _ (Kg.drew ?_); with_reducible assumption) | (with_reducible refine' HS.out _ (Kg.drew (And.right ?_)); rotate_left; with_reducible assumption) | (with_reducible refine' HS.out _ (Kg.alloc (And.right ?_) _); rotate_left; with_reducible assumption))
          clear hK K
          (try simp only [Act.put, List.getElem_toArray, List.getElem_cons_zero, List.getElem_cons_succ, List.setIfInBounds_toArray, List.set_cons_zero, List.set_cons_succ])
          refine wpAnyH_ready (rs := [8]) (by kernel_rfl) (by simp) ?_
          refine AllReadyH.cons rfl (fun K hK => ?_) ?_
          · (try simp only [List.getElem_toArray, List.getElem_cons_zero, List.getElem_cons_succ])
            go_simp
            refine hK.out _ _ ?k19 (fun hHeld19 => ?n19)
            case k19 => ((try dsimp only); first | (with_reducible refine HS.out _ ?_; with_reducible assumption) | (with_reducible refine HS.out _ (Kg.drew ?_); with_reducible assumption) | (with_reducible refine' HS.out _ (Kg.drew (And.right ?_)); rotate_left; with_reducible assumption) | (with_reducible refine' HS.out _ (Kg.alloc (And.right ?_) _); rotate_left; with_reducible assumption))
            clear hK K
            (try simp only [Act.put, List.getElem_toArray, List.getElem_cons_zero, List.getElem_cons_succ, List.setIfInBounds_toArray, List.set_cons_zero, List.set_cons_succ])
            refine wpAnyH_ready (rs := [9]) (by kernel_rfl) (by simp) ?_
            refine AllReadyH.cons rfl (fun K hK => ?_) ?_
            · have hk := And.right ‹_ ∧ Kg g V _›
              have hO1 := (HR.out.2.1.keep HB2.out).keep ((Kp.refl v2).alloc (.cells #[.bool (decide (yq.num < 0)), .slice A1 k1 c1, .bool false, .slice A2 k2 c2] 31))
              have m1 := Blk.new v2 31 #[.bool (decide (yq.num < 0)), .slice A1 k1 c1, .bool false, .slice A2 k2 c2]
              have s1 : Kp wr (v2.alloc (.cells #[.bool (decide (yq.num < 0)), .slice A1 k1 c1, .bool false, .slice A2 k2 c2] 31)) := Kp.alloc HB2.out _
              refine step_append_at (by rfl) (base := V.heap.size) (e := 31) (size := 4) (bytes := 64) (.tmp 16) (.tmp 24) 24 rfl Tryz.underlying24 HI.out HZ0.out HZ1.out HZ2.out rfl (by decide) (xs := qCells es) (news := [.bool (decide (yq.num < 0)), .slice A1 k1 c1, .bool false, .slice A2 k2 c2]) rfl (by exact hO1) rfl (by exact Blk.src m1 rfl (qCells_one [(decide (yq.num < 0), (A1, k1, c1), (A2, k2, c2))])) (by simp only [maxLen]; have := HPM.out; omega) (by have := HPM.out; omega) (by exact Nat.le_trans HSV.out (Below.size s1)) ?_
              intro B2 cb2 w2' hO2 hb2 hk2 hs2
              have HP := Lib.hid (And.intro hO2 (And.intro hb2 (And.intro hk2 (And.intro hs2 s1))))
              have hp : Kg g V w2' := ⟨hk.1, hk.2.trans (hb2.mono (Nat.le_of_lt hk.1))⟩
              clear hO2 hb2 hk2 hs2 hO1 m1 s1 hk
              refine hK.out _ _ ?k21 (fun hHeld21 => ?n21)
              case k21 => ((try dsimp only); first | (with_reducible refine HS.out _ ?_; with_reducible assumption) | (with_reducible refine HS.out _ (Kg.drew ?_); with_reducible assumption) | (with_reducible refine' HS.out _ (Kg.drew (And.right ?_)); rotate_left; with_reducible assumption) | (with_reducible refine' HS.out _ (Kg.alloc (And.right ?_) _); rotate_left; with_reducible assumption))
              clear hK K
              (try simp only [Act.put, List.getElem_toArray, List.getElem_cons_zero, List.getElem_cons_succ, List.setIfInBounds_toArray, List.set_cons_zero, List.set_cons_succ])
              refine wpAnyH_take (i := 10) (v := ?v22) rfl (by kernel_rfl) (by kernel_rfl) (by kernel_rfl) (fun _ _ _ h => h) (Or.inl ⟨by rfl, ?y22⟩) (by assumption) ?r22
              case y22 => (intro w hSw; (try dsimp only at hSw); (try simp only [List.getElem_toArray, List.getElem_cons_zero, List.getElem_cons_succ]); go_simp; first | done | with_reducible rfl)
              (try simp only [Act.put, List.getElem_toArray, List.getElem_cons_zero, List.getElem_cons_succ, List.setIfInBounds_toArray, List.set_cons_zero, List.set_cons_succ])
              refine wpAnyH_done (by kernel_rfl) ?_ _
              have hrow : Own V.heap.size 31 4 w2' B2 (i + 1) cb2 (qCells (es ++ [(decide (yq.num < 0), (A1, k1, c1), (A2, k2, c2))])) := by
                rw [qCells_append]
                exact HP.out.1
              have hpy : PyI g V ms sm (i + 1) B2 cb2 (es ++ [(decide (yq.num < 0), (A1, k1, c1), (A2, k2, c2))]) w2' := by
                obtain ⟨hO2, hb2, hk2, hs2, s1⟩ := HP.out
                have ka := (Kp.refl v2).alloc (.cells #[.bool (decide (yq.num < 0)), .slice A1 k1 c1, .bool false, .slice A2 k2 c2] 31)
                have hlt2 := HR.out.2.1.blk_lt
                have he1 := (HR.out.2.2.below HB2.out).snoc (by rw [HYQ.out]) (by rw [HYQ.out]; exact HW.out.1) (Off.fresh HW.out.2.1 (fun b hb => Nat.lt_of_lt_of_le (hlt2 b hb) HSZ2.out)) (Off.fresh HW.out.2.2 (fun b hb => Nat.lt_of_lt_of_le (hlt2 b hb) HSZ2.out))
                obtain ⟨x1, x2, x3, x4⟩ := HBX.out
                have y2 := (x2.below HB2.out).below ka
                refine ⟨(HR.out.1.trans (Below.mono s1 (Nat.le_trans (Nat.le_of_lt HGV.out) HSV.out))).trans (hb2.mono (Nat.le_of_lt HGV.out)), hrow, (he1.below ka).app hk2 hs2, A5, k5, c5, A6, k6, c6, (Kp.blk s1 x1).below hb2 HGV.out, ⟨y2.1, y2.2.1, y2.2.2.1.kept x3 hk2, y2.2.2.2.kept x4 hk2⟩, Off.same y2.2.2.1 x3 hs2, Off.same y2.2.2.2 x4 hs2⟩
              have hqs := hrow.qs (ps := ms.take (i + 1)) (by rw [List.length_take, HMS.out]; omega) hpy.2.2.1.take
              obtain ⟨b7, o7, rfl, hb7, hc7⟩ := hqs.2 (by omega)
              obtain ⟨X1, x5, x6, X2, x7, x8, x0, x1, x2, x3, hrq7⟩ := hc7 i (by omega)
              have hyi : (ms.take (i + 1))[i]?.getD 0 = yq := by rw [List.getElem?_take_of_lt (by omega), HYQ.out]
              rw [hyi] at x0 hrq7
              obtain ⟨B5, _, _, B6, _, _, hbx5, hrq5, -, -⟩ := hpy.2.2.2
              have HPY := Lib.hid (show Below g V w2' ∧ Own V.heap.size 31 4 w2' (some ⟨b7, o7, none⟩) (i + 1) cb2 (qCells (es ++ [(decide (yq.num < 0), (A1, k1, c1), (A2, k2, c2))])) ∧ QEnts (some ⟨b7, o7, none⟩) ms w2' (i + 1) (es ++ [(decide (yq.num < 0), (A1, k1, c1), (A2, k2, c2))]) ∧ Blk w2' g 31 #[.bool (decide (sm.num < 0)), .slice A5 k5 c5, .bool false, .slice A6 k6 c6] ∧ RQ w2' sm A5 k5 c5 A6 k6 c6 from by
                obtain ⟨hO2, hb2, hk2, hs2, s1⟩ := HP.out
                obtain ⟨x1, x2, x3, x4⟩ := HBX.out
                have y2 := (x2.below HB2.out).below ((Kp.refl v2).alloc (.cells #[.bool (decide (yq.num < 0)), .slice A1 k1 c1, .bool false, .slice A2 k2 c2] 31))
                exact ⟨hpy.1, hpy.2.1, hpy.2.2.1, (Kp.blk s1 x1).below hb2 HGV.out, ⟨y2.1, y2.2.1, y2.2.2.1.kept x3 hk2, y2.2.2.2.kept x4 hk2⟩⟩)
              clear hpy hrow hqs hc7 hbx5 hrq5 HP hyi hp
              have TA := Lib.hid (fun (W : World) (hW : Kp w2' W) => raddq_s (s := 11 + 12 * i) (by have := HPM.out; omega) (decide (sm.num < 0)) false (decide (yq.num < 0)) false A5 A6 X1 X2 k5 c5 k6 c6 x5 x6 x7 x8 sm yq W ((HPY.out.2.2.2.2.below hW).qs (HSL.out.mono (by omega)) (by have := HPM.out; omega)) ((hrq7.below hW).qs (HYL.out.mono (by omega)) (by have := HPM.out; omega)))
              generalize sm + yq = sm' at *
              obtain ⟨u0, u1, u2, u3, -, -, -, -⟩ := HPY.out.2.2.2.1.four
              have ult := HPY.out.2.2.2.1.lt
              have HS7 := Lib.hid (show ∀ w', Kp w2' w' → (w'.cell? ⟨g, 0, none⟩ = some (.bool (decide (sm.num < 0))) ∧ w'.cell? ⟨g, 1, none⟩ = some (.slice A5 k5 c5) ∧ w'.cell? ⟨g, 2, none⟩ = some (.bool false) ∧ w'.cell? ⟨g, 3, none⟩ = some (.slice A6 k6 c6) ∧ w'.cell? ⟨b7, o7 + i * 4, none⟩ = some (.bool (decide (yq.num < 0))) ∧ w'.cell? ⟨b7, o7 + i * 4 + 1, none⟩ = some (.slice X1 x5 x6) ∧ w'.cell? ⟨b7, o7 + i * 4 + 2, none⟩ = some (.bool false) ∧ w'.cell? ⟨b7, o7 + i * 4 + 3, none⟩ = some (.slice X2 x7 x8)) ∧ Kp w2' w' from fun w' hk => ⟨⟨(Below.cell hk (p := ⟨g, _, none⟩) ult).trans u0, (Below.cell hk (p := ⟨g, _, none⟩) ult).trans u1, (Below.cell hk (p := ⟨g, _, none⟩) ult).trans u2, (Below.cell hk (p := ⟨g, _, none⟩) ult).trans u3, (Below.cell hk (p := ⟨b7, _, none⟩) hb7).trans x0, (Below.cell hk (p := ⟨b7, _, none⟩) hb7).trans x1, (Below.cell hk (p := ⟨b7, _, none⟩) hb7).trans x2, (Below.cell hk (p := ⟨b7, _, none⟩) hb7).trans x3⟩, hk⟩)
              have hki3 : (i : Int) < (i : Int) + 1 := by omega
              clear hrq7 x0 x1 x2 x3 hb7 u0 u1 u2 u3 ult HS TM TI
              go_upto_region 7 with fail
              refine wp_region_front 6 1 _ (fun w' => (w'.cell? ⟨g, 0, none⟩ = some (.bool (decide (sm.num < 0))) ∧ w'.cell? ⟨g, 1, none⟩ = some (.slice A5 k5 c5) ∧ w'.cell? ⟨g, 2, none⟩ = some (.bool false) ∧ w'.cell? ⟨g, 3, none⟩ = some (.slice A6 k6 c6) ∧ w'.cell? ⟨b7, o7 + i * 4, none⟩ = some (.bool (decide (yq.num < 0))) ∧ w'.cell? ⟨b7, o7 + i * 4 + 1, none⟩ = some (.slice X1 x5 x6) ∧ w'.cell? ⟨b7, o7 + i * 4 + 2, none⟩ = some (.bool false) ∧ w'.cell? ⟨b7, o7 + i * 4 + 3, none⟩ = some (.slice X2 x7 x8)) ∧ Kp w2' w') (by kernel_rfl) (by kernel_rfl) rfl (HS7.out _ (Kp.drew (Kp.refl w2'))) (fun hHeld => ?_)
              simp only [List.toList_toArray, List.take_succ_cons, List.take_zero]
              refine wpAnyH_take (i := 0) (v := ?v1) rfl (by kernel_rfl) (by kernel_rfl) (by kernel_rfl) (fun _ _ _ h => h) (Or.inl ⟨by rfl, ?y1⟩) (by assumption) ?r1
              case y1 => (intro w hSw; (try dsimp only at hSw); (try simp only [List.getElem_toArray, List.getElem_cons_zero, List.getElem_cons_succ]); go_simp; first | done | with_reducible rfl)
              (try simp only [Act.put, List.getElem_toArray, List.getElem_cons_zero, List.getElem_cons_succ, List.setIfInBounds_toArray, List.set_cons_zero, List.set_cons_succ])
              refine wpAnyH_take (i := 1) (v := ?v2) rfl (by kernel_rfl) (by kernel_rfl) (by kernel_rfl) (fun _ _ _ h => h) (Or.inl ⟨by rfl, ?y2⟩) (by assumption) ?r2
              case y2 => (intro w hSw; (try dsimp only at hSw); (try simp only [List.getElem_toArray, List.getElem_cons_zero, List.getElem_cons_succ]); go_simp; first | done | with_reducible rfl)
              (try simp only [Act.put, List.getElem_toArray, List.getElem_cons_zero, List.getElem_cons_succ, List.setIfInBounds_toArray, List.set_cons_zero, List.set_cons_succ])
              refine wpAnyH_take (i := 2) (v := ?v3) rfl (by kernel_rfl) (by kernel_rfl) (by kernel_rfl) (fun _ _ _ h => h) (Or.inl ⟨by rfl, ?y3⟩) (by assumption) ?r3
              case y3 => (intro w hSw; (try dsimp only at hSw); (try simp only [List.getElem_toArray, List.getElem_cons_zero, List.getElem_cons_succ]); go_simp; first | done | with_reducible rfl)
              (try simp only [Act.put, List.getElem_toArray, List.getElem_cons_zero, List.getElem_cons_succ, List.setIfInBounds_toArray, List.set_cons_zero, List.set_cons_succ])
              refine wpAnyH_take (i := 3) (v := ?v4) rfl (by kernel_rfl) (by kernel_rfl) (by kernel_rfl) (fun _ _ _ h => h) (Or.inl ⟨by rfl, ?y4⟩) (by assumption) ?r4
              case y4 => (intro w hSw; (try dsimp only at hSw); (try simp only [List.getElem_toArray, List.getElem_cons_zero, List.getElem_cons_succ]); go_simp; first | done | with_reducible rfl)
              (try simp only [Act.put, List.getElem_toArray, List.getElem_cons_zero, List.getElem_cons_succ, List.setIfInBounds_toArray, List.set_cons_zero, List.set_cons_succ])
              refine wpAnyH_take (i := 4) (v := ?v5) rfl (by kernel_rfl) (by kernel_rfl) (by kernel_rfl) (fun _ _ _ h => h) (Or.inl ⟨by rfl, ?y5⟩) (by assumption) ?r5
              case y5 => (intro w hSw; (try dsimp only at hSw); (try simp only [List.getElem_toArray, List.getElem_cons_zero, List.getElem_cons_succ]); go_simp; first | done | with_reducible rfl)
              (try simp only [Act.put, List.getElem_toArray, List.getElem_cons_zero, List.getElem_cons_succ, List.setIfInBounds_toArray, List.set_cons_zero, List.set_cons_succ])
              refine wpAnyH_ready (rs := [5]) (by kernel_rfl) (by simp) ?_
              refine AllReadyH.cons rfl (fun K hK => ?_) ?_
              · (try simp only [List.getElem_toArray, List.getElem_cons_zero, List.getElem_cons_succ])
                go_simp
                have hk := And.right ‹_ ∧ Kp w2' _›
                refine (TA.out _ hk).mono ?_
                rintro e v5 ⟨Q1, q1, q2, Q2, q3, q4, rfl, hk9, hj9, hW9, hX9, hF9, hG9, hbx⟩
                have hp := Kp.trans hk hbx
                have r5 : RQ v5 (sm') Q1 q1 q2 Q2 q3 q4 := ⟨hk9, hj9, hW9, hX9⟩
                have HFR := Lib.hid (And.intro hF9 (And.intro hG9 (Below.size hk)))
                clear hk hbx hk9 hj9 hW9 hX9 hF9 hG9
                (try (go_wp2_with fail))
                refine hK.out _ _ ?k7 (fun hHeld7 => ?n7)
                case k7 => ((try dsimp only); first | (with_reducible refine HS7.out _ ?_; with_reducible assumption) | (with_reducible refine HS7.out _ (Kp.drew ?_); with_reducible assumption) | (with_reducible refine' HS7.out _ (Kp.drew (And.right ?_)); rotate_left; with_reducible assumption) | (with_reducible refine' HS7.out _ (Kp.alloc (And.right ?_) _); rotate_left; with_reducible assumption))
                clear hK K
                (try simp only [Act.put, List.getElem_toArray, List.getElem_cons_zero, List.getElem_cons_succ, List.setIfInBounds_toArray, List.set_cons_zero, List.set_cons_succ])
                refine wpAnyH_done (by kernel_rfl) ?_ _
                unfold Qfr
                dsimp only
                have b15 := Kp.blk hp HPY.out.2.2.2.1
                obtain ⟨_, _, _, _, f10, f11, f12, f13⟩ := b15.four
                refine wpAny_ready (rs := [6]) (by kernel_rfl) (by simp) ?_
                refine AllReady.cons rfl (fun K hK => ?_) AllReady.nil
                (try simp only [List.getElem_toArray, List.getElem_cons_zero, List.getElem_cons_succ])
                go_simp
                refine hK _ _ ?_
                clear hK K
                (try simp only [Act.put, List.getElem_toArray, List.getElem_cons_zero, List.getElem_cons_succ, List.setIfInBounds_toArray, List.set_cons_zero, List.set_cons_succ])
                refine wpAny_done (by kernel_rfl) ?_ _
                have hfin : ∀ w', w' = qst v5 g 0 (decide (sm'.num < 0)) false Q1 Q2 q1 q2 q3 q4 → PyI g V ms sm' (i + 1) (some ⟨b7, o7, none⟩) cb2 (es ++ [(decide (yq.num < 0), (A1, k1, c1), (A2, k2, c2))]) w' := by
                  rintro w' rfl
                  obtain ⟨h1, h2, h3, h4, h5⟩ := HPY.out
                  have hb : Kp w2' v5 := hp
                  refine ⟨below_qst (h1.trans (Below.mono hb (Nat.le_trans (Nat.le_of_lt HGV.out) (Below.size h1)))) (Nat.le_refl _), (h2.keep hb).put4 HGV.out, (h3.below hb).put4 b15 NoInt.four, Q1, q1, q2, Q2, q3, q4, b15.put4, r5.put4 b15 NoInt.four, ?_, ?_⟩
                  · exact Off.fresh HFR.out.1 (fun b hb9 => Nat.lt_of_lt_of_le (h2.blk_lt b hb9) HFR.out.2.2)
                  · exact Off.fresh HFR.out.2.1 (fun b hb9 => Nat.lt_of_lt_of_le (h2.blk_lt b hb9) HFR.out.2.2)
                have e8 : (((v5.setCell ⟨g, 0, none⟩ (.bool (decide (sm'.num < 0)))).setCell ⟨g, 1, none⟩ (.slice Q1 q1 q2)).setCell ⟨g, 2, none⟩ (.bool false)).setCell ⟨g, 3, none⟩ (.slice Q2 q3 q4) = qst v5 g 0 (decide (sm'.num < 0)) false Q1 Q2 q1 q2 q3 q4 := rfl
                rw [e8]
                have HF := Lib.hid (hfin _ rfl)
                clear hfin e8 hp r5 f10 f11 f12 f13 b15 HPY
                go_wp2
                go_roundw
                case rel => exact ⟨i + 1, _, cb2, _, by omega, rfl, by first | rfl | go_num, by rw [HSTEP.out]; exact HF.out⟩
                case measure => simp [intOf]; omega
              exact AllReadyH.nil
            exact AllReadyH.nil
          exact AllReadyH.nil
        exact AllReadyH.nil
      exact AllReadyH.nil
    · obtain rfl : i = n := by omega
      obtain ⟨r1, r2, r3, A5, k5, c5, A6, k6, c6, r4, r5, r6, r7⟩ := HR0.out
      have hwr := HV.out.1.trans (r1.mono (Nat.le_of_lt HV.out.2.2.1))
      have hlt0 := HV.out.2.2.1
      have hb5 : Blk wr w.heap.size 31 #[.bool false, .slice none 0 0, .bool false, .slice none 0 0] := HV.out.2.1.below r1 hlt0
      obtain ⟨a0, a1, a2, a3, -, -, -, -⟩ := r4.four
      obtain ⟨i4, i5, i6, i7, f4, f5, f6, f7⟩ := hb5.four
      generalize he1 : (pyS pq qs i).2 = sm at *
      have HE := Lib.hid he1
      have hres : ∀ w', w' = (qst wr w.heap.size 0 (decide (sm.num < 0)) false A5 A6 k5 c5 k6 c6).drew → (∃ cs, Blk w' w.heap.size 31 cs ∧ cs = #[.bool (decide (sm.num < 0)), .slice A5 k5 c5, .bool false, .slice A6 k6 c6]) ∧ QsAt w' Ah i ms ∧ RQ w' sm A5 k5 c5 A6 k6 c6 ∧ Below w.heap.size w w' := by
        rintro w' rfl
        have hd := fun W : World => Below.drew (Below.refl W.heap.size W)
        exact ⟨⟨_, (hb5.put4).below (hd _) (hb5.put4).lt, rfl⟩, ((r2.put4 (Nat.lt_trans hlt0 HGV.out)).qs HMS.out (r3.put4 hb5 NoInt.four)).below (hd _), (r5.put4 hb5 NoInt.four).below (hd _), Below.drew (below_qst hwr (Nat.le_refl _))⟩
      have HRES := Lib.hid hres
      clear HR0 r1 r2 r3 r4 r5 r6 r7 hwr hb5 hres he1 hlt0
      go_wp2_with fail
      go_region_with (fail)
      all_goals
        have e9 : (((wr.setCell ⟨w.heap.size, 0, none⟩ (.bool (decide (sm.num < 0)))).setCell ⟨w.heap.size, 1, none⟩ (.slice A5 k5 c5)).setCell ⟨w.heap.size, 2, none⟩ (.bool false)).setCell ⟨w.heap.size, 3, none⟩ (.slice A6 k6 c6) = qst wr w.heap.size 0 (decide (sm.num < 0)) false A5 A6 k5 c5 k6 c6 := rfl
        rw [e9]
        obtain ⟨⟨cs, hcs, rfl⟩, hq1, hq2, hq3⟩ := HRES.out _ rfl
        generalize (qst wr w.heap.size 0 (decide (sm.num < 0)) false A5 A6 k5 c5 k6 c6).drew = W9 at *
        obtain ⟨d0, d1, d2, d3, -, -, -, -⟩ := hcs.four
        have HF := Lib.hid (And.intro hq1 (And.intro hq2 hq3))
        clear e9 hcs hq1 hq2 hq3 HRES i4 i5 i6 i7 f4 f5 f6 f7 a0 a1 a2 a3
        go_wp2
        refine bodyPost_ret (v := .tuple #[.slice Ah i ch, .agg #[.bool (decide (sm.num < 0)), .slice A5 k5 c5, .bool false, .slice A6 k6 c6]]) ?_ rfl ?_
        · simp [results, Tryz.results17, go_sem, d0, d1, d2, d3]
        · rw [HE.out, ← HME.out]
          exact ⟨Ah, ch, A5, k5, c5, A6, k6, c6, rfl, HF.out.1, HF.out.2.1, HF.out.2.2⟩

end Go.Proofs.YtodkhjihkkmplaaGreat
