/-
willing of package step, at any price. No statement of the seat is proved here; no conditions beyond those of each theorem.
-/
import Derived.Test.YtnjpojpfiijlfaaGreatGL
import Derived.Test.YtnjpojpfiijlfaaGreatGH
namespace Go.Proofs.YtnjpojpfiijlfaaGreat
set_option linter.unusedVariables false
set_option linter.unusedSimpArgs false
open Go.RowKit
open Wd

/-- A rational in any form, of any size. -/
def QArg (w : World) (an : Bool) (aA : Option Addr) (ak ac : Nat) (an' : Bool) (aA' : Option Addr) (ak' ac' : Nat) (q : Rat) : Prop := ∃ Nn Nd, QAt Nn Nd w an aA ak ac an' aA' ak' ac' q
theorem QArg.below {w w' : World} {an an' : Bool} {aA aA' : Option Addr} {ak ac ak' ac' : Nat} {q : Rat} (h : QArg w an aA ak ac an' aA' ak' ac' q) (hb : Below w.heap.size w w') : QArg w' an aA ak ac an' aA' ak' ac' q := by
  obtain ⟨Nn, Nd, h⟩ := h
  exact ⟨Nn, Nd, h.below hb⟩
theorem QAt.more {Nn Nd Mn Md : Nat} {w : World} {an an' : Bool} {aA aA' : Option Addr} {ak ac ak' ac' : Nat} {q : Rat} (h : QAt Nn Nd w an aA ak ac an' aA' ak' ac' q) (hn : Nn ≤ Mn) (hd : Nd ≤ Md) : QAt Mn Md w an aA ak ac an' aA' ak' ac' q := by
  obtain ⟨na, da, h1, h2, h3, h4⟩ := h
  exact ⟨na, da, h1, by omega, by omega, h4⟩
theorem qcmp_arg (an an' bn bn' : Bool) (aA aA' bA bA' : Option Addr) (ak ac ak' ac' bk bc bk' bc' : Nat) (qa qb : Rat) (w : World) (ha : QArg w an aA ak ac an' aA' ak' ac' qa) (hb : QArg w bn bA bk bc bn' bA' bk' bc' qb) :
    Calls Tryz.prog 55 #[.agg #[.bool an, .slice aA ak ac, .bool an', .slice aA' ak' ac'], .agg #[.bool bn, .slice bA bk bc, .bool bn', .slice bA' bk' bc']] w fun e w' => e = .returned (.int .i64 (cmpQ qa qb)) ∧ Below w.heap.size w w' := by
  obtain ⟨N1, D1, h1⟩ := ha
  obtain ⟨N2, D2, h2⟩ := hb
  exact qcmp_any an an' bn bn' aA aA' bA bA' ak ac ak' ac' bk bc bk' bc' qa qb w (h1.more (Mn := max N1 N2) (Md := max D1 D2) (by omega) (by omega)) (h2.more (by omega) (by omega))
theorem WQ.arg {w : World} {z : Int} {A A' : Option Addr} {k c k' c' : Nat} (h : WQ w (z : Rat) A k c A' k' c') (hz : z.natAbs < 1000000000000) : QArg w (decide (((z : Int) : Rat).num < 0)) A k c false A' k' c' (z : Rat) :=
  ⟨_, _, h.at (by rw [Rat.num_intCast]; omega) (by rw [Rat.den_intCast]; omega)⟩

/-- The quantities on one side of a price, without and with those at it. -/
def wlL (side : Int) (q : Rat) (l : List (Int × Int)) : Int := sumI (l.map fun s => if cmpQ (s.2 : Rat) q = side then s.1 else 0)
def wlM (side : Int) (q : Rat) (l : List (Int × Int)) : Int := sumI (l.map fun s => if cmpQ (s.2 : Rat) q = side ∨ cmpQ (s.2 : Rat) q = 0 then s.1 else 0)
theorem wlL_snoc {side : Int} {q : Rat} {l : List (Int × Int)} {k : Nat} (hk : k < l.length) : wlL side q (l.take (k + 1)) = wlL side q (l.take k) + if cmpQ (((l[k]?.getD (0, 0)).2 : Int) : Rat) q = side then (l[k]?.getD (0, 0)).1 else 0 := by
  unfold wlL
  rw [take_snocS hk, List.map_append]
  exact sumI_snoc _ _
theorem wlM_snoc {side : Int} {q : Rat} {l : List (Int × Int)} {k : Nat} (hk : k < l.length) : wlM side q (l.take (k + 1)) = wlM side q (l.take k) + if cmpQ (((l[k]?.getD (0, 0)).2 : Int) : Rat) q = side ∨ cmpQ (((l[k]?.getD (0, 0)).2 : Int) : Rat) q = 0 then (l[k]?.getD (0, 0)).1 else 0 := by
  unfold wlM
  rw [take_snocS hk, List.map_append]
  exact sumI_snoc _ _
theorem wl_bd : ∀ {l : List (Int × Int)} (side : Int) (q : Rat), (∀ s ∈ l, ¬ Bad s.1 s.2) → (0 ≤ wlL side q l ∧ wlL side q l ≤ 1000000 * (l.length : Int)) ∧ (0 ≤ wlM side q l ∧ wlM side q l ≤ 1000000 * (l.length : Int))
  | [], side, q, _ => by simp [wlL, wlM, sumI]
  | s :: l, side, q, h => by
    have h1 := h s (List.mem_cons_self ..)
    have h2 := wl_bd (l := l) side q fun y hy => h y (List.mem_cons_of_mem _ hy)
    unfold Bad at h1
    unfold wlL wlM at *
    rw [List.map_cons, List.map_cons, sumI, sumI, List.length_cons]
    constructor <;> split <;> omega

set_option maxRecDepth 100000 in
set_option maxHeartbeats 8000000 in
theorem willing_any (side : Int) (A : Option Addr) (n c : Nat) (l : List (Int × Int)) (an an' : Bool) (aA aA' : Option Addr) (ak ac ak' ac' : Nat) (q : Rat) (w : World) (h : StAt w A n l) (hq : QArg w an aA ak ac an' aA' ak' ac' q) (hn : n ≤ 3) (hb : ∀ s ∈ l, ¬ Bad s.1 s.2) :
    Calls Tryz.prog 104 #[.slice A n c, .agg #[.bool an, .slice aA ak ac, .bool an', .slice aA' ak' ac'], .int .i64 side] w fun e w' => e = .returned (.tuple #[.int .i64 (wlL side q l), .int .i64 (wlM side q l)]) ∧ Below w.heap.size w w' := by
  have HX := Lib.hid h
  have HLN := Lib.hid h.1
  have HB := Lib.hid hb
  have HQ := Lib.hid hq
  clear h hb hq
  go_enter Tryz.func104, Tryz.ntmps104
  go_wp2_with fail
  have hbx := Blk.new w 42 #[.bool an, .slice aA ak ac, .bool an', .slice aA' ak' ac']
  have hb0 : Below w.heap.size w (w.alloc (.cells #[.bool an, .slice aA ak ac, .bool an', .slice aA' ak' ac'] 42)) := (Below.refl _ _).alloc (Nat.le_refl _) _
  generalize w.alloc (.cells #[.bool an, .slice aA ak ac, .bool an', .slice aA' ak' ac'] 42) = W0 at *
  have HST := Lib.hid (And.intro hb0 hbx)
  clear hb0 hbx
  go_loopw [6, 7, 12] (fun tl tm t wr => ∃ k : Nat, k ≤ n ∧ t = .int .i64 k ∧ tl = .int .i64 (wlL side q (l.take k)) ∧ tm = .int .i64 (wlM side q (l.take k)) ∧ Hid (Below w.heap.size w wr ∧ Blk wr w.heap.size 42 #[.bool an, .slice aA ak ac, .bool an', .slice aA' ak' ac'])) (fun _ _ t _ => n - (intOf t).toNat)
  case atStart => exact ⟨0, Nat.zero_le _, rfl, rfl, rfl, HST.out⟩
  case round =>
    obtain ⟨k, hk, rfl, rfl, rfl, hR⟩ := hrel
    by_cases hlt : k < n
    · obtain ⟨hBW, hBX⟩ := hR.out
      obtain ⟨b, o, rfl, hb, hc⟩ := HX.out.2.2 (by omega)
      obtain ⟨y0, y1⟩ := hc k hlt
      have hkl : k < l.length := by rw [HLN.out]; exact hlt
      have hbad := HB.out _ (getD_mem (d := ((0, 0) : Int × Int)) hkl)
      have s1 := wlL_snoc (side := side) (q := q) hkl
      have s2 := wlM_snoc (side := side) (q := q) hkl
      obtain ⟨bd1, bd2⟩ := wl_bd (l := l.take k) side q fun s hs => HB.out s (List.mem_of_mem_take hs)
      have hl2 := List.length_take_le k l
      generalize (l[k]?.getD (0, 0)).1 = s at *
      generalize (l[k]?.getD (0, 0)).2 = p at *
      replace y0 := (hBW.cell (p := ⟨b, o + k * 2, none⟩) hb).trans y0
      replace y1 := (hBW.cell (p := ⟨b, o + k * 2 + 1, none⟩) hb).trans y1
      unfold Bad at hbad
      have hFI := fun W => qfromInt64_any p W (by omega) (by omega)
      have hW1 : Below w.heap.size w (wr.alloc (.cells #[.int .i64 s, .int .i64 p] 74)) := hBW.alloc hBW.size _
      have hCM := fun W (hW : Kp (wr.alloc (.cells #[.int .i64 s, .int .i64 p] 74)) W) (A2 A3 : Option Addr) (k2 c2 k3 c3 : Nat) (h2 : WQ W ((p : Int) : Rat) A2 k2 c2 A3 k3 c3) => qcmp_arg _ false an an' A2 A3 aA aA' k2 c2 k3 c3 ak ac ak' ac' ((p : Int) : Rat) q W (h2.arg (by omega)) (HQ.out.below (hW1.trans (Below.mono hW hW1.size)))
      have m1 := Blk.new wr 74 #[.int .i64 s, .int .i64 p]
      have m2 := hBX.alloc (.cells #[.int .i64 s, .int .i64 p] 74)
      have k1 : (0 : Int) ≤ (k : Int) := by omega
      have k2 : (k : Int) < (n : Int) := by omega
      generalize cmpQ ((p : Int) : Rat) q = cv at *
      generalize ((p : Int) : Rat) = pq at *
      generalize wlL side q (l.take k) = vl at *
      generalize wlM side q (l.take k) = vm at *
      have xl : IntKind.i64.wrap (vl + s) = vl + s := IntWalk.i64_in _ (by omega)
      have xm : IntKind.i64.wrap (vm + s) = vm + s := IntWalk.i64_in _ (by omega)
      have HS1 := Lib.hid s1
      have HS2 := Lib.hid s2
      have HFI := Lib.hid hFI
      have HCM := Lib.hid hCM
      have HM := Lib.hid (And.intro hW1 (And.intro m1 m2))
      clear hc hkl hbad bd1 bd2 hl2 s1 s2 hFI hCM hR hBW hBX hW1
      go_wp2_with fail
      have hS : ∀ w', Kp (wr.alloc (.cells #[.int .i64 s, .int .i64 p] 74)) w' → (w'.cell? ⟨wr.heap.size, 1, none⟩ = some (.int .i64 p) ∧ w'.cell? ⟨w.heap.size, 0, none⟩ = some (.bool an) ∧ w'.cell? ⟨w.heap.size, 1, none⟩ = some (.slice aA ak ac) ∧ w'.cell? ⟨w.heap.size, 2, none⟩ = some (.bool an') ∧ w'.cell? ⟨w.heap.size, 3, none⟩ = some (.slice aA' ak' ac')) ∧ Kp (wr.alloc (.cells #[.int .i64 s, .int .i64 p] 74)) w' := fun w' hk =>
        ⟨⟨(hk.blk m1).cell 1, (hk.blk m2).cell 0, (hk.blk m2).cell 1, (hk.blk m2).cell 2, (hk.blk m2).cell 3⟩, hk⟩
      have HS := Lib.hid hS
      have hk0 := Kp.refl (wr.alloc (.cells #[.int .i64 s, .int .i64 p] 74))
      clear hS m1 m2 y0 y1
      generalize wr.alloc (.cells #[.int .i64 s, .int .i64 p] 74) = W at *
      go_region_held3 (fun w' => (w'.cell? ⟨wr.heap.size, 1, none⟩ = some (.int .i64 p) ∧ w'.cell? ⟨w.heap.size, 0, none⟩ = some (.bool an) ∧ w'.cell? ⟨w.heap.size, 1, none⟩ = some (.slice aA ak ac) ∧ w'.cell? ⟨w.heap.size, 2, none⟩ = some (.bool an') ∧ w'.cell? ⟨w.heap.size, 3, none⟩ = some (.slice aA' ak' ac')) ∧ Kp W w')
        (first | (with_reducible refine HS.out _ ?_; with_reducible assumption) | (with_reducible refine HS.out _ (Kp.drew ?_); with_reducible assumption) | (with_reducible refine' HS.out _ (Kp.drew (And.right _)); rotate_left; with_reducible assumption))
        (first
          | (go_at_call 50; have hk := And.right ‹_ ∧ Kp W _›; refine (HFI.out _).mono ?_; rintro e v2 ⟨A2, k2, c2, A3, k3, c3, rfl, h2, h3, hW2, hW3, -, -, hb2⟩; have hk2 := Kp.trans hk hb2; have HWQ := Lib.hid (⟨h2, h3, hW2, hW3⟩ : WQ v2 pq A2 k2 c2 A3 k3 c3); clear hb2 h2 h3 hW2 hW3)
          | (go_at_call 55; have hk := And.right ‹_ ∧ Kp W _›; refine (HCM.out _ hk _ _ _ _ _ _ HWQ.out).mono ?_; rintro e v3 ⟨rfl, hb3⟩; have hk3 := Kp.trans hk hb3; clear hb3))
      have hfin : Below w.heap.size w v3 ∧ Blk v3 w.heap.size 42 #[.bool an, .slice aA ak ac, .bool an', .slice aA' ak' ac'] := ⟨HM.out.1.trans (Below.mono hk3 HM.out.1.size), hk3.blk HM.out.2.2⟩
      have hs0 := (hk3.blk HM.out.2.1).cell 0
      simp at hs0
      have HF := Lib.hid hfin
      clear hfin hk0 hk2 hk3 HS HFI HCM HWQ HM
      by_cases hside : cv = side
      · have d1 : (cv == side) = true := by simpa using hside
        have e1 := HS1.out
        have e2 := HS2.out
        rw [if_pos hside] at e1
        rw [if_pos (Or.inl hside)] at e2
        have E1 := Lib.hid e1
        have E2 := Lib.hid e2
        clear e1 e2 HS1 HS2 hside
        go_wp2
        go_roundw
        case rel => exact ⟨k + 1, by omega, by go_num, by rw [E1.out], by rw [E2.out], HF.out⟩
        case measure => simp [intOf]; omega
      · have d1 : (cv == side) = false := beq_false_of_ne hside
        have e1 := HS1.out
        rw [if_neg hside, Int.add_zero] at e1
        have E1 := Lib.hid e1
        by_cases hz : cv = 0
        · have d2 : (cv == 0) = true := by simpa using hz
          have e2 := HS2.out
          rw [if_pos (Or.inr hz)] at e2
          have E2 := Lib.hid e2
          clear e1 e2 HS1 HS2 hside hz
          go_wp2
          go_roundw
          case rel => exact ⟨k + 1, by omega, by go_num, by rw [E1.out], by rw [E2.out], HF.out⟩
          case measure => simp [intOf]; omega
        · have d2 : (cv == 0) = false := beq_false_of_ne hz
          have e2 := HS2.out
          rw [if_neg (by rintro (h | h); exact hside h; exact hz h), Int.add_zero] at e2
          have E2 := Lib.hid e2
          clear e1 e2 HS1 HS2 hside hz
          go_wp2
          go_roundw
          case rel => exact ⟨k + 1, by omega, by go_num, by rw [E1.out], by rw [E2.out], HF.out⟩
          case measure => simp [intOf]; omega
    · obtain rfl : k = n := by omega
      rw [List.take_of_length_le (by rw [HLN.out]; exact Nat.le_refl _)]
      have HF := Lib.hid hR.out.1
      clear hR
      go_wp2
      go_ret2
      exact ⟨rfl, HF.out⟩


set_option maxRecDepth 100000 in
set_option maxHeartbeats 4000000 in
theorem supplyAt_any (A : Option Addr) (n c : Nat) (l : List (Int × Int)) (an an' : Bool) (aA aA' : Option Addr) (ak ac ak' ac' : Nat) (q : Rat) (w : World) (h : StAt w A n l) (hq : QArg w an aA ak ac an' aA' ak' ac' q) (hk : chk true l = 0) :
    Calls Tryz.prog 53 #[.slice A n c, .agg #[.bool an, .slice aA ak ac, .bool an', .slice aA' ak' ac']] w fun e w' => e = .returned (.tuple #[.int .i64 (wlL (-1) q l), .int .i64 (wlM (-1) q l), .int .i64 0]) ∧ Below w.heap.size w w' := by
  have hok := chk_ok hk
  have hn : n ≤ 3 := by rw [← h.1]; exact hok.2.1
  have HX := Lib.hid h
  have HC := Lib.hid (fun W (hW : Below w.heap.size w W) => checkOffer_any A n c l W (h.below hW) (by omega))
  rw [hk] at HC
  have HW := Lib.hid (fun W (hW : Below w.heap.size w W) => willing_any (-1) A n c l an an' aA aA' ak ac ak' ac' q W (h.below hW) (hq.below hW) hn hok.2.2.2)
  clear h hq hk hok
  go_enter Tryz.func53, Tryz.ntmps53
  go_wp2_with fail
  have hbx := Blk.new w 42 #[.bool an, .slice aA ak ac, .bool an', .slice aA' ak' ac']
  have hb0 : Below w.heap.size w (w.alloc (.cells #[.bool an, .slice aA ak ac, .bool an', .slice aA' ak' ac'] 42)) := (Below.refl _ _).alloc (Nat.le_refl _) _
  generalize w.alloc (.cells #[.bool an, .slice aA ak ac, .bool an', .slice aA' ak' ac'] 42) = W0 at *
  refine (HC.out W0 hb0).mono ?_
  rintro e w1 ⟨rfl, hb1⟩
  have hbx1 := hbx.below hb1 hbx.lt
  obtain ⟨c0, c1, c2, c3, -, -, -, -⟩ := hbx1.four
  have HB1 := Lib.hid (hb0.trans (hb1.mono hb0.size))
  clear hbx hb0 hb1 HC hbx1
  go_wp2_with fail
  refine (HW.out w1 HB1.out).mono ?_
  rintro e w2 ⟨rfl, hb2⟩
  have HB2 := Lib.hid (HB1.out.trans (hb2.mono HB1.out.size))
  clear hb2 HW HB1
  go_wp2
  refine bodyPost_ret (v := .tuple #[.int .i64 (wlL (-1) q l), .int .i64 (wlM (-1) q l), .int .i64 0]) ?_ rfl ⟨rfl, HB2.out⟩
  simp [results, Tryz.results53, go_sem]

set_option maxRecDepth 100000 in
set_option maxHeartbeats 4000000 in
theorem demandAt_any (A : Option Addr) (n c : Nat) (l : List (Int × Int)) (an an' : Bool) (aA aA' : Option Addr) (ak ac ak' ac' : Nat) (q : Rat) (w : World) (h : StAt w A n l) (hq : QArg w an aA ak ac an' aA' ak' ac' q) (hk : chk false l = 0) :
    Calls Tryz.prog 54 #[.slice A n c, .agg #[.bool an, .slice aA ak ac, .bool an', .slice aA' ak' ac']] w fun e w' => e = .returned (.tuple #[.int .i64 (wlL (1) q l), .int .i64 (wlM (1) q l), .int .i64 0]) ∧ Below w.heap.size w w' := by
  have hok := chk_ok hk
  have hn : n ≤ 3 := by rw [← h.1]; exact hok.2.1
  have HX := Lib.hid h
  have HC := Lib.hid (fun W (hW : Below w.heap.size w W) => checkBid_any A n c l W (h.below hW) (by omega))
  rw [hk] at HC
  have HW := Lib.hid (fun W (hW : Below w.heap.size w W) => willing_any (1) A n c l an an' aA aA' ak ac ak' ac' q W (h.below hW) (hq.below hW) hn hok.2.2.2)
  clear h hq hk hok
  go_enter Tryz.func54, Tryz.ntmps54
  go_wp2_with fail
  have hbx := Blk.new w 42 #[.bool an, .slice aA ak ac, .bool an', .slice aA' ak' ac']
  have hb0 : Below w.heap.size w (w.alloc (.cells #[.bool an, .slice aA ak ac, .bool an', .slice aA' ak' ac'] 42)) := (Below.refl _ _).alloc (Nat.le_refl _) _
  generalize w.alloc (.cells #[.bool an, .slice aA ak ac, .bool an', .slice aA' ak' ac'] 42) = W0 at *
  refine (HC.out W0 hb0).mono ?_
  rintro e w1 ⟨rfl, hb1⟩
  have hbx1 := hbx.below hb1 hbx.lt
  obtain ⟨c0, c1, c2, c3, -, -, -, -⟩ := hbx1.four
  have HB1 := Lib.hid (hb0.trans (hb1.mono hb0.size))
  clear hbx hb0 hb1 HC hbx1
  go_wp2_with fail
  refine (HW.out w1 HB1.out).mono ?_
  rintro e w2 ⟨rfl, hb2⟩
  have HB2 := Lib.hid (HB1.out.trans (hb2.mono HB1.out.size))
  clear hb2 HW HB1
  go_wp2
  refine bodyPost_ret (v := .tuple #[.int .i64 (wlL (1) q l), .int .i64 (wlM (1) q l), .int .i64 0]) ?_ rfl ⟨rfl, HB2.out⟩
  simp [results, Tryz.results54, go_sem]

end Go.Proofs.YtnjpojpfiijlfaaGreat
