/-
pylonlaw25.whole: integers as rationals. clear.total: money and quantity of one side of a trade, whatever the sizes. clear.Welfare of a balanced trade, whatever the sizes. clear.Welfare of a trade of whole quantities. No statement of the seat is proved here; no conditions beyond those of each theorem.
-/
import Derived.Test.YtnjpojpfiijlfaaGreatGK
import Derived.Test.YtnjpojpfiijlfaaGreatC7
import Derived.Test.YtnjpojpfiijlfaaGreatC3
import Derived.Test.YtnjpojpfiijlfaaGreatZ2
import Derived.Deep.DrawnRows
import Derived.Test.YtnjpojpfiijlfaaGreatC6
import Derived.Test.YtnjpojpfiijlfaaGreatY7
namespace Go.Proofs.YtnjpojpfiijlfaaGreat
set_option linter.unusedVariables false
set_option linter.unusedSimpArgs false
open Go.RowKit
open Wd

set_option maxRecDepth 100000 in
set_option maxHeartbeats 1000000 in
theorem whole25_any (A : Option Addr) (n c : Nat) (ys : List Int) (w : World) (h : IsAt w A n ys) (hn : n ≤ 1000) (hyb : ∀ y ∈ ys, Fits y) :
    Calls Tryz.prog 74 #[.slice A n c] w fun e w' => ∃ B cb, e = .returned (.slice B n cb) ∧ QsAt w' B n (castR ys) ∧ Below w.heap.size w w' := by
  have T1 := Lib.hid (fun (x : Int) (hx1 : -9223372036854775808 ≤ x) (hx2 : x ≤ 9223372036854775807) W => rint_any x W hx1 hx2)
  have HX := Lib.hid h
  have HFC := Lib.hid hyb
  obtain ⟨ii, hii, hz0, hz1, hz2⟩ := info_parts info_q
  have HI := Lib.hid hii
  have HZ0 := Lib.hid hz0
  have HZ1 := Lib.hid hz1
  have HZ2 := Lib.hid hz2
  clear h hyb hii hz0 hz1 hz2
  go_enter Tryz.func74, Tryz.ntmps74
  go_wp2_with fail
  go_loopw [3, 4] (fun th t wr => ∃ (i : Nat) (Ah : Option Addr) (ch : Nat) (es : List QEnt), i ≤ n ∧ t = .int .i64 (i : Int) ∧ th = .slice Ah i ch ∧ Hid (Kp w wr ∧ Own w.heap.size 42 4 wr Ah i ch (qCells es) ∧ QEnts Ah (castR ys) wr i es)) (fun _ t _ => n - (intOf t).toNat)
  case atStart => exact ⟨0, none, 0, [], Nat.zero_le _, rfl, rfl, Kp.refl _, Own.nil _ _ _ _, QEnts.start⟩
  case round =>
    obtain ⟨i, Ah, ch, es, hi, rfl, rfl, hR⟩ := hrel
    by_cases hlt : i < n
    · obtain ⟨hB, hO, hE⟩ := hR.out
      obtain ⟨gr, or, rfl, hb, hcl⟩ := HX.out.2 (by omega)
      have hl : ys.length = n := HX.out.1
      have hcell := (hB.cell (p := ⟨gr, or + i, none⟩) hb).trans (hcl i hlt)
      have hfy := HFC.out _ (getD_mem (d := 0) (show i < ys.length by omega))
      have HEI := Lib.hid (castR_get ys i)
      have i1 : (0 : Int) ≤ (i : Int) := by omega
      have i2 : (i : Int) < (n : Int) := by omega
      generalize ys[i]?.getD 0 = y at *
      have HFY := Lib.hid hfy
      have HR := Lib.hid (And.intro hB (And.intro hO hE))
      clear hcl hB hO hE hR hfy hb hl
      go_wp2_with fail
      refine (T1.out y (by have := HFY.out.1; omega) (by have := HFY.out.2; omega) wr).mono ?_
      rintro e v1 ⟨A1, k1, c1, A2, k2, c2, rfl, hk1, hk2, hW1, hW2, hF1, hF2, hb1⟩
      generalize ((y : Int) : Rat) = yq at *
      have HW := Lib.hid (And.intro (show WQ v1 yq A1 k1 c1 A2 k2 c2 from ⟨hk1, hk2, hW1, hW2⟩) (And.intro hF1 hF2))
      have HB1 := Lib.hid hb1
      clear hk1 hk2 hW1 hW2 hF1 hF2 hb1 hcell
      have hO1 := (HR.out.2.1.keep HB1.out).keep ((Kp.refl v1).alloc (.cells #[.bool (decide (yq.num < 0)), .slice A1 k1 c1, .bool false, .slice A2 k2 c2] 42))
      have m1 := Blk.new v1 42 #[.bool (decide (yq.num < 0)), .slice A1 k1 c1, .bool false, .slice A2 k2 c2]
      have s1 : Kp w (v1.alloc (.cells #[.bool (decide (yq.num < 0)), .slice A1 k1 c1, .bool false, .slice A2 k2 c2] 42)) := Kp.alloc (Below.trans HR.out.1 (Below.mono HB1.out (Below.size HR.out.1))) _
      go_wp2_with (first
        | (at_builtin; refine wpList_append_at rfl (base := w.heap.size) (e := 42) (size := 4) (bytes := 64) (.tmp 11) (.tmp 17) 46 rfl Tryz.underlying46 HI.out HZ0.out HZ1.out HZ2.out rfl (by decide) (xs := qCells es) (news := [.bool (decide (yq.num < 0)), .slice A1 k1 c1, .bool false, .slice A2 k2 c2]) rfl (by exact hO1) rfl (by exact Blk.src m1 rfl (qCells_one [(decide (yq.num < 0), (A1, k1, c1), (A2, k2, c2))])) (by simp only [maxLen]; omega) (by omega) (by exact Below.size s1) ?_
           intro B2 cb2 w2' hO2 hb2 hk2 hs2
           have HP := Lib.hid (And.intro hO2 (And.intro hb2 (And.intro hk2 hs2)))
           clear hO2 hb2 hk2 hs2))
      have hfin : Kp w w2' ∧ Own w.heap.size 42 4 w2' B2 (i + 1) cb2 (qCells (es ++ [(decide (yq.num < 0), (A1, k1, c1), (A2, k2, c2))])) ∧ QEnts B2 (castR ys) w2' (i + 1) (es ++ [(decide (yq.num < 0), (A1, k1, c1), (A2, k2, c2))]) := by
        obtain ⟨hO2, hb2, hk2, hs2⟩ := HP.out
        refine ⟨Below.trans s1 hb2, by rw [qCells_append]; exact hO2, ?_⟩
        have hlt2 := HR.out.2.1.blk_lt
        have he1 := (HR.out.2.2.below HB1.out).snoc (by rw [HEI.out]) (by rw [HEI.out]; exact HW.out.1) (Off.fresh HW.out.2.1 hlt2) (Off.fresh HW.out.2.2 hlt2)
        exact (he1.below ((Kp.refl v1).alloc _)).app hk2 hs2
      have HF := Lib.hid hfin
      clear hfin HP hO1 m1 s1
      go_wp2
      go_roundw
      case rel => exact ⟨i + 1, B2, cb2, _, by omega, by go_num, rfl, HF.out⟩
      case measure => simp [intOf]; omega
    · obtain rfl : i = n := by omega
      obtain ⟨hB, hO, hE⟩ := hR.out
      have hys2 := hO.qs (by simp [castR, HX.out.1]) hE
      have HF := Lib.hid (And.intro hys2 hB)
      clear hR hB hO hE hys2
      go_wp2
      go_ret
      exact ⟨Ah, ch, rfl, HF.out⟩

end Go.Proofs.YtnjpojpfiijlfaaGreat

namespace Go.Proofs.YtnjpojpfiijlfaaGreat
set_option linter.unusedVariables false
set_option linter.unusedSimpArgs false
open Go.RowKit
open Wd
attribute [local go_sem ↓] Go.wp_at_zero Go.wp_at_succ

/-- Money in box g, quantity in box g'. -/
def TotR (w : World) (g g' : Nat) (m s : Rat) (A : Option Addr) (j c : Nat) (A' : Option Addr) (j' c' : Nat) (B : Option Addr) (i d : Nat) (B' : Option Addr) (i' d' : Nat) (wr : World) : Prop :=
  Below w.heap.size w wr ∧ Blk wr g 42 #[.bool (decide ((m).num < 0)), .slice A j c, .bool false, .slice A' j' c'] ∧ CQ w.heap.size wr m A j c A' j' c' ∧ Blk wr g' 42 #[.bool (decide ((s).num < 0)), .slice B i d, .bool false, .slice B' i' d'] ∧ CQ w.heap.size wr s B i d B' i' d'
section
variable {w wr : World} {g g' : Nat} {m s : Rat} {A A' B B' : Option Addr} {j c j' c' i d i' d' : Nat}
theorem TotR.drew (h : TotR w g g' m s A j c A' j' c' B i d B' i' d' wr) : TotR w g g' m s A j c A' j' c' B i d B' i' d' wr.drew :=
  ⟨h.1.drew, h.2.1, h.2.2.1.below (Kp.drew (Kp.refl wr)), h.2.2.2.1, h.2.2.2.2.below (Kp.drew (Kp.refl wr))⟩
theorem TotR.call {w' : World} (h : TotR w g g' m s A j c A' j' c' B i d B' i' d' wr) (hb : Below wr.heap.size wr w') : TotR w g g' m s A j c A' j' c' B i d B' i' d' w' :=
  ⟨h.1.trans (hb.mono h.1.size), h.2.1.below hb h.2.1.lt, h.2.2.1.below hb, h.2.2.2.1.below hb h.2.2.2.1.lt, h.2.2.2.2.below hb⟩
theorem TotR.put1 {m2 : Rat} {A2 A2' : Option Addr} {j2 c2 j2' c2' : Nat} (h : TotR w g g' m s A j c A' j' c' B i d B' i' d' wr) (hg : w.heap.size ≤ g) (hne : g' ≠ g) (h2 : CQ w.heap.size wr m2 A2 j2 c2 A2' j2' c2') :
    TotR w g g' m2 s A2 j2 c2 A2' j2' c2' B i d B' i' d' ((((wr.setCell ⟨g, 0, none⟩ (.bool (decide ((m2).num < 0)))).setCell ⟨g, 1, none⟩ (.slice A2 j2 c2)).setCell ⟨g, 2, none⟩ (.bool false)).setCell ⟨g, 3, none⟩ (.slice A2' j2' c2')) := by
  have e : ((((wr.setCell ⟨g, 0, none⟩ (.bool (decide ((m2).num < 0)))).setCell ⟨g, 1, none⟩ (.slice A2 j2 c2)).setCell ⟨g, 2, none⟩ (.bool false)).setCell ⟨g, 3, none⟩ (.slice A2' j2' c2')) = qst wr g 0 (decide (m2.num < 0)) false A2 A2' j2 c2 j2' c2' := rfl
  rw [e]
  exact ⟨below_qst h.1 hg, h.2.1.put4, h2.put4 h.2.1 NoInt.four, h.2.2.2.1.far4 hne, h.2.2.2.2.put4 h.2.1 NoInt.four⟩
theorem TotR.put2 {s2 : Rat} {B2 B2' : Option Addr} {i2 d2 i2' d2' : Nat} (h : TotR w g g' m s A j c A' j' c' B i d B' i' d' wr) (hg : w.heap.size ≤ g') (hne : g ≠ g') (h2 : CQ w.heap.size wr s2 B2 i2 d2 B2' i2' d2') :
    TotR w g g' m s2 A j c A' j' c' B2 i2 d2 B2' i2' d2' ((((wr.setCell ⟨g', 0, none⟩ (.bool (decide ((s2).num < 0)))).setCell ⟨g', 1, none⟩ (.slice B2 i2 d2)).setCell ⟨g', 2, none⟩ (.bool false)).setCell ⟨g', 3, none⟩ (.slice B2' i2' d2')) := by
  have e : ((((wr.setCell ⟨g', 0, none⟩ (.bool (decide ((s2).num < 0)))).setCell ⟨g', 1, none⟩ (.slice B2 i2 d2)).setCell ⟨g', 2, none⟩ (.bool false)).setCell ⟨g', 3, none⟩ (.slice B2' i2' d2')) = qst wr g' 0 (decide (s2.num < 0)) false B2 B2' i2 d2 i2' d2' := rfl
  rw [e]
  exact ⟨below_qst h.1 hg, h.2.1.far4 hne, h.2.2.1.put4 h.2.2.2.1 NoInt.four, h.2.2.2.1.put4, h2.put4 h.2.2.2.1 NoInt.four⟩
end
def TotP (w : World) (m s : Rat) (e : Ending) (w' : World) : Prop := ∃ A j c A' j' c' B i d B' i' d', e = .returned (.tuple #[.agg #[.bool (decide ((m).num < 0)), .slice A j c, .bool false, .slice A' j' c'], .agg #[.bool (decide ((s).num < 0)), .slice B i d, .bool false, .slice B' i' d'], .int .i64 0]) ∧ CQ w.heap.size w' m A j c A' j' c' ∧ CQ w.heap.size w' s B i d B' i' d' ∧ Below w.heap.size w w'

set_option maxRecDepth 100000 in
set_option maxHeartbeats 8000000 in
theorem total_gen (A B : Option Addr) (n c d : Nat) (ls : List (List (Int × Int))) (es : List QE) (w : World) (h : CsAt w A n ls) (hq : QsAtR w B n es) (hn : n ≤ 1000) (co m s : Nat → Rat) (m0 : m 0 = 0) (s0 : s 0 = 0)
    (HC : ∀ k, k < n → ∀ W, Below w.heap.size w W → ∀ A' n' c', StAt W A' n' (ls[k]?.getD []) → Calls Tryz.prog 56 #[.slice A' n' c', .agg #[.bool (es[k]?.getD QE0).1, .slice (es[k]?.getD QE0).2.1.1 (es[k]?.getD QE0).2.1.2.1 (es[k]?.getD QE0).2.1.2.2, .bool (es[k]?.getD QE0).2.2.1, .slice (es[k]?.getD QE0).2.2.2.1 (es[k]?.getD QE0).2.2.2.2.1 (es[k]?.getD QE0).2.2.2.2.2]] W (CstPost W (co k)))
    (HM : ∀ k, k < n → ∀ W (A A' : Option Addr) (j c j' c' : Nat) (B B' : Option Addr) (i d i' d' : Nat), WQ W (m k) A j c A' j' c' → WQ W (co k) B i d B' i' d' → Calls Tryz.prog 57 #[.agg #[.bool (decide ((m k).num < 0)), .slice A j c, .bool false, .slice A' j' c'], .agg #[.bool (decide ((co k).num < 0)), .slice B i d, .bool false, .slice B' i' d']] W (RetQ W (m (k + 1))))
    (HS : ∀ k, k < n → ∀ W, Below w.heap.size w W → ∀ (A A' : Option Addr) (j c j' c' : Nat), WQ W (s k) A j c A' j' c' → Calls Tryz.prog 57 #[.agg #[.bool (decide ((s k).num < 0)), .slice A j c, .bool false, .slice A' j' c'], .agg #[.bool (es[k]?.getD QE0).1, .slice (es[k]?.getD QE0).2.1.1 (es[k]?.getD QE0).2.1.2.1 (es[k]?.getD QE0).2.1.2.2, .bool (es[k]?.getD QE0).2.2.1, .slice (es[k]?.getD QE0).2.2.2.1 (es[k]?.getD QE0).2.2.2.2.1 (es[k]?.getD QE0).2.2.2.2.2]] W (RetQ W (s (k + 1)))) :
    Calls Tryz.prog 133 #[.slice A n c, .slice B n d] w (TotP w (m n) (s n)) := by
  have HX := Lib.hid h
  have HQ := Lib.hid hq
  have HCH := Lib.hid HC
  have HMH := Lib.hid HM
  have HSH := Lib.hid HS
  have M0 := Lib.hid m0
  have S0 := Lib.hid s0
  clear h hq HC HM HS m0 s0
  go_enter Tryz.func133, Tryz.ntmps133
  go_wp2_with fail
  have bx1 := (Blk.new w 42 #[.bool false, .slice none 0 0, .bool false, .slice none 0 0]).alloc (.cells #[.bool false, .slice none 0 0, .bool false, .slice none 0 0] 42)
  have bx2 := Blk.new (w.alloc (.cells #[.bool false, .slice none 0 0, .bool false, .slice none 0 0] 42)) 42 #[.bool false, .slice none 0 0, .bool false, .slice none 0 0]
  have hb0 := ((Below.refl w.heap.size w).alloc (Nat.le_refl _) (.cells #[.bool false, .slice none 0 0, .bool false, .slice none 0 0] 42)).alloc (by simp only [World.size_alloc]; omega) (.cells #[.bool false, .slice none 0 0, .bool false, .slice none 0 0] 42)
  simp only [World.size_alloc] at bx2
  generalize (w.alloc (.cells #[.bool false, .slice none 0 0, .bool false, .slice none 0 0] 42)).alloc (.cells #[.bool false, .slice none 0 0, .bool false, .slice none 0 0] 42) = W at *
  have hst : TotR w w.heap.size (w.heap.size + 1) (m 0) (s 0) none 0 0 none 0 0 none 0 0 none 0 0 W := by
    rw [M0.out, S0.out]
    exact ⟨hb0, bx1, CQ.zero, bx2, CQ.zero⟩
  have HST := Lib.hid hst
  clear bx1 bx2 hb0 hst M0 S0
  go_loopw [13] (fun t wr => ∃ (k : Nat) (A1 : Option Addr) (j c : Nat) (A2 : Option Addr) (j' c' : Nat) (B1 : Option Addr) (i d : Nat) (B2 : Option Addr) (i' d' : Nat), k ≤ n ∧ t = .int .i64 k ∧ Hid (TotR w w.heap.size (w.heap.size + 1) (m k) (s k) A1 j c A2 j' c' B1 i d B2 i' d' wr)) (fun t _ => n - (intOf t).toNat)
  case atStart => exact ⟨0, none, 0, 0, none, 0, 0, none, 0, 0, none, 0, 0, Nat.zero_le _, rfl, HST.out⟩
  case round =>
    clear HST
    obtain ⟨k, A1, j1, c1, A2, j2, c2, B1, i1, d1, B2, i2, d2, hk, rfl, hR⟩ := hrel
    by_cases hlt : k < n
    · obtain ⟨b, o, rfl, hb, hc⟩ := HX.out.2 (by omega)
      obtain ⟨A', n', c', hcell, hst⟩ := hc k hlt
      obtain ⟨b', o', rfl, hb', hq'⟩ := HQ.out.2 (by omega)
      obtain ⟨e0, e1, e2, e3⟩ := hq' k hlt
      have hki1 : (0 : Int) ≤ (k : Int) := by omega
      have hki2 : (k : Int) < (n : Int) := by omega
      have HC1 := Lib.hid (fun W (hW : Below w.heap.size w W) => HCH.out k hlt W hW A' n' c' (hst.below hW))
      have HM1 := Lib.hid (HMH.out k hlt)
      have HS1 := Lib.hid (HSH.out k hlt)
      have hcl := (hR.out.1.cell (p := ⟨b, o + k, none⟩) hb).trans hcell
      have hS0 : ∀ w', Below w.heap.size w w' → w'.cell? ⟨b', o' + k * 4, none⟩ = some (.bool (es[k]?.getD QE0).1) ∧ w'.cell? ⟨b', o' + k * 4 + 1, none⟩ = some (.slice (es[k]?.getD QE0).2.1.1 (es[k]?.getD QE0).2.1.2.1 (es[k]?.getD QE0).2.1.2.2) ∧ w'.cell? ⟨b', o' + k * 4 + 2, none⟩ = some (.bool (es[k]?.getD QE0).2.2.1) ∧ w'.cell? ⟨b', o' + k * 4 + 3, none⟩ = some (.slice (es[k]?.getD QE0).2.2.2.1 (es[k]?.getD QE0).2.2.2.2.1 (es[k]?.getD QE0).2.2.2.2.2) := fun w' hk => ⟨(hk.cell (p := ⟨b', _, none⟩) hb').trans e0, (hk.cell (p := ⟨b', _, none⟩) hb').trans e1, (hk.cell (p := ⟨b', _, none⟩) hb').trans e2, (hk.cell (p := ⟨b', _, none⟩) hb').trans e3⟩
      generalize es[k]?.getD QE0 = x at *
      generalize hmz : m (k + 1) = mz at *
      generalize hsz : s (k + 1) = sz at *
      have HMZ := Lib.hid hmz
      have HSZ := Lib.hid hsz
      clear hmz hsz
      generalize m k = mk at *
      generalize s k = sk at *
      generalize co k = ck at *
      have HS0 := Lib.hid hS0
      obtain ⟨u0, u1, u2, u3⟩ := hS0 wr hR.out.1
      have hne1 : w.heap.size + 1 ≠ w.heap.size := by omega
      have hne2 : w.heap.size ≠ w.heap.size + 1 := by omega
      clear hc hq' e0 e1 e2 e3 hcell hst hS0 HCH HMH HSH
      go_wp2_with fail
      refine (HC1.out wr hR.out.1).mono ?_
      rintro e w1 ⟨A3, j3, c3, A4, j4, c4, rfl, hcq, hb1⟩
      have hr1 := hR.out.call hb1
      have kx := (Kp.refl w1).alloc (.cells #[.bool (decide ((ck).num < 0)), .slice A3 j3 c3, .bool false, .slice A4 j4 c4] 42)
      have hr2 := hr1.call kx
      have bx := Blk.new w1 42 #[.bool (decide ((ck).num < 0)), .slice A3 j3 c3, .bool false, .slice A4 j4 c4]
      have hq2 := hcq.wq.below kx
      have HR2 := Lib.hid hr2
      have HQ2 := Lib.hid hq2
      obtain ⟨f0, f1, f2, f3, -, -, -, -⟩ := bx.four
      obtain ⟨p0, p1, p2, p3, -, -, -, -⟩ := hr2.2.1.four
      clear hcq hb1 hr1 kx hr2 bx hq2 hR HC1 hcl u0 u1 u2 u3
      go_wp2_with fail
      refine (HM1.out _ _ _ _ _ _ _ _ _ _ _ _ _ HR2.out.2.2.1.wq HQ2.out).mono ?_
      rintro e w2 ⟨A5, j5, c5, A6, j6, c6, rfl, hk5, hk6, hW5, hW6, hF5, hF6, hb2⟩
      have hp3 := (HR2.out.call hb2).put1 (m2 := mz) (Nat.le_refl _) hne1 ⟨hk5, hk6, hW5, hW6, hF5.mono HR2.out.1.size, hF6.mono HR2.out.1.size⟩
      have HP3 := Lib.hid hp3
      obtain ⟨z0, z1, z2, z3, z4, z5, z6, z7⟩ := (HR2.out.call hb2).2.1.four
      clear hk5 hk6 hW5 hW6 hF5 hF6 hb2 hp3 HR2 HQ2 HM1 f0 f1 f2 f3 p0 p1 p2 p3
      go_wp2_with fail
      clear z0 z1 z2 z3 z4 z5 z6 z7
      generalize ((((w2.setCell ⟨w.heap.size, 0, none⟩ (.bool (decide ((mz).num < 0)))).setCell ⟨w.heap.size, 1, none⟩ (.slice A5 j5 c5)).setCell ⟨w.heap.size, 2, none⟩ (.bool false)).setCell ⟨w.heap.size, 3, none⟩ (.slice A6 j6 c6)) = W3 at *
      have hr4 := HP3.out
      obtain ⟨q0, q1, q2, q3, -, -, -, -⟩ := hr4.2.2.2.1.four
      obtain ⟨u0, u1, u2, u3⟩ := HS0.out W3 hr4.1
      have s5 := Kp.refl W3
      have hbx := hr4.2.2.2.1
      clear hr4
      go_region_with (first
        | (go_at_call 57; refine (HS1.out _ (HP3.out.1.trans (Below.mono (Kp.drew s5) HP3.out.1.size)) _ _ _ _ _ _ (HP3.out.2.2.2.2.wq.below (Kp.drew s5))).mono ?_; rintro e v7 ⟨A7, j7, c7, B7, m7, d7, rfl, hk7, hm7, hW7, hV7, hF7, hG7, hb5⟩; have hp7 : Kp W3 v7 := Kp.trans (Kp.drew s5) hb5; obtain ⟨i0, i1, i2, i3, i4, i5, i6, i7⟩ := (Kp.blk hp7 hbx).four; clear hb5))
      all_goals
        have hp8 := (HP3.out.call hp7).put2 (s2 := sz) (by omega) hne2 ⟨hk7, hm7, hW7, hV7, hF7.mono HP3.out.1.size, hG7.mono HP3.out.1.size⟩
        generalize ((((v7.setCell ⟨w.heap.size + 1, 0, none⟩ (.bool (decide ((sz).num < 0)))).setCell ⟨w.heap.size + 1, 1, none⟩ (.slice A7 j7 c7)).setCell ⟨w.heap.size + 1, 2, none⟩ (.bool false)).setCell ⟨w.heap.size + 1, 3, none⟩ (.slice B7 m7 d7)) = W8 at *
        have HF := Lib.hid hp8
        clear hp8 i0 i1 i2 i3 i4 i5 i6 i7 hp7 s5 hk7 hm7 hW7 hV7 hF7 hG7 q0 q1 q2 q3 u0 u1 u2 u3 hbx HP3
        go_wp2
        go_roundw
        case rel => exact ⟨k + 1, A5, j5, c5, A6, j6, c6, A7, j7, c7, B7, m7, d7, by omega, by go_num, by rw [HMZ.out, HSZ.out]; exact HF.out⟩
        case measure => simp [intOf]; omega
    · obtain rfl : k = n := by omega
      have hr := hR.out
      obtain ⟨p0, p1, p2, p3, p4, p5, p6, p7⟩ := hr.2.1.four
      obtain ⟨q0, q1, q2, q3, q4, q5, q6, q7⟩ := hr.2.2.2.1.four
      have HR := Lib.hid hr
      clear hr hR HCH HMH HSH
      go_wp2_with fail
      go_region_with (fail)
      all_goals
        have hp9 := (HR.out.put1 (m2 := m k) (Nat.le_refl _) (by omega) HR.out.2.2.1).put2 (s2 := s k) (by omega) (by omega) (HR.out.2.2.2.2.put4 (o := 0) (a := decide ((m k).num < 0)) (b := false) (B := A1) (B' := A2) (j := j1) (d := c1) (j' := j2) (d' := c2) HR.out.2.1 NoInt.four)
        generalize ((((((((wr.setCell ⟨w.heap.size, 0, none⟩ (.bool (decide ((m k).num < 0)))).setCell ⟨w.heap.size, 1, none⟩ (.slice A1 j1 c1)).setCell ⟨w.heap.size, 2, none⟩ (.bool false)).setCell ⟨w.heap.size, 3, none⟩ (.slice A2 j2 c2)).setCell ⟨w.heap.size + 1, 0, none⟩ (.bool (decide ((s k).num < 0)))).setCell ⟨w.heap.size + 1, 1, none⟩ (.slice B1 i1 d1)).setCell ⟨w.heap.size + 1, 2, none⟩ (.bool false)).setCell ⟨w.heap.size + 1, 3, none⟩ (.slice B2 i2 d2)) = W8 at *
        obtain ⟨a0, a1, a2, a3, -, -, -, -⟩ := hp9.2.1.four
        obtain ⟨b0, b1, b2, b3, -, -, -, -⟩ := hp9.2.2.2.1.four
        have HF := Lib.hid hp9
        clear hp9 HR p0 p1 p2 p3 p4 p5 p6 p7 q0 q1 q2 q3 q4 q5 q6 q7
        go_wp2
        refine bodyPost_ret (v := .tuple #[.agg #[.bool (decide ((m k).num < 0)), .slice A1 j1 c1, .bool false, .slice A2 j2 c2], .agg #[.bool (decide ((s k).num < 0)), .slice B1 i1 d1, .bool false, .slice B2 i2 d2], .int .i64 0]) ?_ rfl ⟨A1, j1, c1, A2, j2, c2, B1, i1, d1, B2, i2, d2, rfl, HF.out.drew.2.2.1, HF.out.drew.2.2.2.2, HF.out.drew.1⟩
        simp [results, Tryz.results133, go_sem, a0, a1, a2, a3, b0, b1, b2, b3]

end Go.Proofs.YtnjpojpfiijlfaaGreat

namespace Go.Proofs.YtnjpojpfiijlfaaGreat
set_option linter.unusedVariables false
set_option linter.unusedSimpArgs false
open Go.RowKit
open Wd

set_option maxRecDepth 100000 in
set_option maxHeartbeats 8000000 in
theorem welfare_gen (A B G H : Option Addr) (n c k d gc hc : Nat) (os bs : List (List (Int × Int))) (w : World) (h : CsAt w A n os) (h' : CsAt w B k bs) (hck : ckB os bs = 0) (m m2 s : Rat)
    (HT1 : ∀ W, Below w.heap.size w W → Calls Tryz.prog 133 #[.slice A n c, .slice G n gc] W (TotP W m s))
    (HT2 : ∀ W, Below w.heap.size w W → Calls Tryz.prog 133 #[.slice B k d, .slice H k hc] W (TotP W m2 s))
    (HE : ∀ W (A A' : Option Addr) (j c j' c' : Nat) (B B' : Option Addr) (i d i' d' : Nat), WQ W s A j c A' j' c' → WQ W s B i d B' i' d' → Calls Tryz.prog 51 #[.agg #[.bool (decide ((s).num < 0)), .slice A j c, .bool false, .slice A' j' c'], .agg #[.bool (decide ((s).num < 0)), .slice B i d, .bool false, .slice B' i' d']] W fun e W' => e = .returned (.bool true) ∧ Below W.heap.size W W')
    (HS : ∀ W (A A' : Option Addr) (j c j' c' : Nat) (B B' : Option Addr) (i d i' d' : Nat), WQ W m2 A j c A' j' c' → WQ W m B i d B' i' d' → Calls Tryz.prog 72 #[.agg #[.bool (decide ((m2).num < 0)), .slice A j c, .bool false, .slice A' j' c'], .agg #[.bool (decide ((m).num < 0)), .slice B i d, .bool false, .slice B' i' d']] W (RetQ W (m2 - m))) :
    Calls Tryz.prog 73 #[.slice A n c, .slice B k d, .slice G n gc, .slice H k hc] w (CstPost w (m2 - m)) := by
  obtain ⟨l1, l2, k3, k4⟩ := ckB_iff.1 hck
  have T0 := Lib.hid (fun W (hW : Below w.heap.size w W) => ccheck_any A B n c k d os bs W (h.below hW) (h'.below hW) (fun l hl => by have := (chk_ok (k3 l hl)).2.1; omega) (fun l hl => by have := (chk_ok (k4 l hl)).2.1; omega))
  rw [hck] at T0
  have H1 := Lib.hid HT1
  have H2 := Lib.hid HT2
  have HEQ := Lib.hid HE
  have HSU := Lib.hid HS
  have hn1 : ((n : Int) != (n : Int)) = false := by simp
  have hn2 : ((k : Int) != (k : Int)) = false := by simp
  generalize m2 - m = df at *
  clear h h' hck HT1 HT2 HE HS l1 l2 k3 k4
  go_enter Tryz.func73, Tryz.ntmps73
  go_wp2_with fail
  have bx8 := Blk.new w 42 #[.bool false, .slice none 0 0, .bool false, .slice none 0 0]
  have hb0 : Below w.heap.size w (w.alloc (.cells #[.bool false, .slice none 0 0, .bool false, .slice none 0 0] 42)) := (Below.refl _ _).alloc (Nat.le_refl _) _
  generalize w.alloc (.cells #[.bool false, .slice none 0 0, .bool false, .slice none 0 0] 42) = W0 at *
  refine (T0.out W0 hb0).mono ?_
  rintro e w1 ⟨rfl, hb1⟩
  have HB1 := Lib.hid (hb0.trans (hb1.mono hb0.size))
  have HX8 := Lib.hid (bx8.below hb1 bx8.lt)
  clear bx8 hb0 hb1 T0
  go_wp2_with fail
  refine (H1.out w1 HB1.out).mono ?_
  rintro e w2 ⟨A1, j1, c1, A2, j2, c2, B1, i1, d1, B2, i2, d2, rfl, hc1, hc2, hb2⟩
  have HB2 := Lib.hid (HB1.out.trans (hb2.mono HB1.out.size))
  have HX8b := Lib.hid (HX8.out.below hb2 HX8.out.lt)
  have HQ1 := Lib.hid (And.intro hc1.wq hc2.wq)
  clear hc1 hc2 hb2 HB1 H1 HX8
  go_wp2_with fail
  have b11 := (Blk.new w2 42 #[.bool (decide ((m).num < 0)), .slice A1 j1 c1, .bool false, .slice A2 j2 c2]).alloc (.cells #[.bool (decide ((s).num < 0)), .slice B1 i1 d1, .bool false, .slice B2 i2 d2] 42)
  have b12 := Blk.new (w2.alloc (.cells #[.bool (decide ((m).num < 0)), .slice A1 j1 c1, .bool false, .slice A2 j2 c2] 42)) 42 #[.bool (decide ((s).num < 0)), .slice B1 i1 d1, .bool false, .slice B2 i2 d2]
  simp only [World.size_alloc] at b12
  have k2 := ((Kp.refl w2).alloc (.cells #[.bool (decide ((m).num < 0)), .slice A1 j1 c1, .bool false, .slice A2 j2 c2] 42)).alloc (.cells #[.bool (decide ((s).num < 0)), .slice B1 i1 d1, .bool false, .slice B2 i2 d2] 42)
  generalize (w2.alloc (.cells #[.bool (decide ((m).num < 0)), .slice A1 j1 c1, .bool false, .slice A2 j2 c2] 42)).alloc (.cells #[.bool (decide ((s).num < 0)), .slice B1 i1 d1, .bool false, .slice B2 i2 d2] 42) = W2 at *
  generalize w2.heap.size = g11 at *
  have HB3 := Lib.hid (HB2.out.trans (Below.mono k2 HB2.out.size))
  have HX8c := Lib.hid (Kp.blk k2 HX8b.out)
  have HQ2 := Lib.hid (And.intro (HQ1.out.1.below k2) (HQ1.out.2.below k2))
  clear k2 HB2 HX8b HQ1
  refine (H2.out W2 HB3.out).mono ?_
  rintro e w3 ⟨A3, j3, c3, A4, j4, c4, B3, i3, d3, B4, i4, d4, rfl, hc3, hc4, hb3⟩
  have HB4 := Lib.hid (HB3.out.trans (hb3.mono HB3.out.size))
  have HX8d := Lib.hid (HX8c.out.below hb3 HX8c.out.lt)
  have hb11 := b11.below hb3 b11.lt
  have hb12 := b12.below hb3 b12.lt
  have HQ3 := Lib.hid (And.intro (HQ2.out.1.below hb3) (And.intro (HQ2.out.2.below hb3) (And.intro hc3.wq hc4.wq)))
  have k3 := ((Kp.refl w3).alloc (.cells #[.bool (decide ((m2).num < 0)), .slice A3 j3 c3, .bool false, .slice A4 j4 c4] 42)).alloc (.cells #[.bool (decide ((s).num < 0)), .slice B3 i3 d3, .bool false, .slice B4 i4 d4] 42)
  have b14 := (Blk.new w3 42 #[.bool (decide ((m2).num < 0)), .slice A3 j3 c3, .bool false, .slice A4 j4 c4]).alloc (.cells #[.bool (decide ((s).num < 0)), .slice B3 i3 d3, .bool false, .slice B4 i4 d4] 42)
  have b15 := Blk.new (w3.alloc (.cells #[.bool (decide ((m2).num < 0)), .slice A3 j3 c3, .bool false, .slice A4 j4 c4] 42)) 42 #[.bool (decide ((s).num < 0)), .slice B3 i3 d3, .bool false, .slice B4 i4 d4]
  simp only [World.size_alloc] at b15
  have hb11 := Kp.blk k3 hb11
  have hb12 := Kp.blk k3 hb12
  obtain ⟨x0, x1, x2, x3, -, -, -, -⟩ := hb12.four
  obtain ⟨y0, y1, y2, y3, -, -, -, -⟩ := b15.four
  have HB5 := Lib.hid (HB4.out.trans (Below.mono k3 HB4.out.size))
  have HX8e := Lib.hid (Kp.blk k3 HX8d.out)
  have HQ4 := Lib.hid (And.intro (HQ3.out.1.below k3) (And.intro (HQ3.out.2.1.below k3) (And.intro (HQ3.out.2.2.1.below k3) (HQ3.out.2.2.2.below k3))))
  have HBB := Lib.hid (And.intro hb11 b14)
  clear k3 HB4 HX8d HQ3 hc3 hc4 hb3 HB3 HX8c b11 b12 HQ2 H2 hb11 hb12 b14 b15
  go_wp2_with fail
  refine (HEQ.out _ _ _ _ _ _ _ _ _ _ _ _ _ HQ4.out.2.1 HQ4.out.2.2.2).mono ?_
  rintro e w4 ⟨rfl, hb4⟩
  have HB6 := Lib.hid (HB5.out.trans (hb4.mono HB5.out.size))
  have HX8f := Lib.hid (HX8e.out.below hb4 HX8e.out.lt)
  have hb11 := HBB.out.1.below hb4 HBB.out.1.lt
  have hb14 := HBB.out.2.below hb4 HBB.out.2.lt
  obtain ⟨z0, z1, z2, z3, -, -, -, -⟩ := hb11.four
  obtain ⟨v0, v1, v2, v3, -, -, -, -⟩ := hb14.four
  have HQ5 := Lib.hid (And.intro (HQ4.out.1.below hb4) (HQ4.out.2.2.1.below hb4))
  clear hb4 HB5 HX8e HBB HQ4 HEQ x0 x1 x2 x3 y0 y1 y2 y3 hb11 hb14
  go_wp2_with fail
  refine (HSU.out _ _ _ _ _ _ _ _ _ _ _ _ _ HQ5.out.2 HQ5.out.1).mono ?_
  rintro e w5 ⟨A5, k5, c5, A6, k6, c6, rfl, hk5, hk6, hW5, hW6, hF5, hF6, hb5⟩
  have hx := HX8f.out.below hb5 HX8f.out.lt
  have hB := HB6.out.trans (hb5.mono HB6.out.size)
  obtain ⟨a0, a1, a2, a3, a4, a5, a6, a7⟩ := hx.four
  have hcq : CQ w.heap.size w5 df A5 k5 c5 A6 k6 c6 := ⟨hk5, hk6, hW5, hW6, hF5.mono HB6.out.size, hF6.mono HB6.out.size⟩
  have e8 : (((w5.setCell ⟨w.heap.size, 0, none⟩ (.bool (decide (df.num < 0)))).setCell ⟨w.heap.size, 1, none⟩ (.slice A5 k5 c5)).setCell ⟨w.heap.size, 2, none⟩ (.bool false)).setCell ⟨w.heap.size, 3, none⟩ (.slice A6 k6 c6) = qst w5 w.heap.size 0 (decide (df.num < 0)) false A5 A6 k5 c5 k6 c6 := rfl
  have hfin : CstPost w df (.returned (.tuple #[.agg #[.bool (decide ((df).num < 0)), .slice A5 k5 c5, .bool false, .slice A6 k6 c6], .int .i64 0])) (qst w5 w.heap.size 0 (decide (df.num < 0)) false A5 A6 k5 c5 k6 c6) :=
    ⟨A5, k5, c5, A6, k6, c6, rfl, hcq.put4 hx NoInt.four, below_qst hB (Nat.le_refl _)⟩
  have hb8 : Blk (qst w5 w.heap.size 0 (decide (df.num < 0)) false A5 A6 k5 c5 k6 c6) w.heap.size _ _ := hx.put4 (o := 0)
  obtain ⟨d0, d1, d2, d3, -⟩ := Blk.four hb8
  have HF := Lib.hid hfin
  have HE8 := Lib.hid e8
  clear hfin hb8 e8 hcq hx hB hk5 hk6 hW5 hW6 hF5 hF6 hb5 HX8f HB6 HQ5 HSU z0 z1 z2 z3 v0 v1 v2 v3
  go_wp2
  rw [HE8.out]
  refine bodyPost_ret (v := .tuple #[.agg #[.bool (decide ((df).num < 0)), .slice A5 k5 c5, .bool false, .slice A6 k6 c6], .int .i64 0]) ?_ rfl HF.out
  simp [results, Tryz.results73, go_sem, d0, d1, d2, d3]

end Go.Proofs.YtnjpojpfiijlfaaGreat

namespace Go.Proofs.YtnjpojpfiijlfaaGreat
set_option linter.unusedVariables false
set_option linter.unusedSimpArgs false
open Go.RowKit
open Wd

/-- A row of canonical rationals as its raw entries. -/
theorem QsAt.raw {w : World} {A : Option Addr} {n : Nat} {ps : List Rat} (h : QsAt w A n ps) : ∃ es : List QE, QsAtR w A n es ∧ ∀ j, j < n → ∃ A1 k c A2 k' c', es[j]?.getD QE0 = (decide ((ps[j]?.getD 0).num < 0), (A1, k, c), false, (A2, k', c')) ∧ WQ w (ps[j]?.getD 0) A1 k c A2 k' c' := by
  by_cases hn : n = 0
  · subst hn
    exact ⟨[], ⟨rfl, fun h0 => absurd rfl h0⟩, fun j hj => absurd hj (by omega)⟩
  · obtain ⟨b, o, rfl, hb, hc⟩ := h.2 hn
    have key : ∀ m, m ≤ n → ∃ es : List QE, es.length = m ∧ ∀ j, j < m → (w.cell? ⟨b, o + j * 4, none⟩ = some (.bool (es[j]?.getD QE0).1) ∧ w.cell? ⟨b, o + j * 4 + 1, none⟩ = some (.slice (es[j]?.getD QE0).2.1.1 (es[j]?.getD QE0).2.1.2.1 (es[j]?.getD QE0).2.1.2.2) ∧ w.cell? ⟨b, o + j * 4 + 2, none⟩ = some (.bool (es[j]?.getD QE0).2.2.1) ∧ w.cell? ⟨b, o + j * 4 + 3, none⟩ = some (.slice (es[j]?.getD QE0).2.2.2.1 (es[j]?.getD QE0).2.2.2.2.1 (es[j]?.getD QE0).2.2.2.2.2)) ∧
        ∃ A1 k c A2 k' c', es[j]?.getD QE0 = (decide ((ps[j]?.getD 0).num < 0), (A1, k, c), false, (A2, k', c')) ∧ WQ w (ps[j]?.getD 0) A1 k c A2 k' c' := by
      intro m
      induction m with
      | zero => intro _; exact ⟨[], rfl, fun j hj => absurd hj (by omega)⟩
      | succ m ih =>
        intro hm
        obtain ⟨es, hl, he⟩ := ih (by omega)
        obtain ⟨A1, k, c, A2, k', c', e0, e1, e2, e3, hw⟩ := hc m (by omega)
        refine ⟨es ++ [(decide ((ps[m]?.getD 0).num < 0), (A1, k, c), false, (A2, k', c'))], by simp [hl], fun j hj => ?_⟩
        by_cases hjm : j < m
        · rw [List.getElem?_append_left (by omega)]
          exact he j hjm
        · obtain rfl : j = m := by omega
          rw [List.getElem?_append_right (by omega), hl, Nat.sub_self]
          exact ⟨⟨e0, e1, e2, e3⟩, A1, k, c, A2, k', c', rfl, hw⟩
    obtain ⟨es, hl, he⟩ := key n (Nat.le_refl _)
    exact ⟨es, ⟨hl, fun _ => ⟨b, o, rfl, hb, fun j hj => (he j hj).1⟩⟩, fun j hj => (he j hj).2⟩

theorem qaddJ (x y : Int) (hx : x.natAbs < 500000000000000000) (hy : y.natAbs < 500000000000000000) {W : World} {B B' B2 B2' : Option Addr} {bk bc bk' bc' j d j' d' : Nat} (h1 : WQ W (x : Rat) B bk bc B' bk' bc') (h2 : WQ W (y : Rat) B2 j d B2' j' d') :
    Calls Tryz.prog 57 #[.agg #[.bool (decide ((((x : Int) : Rat)).num < 0)), .slice B bk bc, .bool false, .slice B' bk' bc'], .agg #[.bool (decide ((((y : Int) : Rat)).num < 0)), .slice B2 j d, .bool false, .slice B2' j' d']] W (RetQ W ((x + y : Int) : Rat)) := by
  have := qadd_any 4611686018427387904 1152921504606846976 2 wok_small (by omega) (by omega) _ false _ false B B' B2 B2' bk bc bk' bc' j d j' d' (x : Rat) (y : Rat) W (h1.at (by rw [Rat.num_intCast]; omega) (by rw [Rat.den_intCast]; omega)) (h2.at (by rw [Rat.num_intCast]; omega) (by rw [Rat.den_intCast]; omega))
  rwa [← Rat.intCast_add] at this
theorem qeqJ (x : Int) (hx : x.natAbs < 500000000000000000) {W : World} {B B' B2 B2' : Option Addr} {bk bc bk' bc' j d j' d' : Nat} (h1 : WQ W (x : Rat) B bk bc B' bk' bc') (h2 : WQ W (x : Rat) B2 j d B2' j' d') :
    Calls Tryz.prog 51 #[.agg #[.bool (decide ((((x : Int) : Rat)).num < 0)), .slice B bk bc, .bool false, .slice B' bk' bc'], .agg #[.bool (decide ((((x : Int) : Rat)).num < 0)), .slice B2 j d, .bool false, .slice B2' j' d']] W fun e W' => e = .returned (.bool true) ∧ Below W.heap.size W W' := by
  have := qequal_any _ false _ false B B' B2 B2' bk bc bk' bc' j d j' d' (x : Rat) (x : Rat) W (h1.at (by rw [Rat.num_intCast]; omega) (by rw [Rat.den_intCast]; omega)) (h2.at (by rw [Rat.num_intCast]; omega) (by rw [Rat.den_intCast]; omega))
  rwa [decide_eq_true rfl] at this
theorem curve_good {up : Bool} {l : List (Int × Int)} (h : chk up l = 0) : curveE l = 0 := by
  cases up
  · unfold curveE; rw [if_pos h]
  · unfold curveE
    split
    · rfl
    · exact h
theorem qsum_aT (l : List (Int × Int)) : qsum l = aT l := by
  unfold qsum aT
  induction l with
  | nil => rfl
  | cons s l ih => rw [List.map_cons, List.sum_cons, sumI, ih]
theorem costs_bd {up : Bool} {ls : List (List (Int × Int))} (hk : ∀ l ∈ ls, chk up l = 0) {xs : List Int} (hx : ∀ i, i < ls.length → 0 ≤ xs[i]?.getD 0 ∧ xs[i]?.getD 0 ≤ qsum (ls[i]?.getD [])) : ∀ k, k ≤ ls.length → (costs ls xs k).natAbs ≤ 9000000000000 * k
  | 0, _ => by simp [costs]
  | k + 1, h => by
    have ih := costs_bd hk hx k (by omega)
    obtain ⟨h1, h2⟩ := hx k (by omega)
    have := cst_bd (curve_good (hk _ (getD_mem (d := []) (show k < ls.length by omega)))) h1 h2
    rw [costs, costI_all]
    omega
theorem sums_bd {up : Bool} {ls : List (List (Int × Int))} (hk : ∀ l ∈ ls, chk up l = 0) {xs : List Int} (hl : xs.length = ls.length) (hx : ∀ i, i < ls.length → 0 ≤ xs[i]?.getD 0 ∧ xs[i]?.getD 0 ≤ qsum (ls[i]?.getD [])) : ∀ k, k ≤ ls.length → 0 ≤ sumI (xs.take k) ∧ sumI (xs.take k) ≤ 3000000 * k
  | 0, _ => by simp [sumI]
  | k + 1, h => by
    have ih := sums_bd hk hl hx k (by omega)
    obtain ⟨h1, h2⟩ := hx k (by omega)
    obtain ⟨_, h3, h4⟩ := curve_ok (curve_good (hk _ (getD_mem (d := []) (show k < ls.length by omega))))
    have h5 := qsum_bd _ h4
    rw [take_last (by omega)]
    omega

set_option maxHeartbeats 2000000 in
/-- Money and quantity of one side, whole quantities. -/
theorem total_whole (up : Bool) (A B : Option Addr) (n c d : Nat) (ls : List (List (Int × Int))) (xs : List Int) (w : World) (h : CsAt w A n ls) (hq : QsAt w B n (castR xs)) (hn : n ≤ 1000) (hk : ∀ l ∈ ls, chk up l = 0) (hx : ∀ i, i < n → 0 ≤ xs[i]?.getD 0 ∧ xs[i]?.getD 0 ≤ qsum (ls[i]?.getD [])) :
    Calls Tryz.prog 133 #[.slice A n c, .slice B n d] w (TotP w ((costs ls xs n : Int) : Rat) ((sumI xs : Int) : Rat)) := by
  have hln := h.1
  have hxl : xs.length = n := by have := hq.1; simpa [castR] using this
  subst hln
  have hcb := costs_bd hk hx
  have hsb := sums_bd hk hxl hx
  obtain ⟨es, hr, he⟩ := hq.raw
  have := total_gen A B ls.length c d ls es w h hr hn (fun k => ((costI (ls[k]?.getD []) (xs[k]?.getD 0) (ls[k]?.getD []).length : Int) : Rat)) (fun k => ((costs ls xs k : Int) : Rat)) (fun k => ((sumI (xs.take k) : Int) : Rat)) (by simp [costs]) (by simp [sumI])
    (fun k hkn W hW A' n' c' hst => by
      obtain ⟨A1, j, cc, A2, j', cc', e, hw⟩ := he k hkn
      obtain ⟨h1, h2⟩ := hx k hkn
      rw [castR_get] at e hw
      have hw' := hw.below hW
      have hg := curve_good (hk _ (getD_mem (d := []) hkn))
      have := scost_whole A' n' c' (ls[k]?.getD []) A1 A2 j cc j' cc' (xs[k]?.getD 0) W hst hw'.1 hw'.2.1 hw'.2.2.1 hw'.2.2.2 hg h1 h2
      rw [← costI_all] at this
      rw [e]
      exact this)
    (fun k hkn W A A' j c j' c' B B' i d i' d' h1 h2 => by
      have b1 := hcb k (by omega)
      obtain ⟨g1, g2⟩ := hx k hkn
      have b2 := cst_bd (curve_good (hk _ (getD_mem (d := []) hkn))) g1 g2
      rw [← costI_all] at b2
      exact qaddJ _ _ (by omega) (by omega) h1 h2)
    (fun k hkn W hW A A' j c j' c' h1 => by
      obtain ⟨A1, j1, cc, A2, j2, cc', e, hw⟩ := he k hkn
      rw [castR_get] at e hw
      have b1 := hsb k (by omega)
      obtain ⟨g1, g2⟩ := hx k hkn
      obtain ⟨_, h3, h4⟩ := curve_ok (curve_good (hk _ (getD_mem (d := []) hkn)))
      have h5 := qsum_bd _ h4
      have := qaddJ _ _ (by omega) (by omega) h1 (hw.below hW)
      rw [← take_last (by omega)] at this
      rw [e]
      exact this)
  rw [show xs.take ls.length = xs by rw [← hxl]; exact List.take_length] at this
  exact this

theorem welfare_whole (A B G H : Option Addr) (n c k d gc hc : Nat) (os bs : List (List (Int × Int))) (xs ys : List Int) (w : World) (h : CsAt w A n os) (h' : CsAt w B k bs) (hck : ckB os bs = 0) (hG : QsAt w G n (castR xs)) (hH : QsAt w H k (castR ys))
    (hx : ∀ i, i < n → 0 ≤ xs[i]?.getD 0 ∧ xs[i]?.getD 0 ≤ qsum (os[i]?.getD [])) (hy : ∀ i, i < k → 0 ≤ ys[i]?.getD 0 ∧ ys[i]?.getD 0 ≤ qsum (bs[i]?.getD [])) (hs : sumI xs = sumI ys) :
    Calls Tryz.prog 73 #[.slice A n c, .slice B k d, .slice G n gc, .slice H k hc] w (CstPost w ((costs bs ys k - costs os xs n : Int) : Rat)) := by
  obtain ⟨l1, l2, k3, k4⟩ := ckB_iff.1 hck
  have hn := h.1
  have hm := h'.1
  have c1 := costs_bd k3 (xs := xs) (by rw [hn]; exact hx) n (by omega)
  have c2 := costs_bd k4 (xs := ys) (by rw [hm]; exact hy) k (by omega)
  have hxl : xs.length = n := by have := hG.1; simpa [castR] using this
  have s1 := sums_bd k3 (xs := xs) (by omega) (by rw [hn]; exact hx) n (by omega)
  rw [show xs.take n = xs by rw [← hxl]; exact List.take_length] at s1
  rw [Rat.intCast_sub]
  exact welfare_gen A B G H n c k d gc hc os bs w h h' hck _ _ ((sumI xs : Int) : Rat)
    (fun W hW => (total_whole true A G n c gc os xs W (h.below hW) (hG.below hW) (by omega) k3 hx))
    (fun W hW => by rw [hs]; exact total_whole false B H k d hc bs ys W (h'.below hW) (hH.below hW) (by omega) k4 hy)
    (fun W A A' j c j' c' B B' i d i' d' h1 h2 => qeqJ _ (by omega) h1 h2)
    (fun W A A' j c j' c' B B' i d i' d' h1 h2 => by rw [← Rat.intCast_sub]; exact qsubJ _ _ (by omega) (by omega) h1 h2)

end Go.Proofs.YtnjpojpfiijlfaaGreat
