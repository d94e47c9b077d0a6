/-
Cost of package step at a valid curve and a quantity that fits it. Plain law of package energy: a row that stands at a threshold of price and unit is the least of its sum, by cost and then by order. Cost of package step at whole quantities. No statement of the seat is proved here; no conditions beyond those of each theorem.
-/
import Derived.Test.YtjajigkacccdgaaGreatTdBF
import Derived.Deep.DrawnRows
namespace Go.Proofs.YtjajigkacccdgaaGreat
set_option linter.unusedVariables false
set_option linter.unusedSimpArgs false
open Go.RowKit
open Wd
attribute [local go_sem ↓] Go.wp_at_zero Go.wp_at_succ

/-- The canonical rational q lies in two slices, in memory from block base on. -/
def CQ (base : Nat) (w : World) (q : Rat) (A : Option Addr) (k c : Nat) (A' : Option Addr) (k' c' : Nat) : Prop :=
 k ≤ c ∧ k' ≤ c' ∧ Wat w A k (digs q.num.natAbs) ∧ Wat w A' k' (denW q.den) ∧ Fresh base w A k ∧ Fresh base w A' k'
section
variable {base base' : Nat} {w w' : World} {q : Rat} {A A' : Option Addr} {k c k' c' : Nat}
theorem CQ.below (h : CQ base w q A k c A' k' c') (hb : Below w.heap.size w w') : CQ base w' q A k c A' k' c' := by
 obtain ⟨h1, h2, h3, h4, h5, h6⟩ := h
 exact ⟨h1, h2, h3.below hb, h4.below hb, h5.keep h3 hb, h6.keep h4 hb⟩
theorem CQ.mono (h : CQ base w q A k c A' k' c') (hb : base' ≤ base) : CQ base' w q A k c A' k' c' := by
 obtain ⟨h1, h2, h3, h4, h5, h6⟩ := h
 exact ⟨h1, h2, h3, h4, h5.mono hb, h6.mono hb⟩
theorem CQ.put4 {g o : Nat} {a b : Bool} {B B' : Option Addr} {j d j' d' : Nat} {t : TypeId} {cs : Array Value} (h : CQ base w q A k c A' k' c') (hb : Blk w g t cs) (hn : NoInt cs) : CQ base (qst w g o a b B B' j d j' d') q A k c A' k' c' := by
 obtain ⟨h1, h2, h3, h4, h5, h6⟩ := h
 exact ⟨h1, h2, h3.put4 hb hn, h4.put4 hb hn, (((h5.set _ _).set _ _).set _ _).set _ _, (((h6.set _ _).set _ _).set _ _).set _ _⟩
theorem CQ.zero : CQ base w 0 none 0 0 none 0 0 := by
 refine ⟨Nat.le_refl _, Nat.le_refl _, ?_, Wat.nil, Fresh.nil, Fresh.nil⟩
 show Wat _ none 0 (digs 0); rw [digs_zero]; exact Wat.nil
theorem CQ.at {M Nn Nd : Nat} (h : CQ base w q A k c A' k' c') (HO : WOK M) (hnm : Nn ≤ M) (hdm : Nd ≤ M) (hn : q.num.natAbs < Nn) (hd : q.den < Nd) : QAt Nn Nd w (decide (q.num < 0)) A k c false A' k' c' q :=
 qat_len HO hnm hdm h.1 h.2.1 h.2.2.1 h.2.2.2.1 hn hd
end

/-- The cost of what is taken from the first k steps. -/
def costAt (l : List (Int × Int)) (q : Rat) : Nat → Rat
 | 0 => 0
 | k + 1 => costAt l q k + partAt l q k * (((l[k]?.getD (0, 0)).2 : Int) : Rat)

/-- The sizes that Cost comes to fit the bounds of its arithmetic. -/
structure CostOK (M Nn Nd Cn Cd : Nat) (l : List (Int × Int)) (q : Rat) : Prop where
 hn : 3000000 < Nn
 hn2 : Nn ≤ M
 hd : 1 < Nd
 nn : Nn * Nn ≤ M
 dd : Nd * Nd ≤ M
 nd : 2 * (Nn * Nd) ≤ M
 nm : Nn ≤ M
 dm : Nd ≤ M
 cnd : 2 * (Cn * Cd) ≤ M
 cdd : Cd * Cd ≤ M
 cn : Cn ≤ M
 cd : Cd ≤ M
 sum : ∀ k, k ≤ l.length → (costAt l q k).num.natAbs < Cn ∧ (costAt l q k).den < Cd
 prod : ∀ k, k < l.length → (partAt l q k * (((l[k]?.getD (0, 0)).2 : Int) : Rat)).num.natAbs < Cn ∧ (partAt l q k * (((l[k]?.getD (0, 0)).2 : Int) : Rat)).den < Cd

def CstR (w : World) (g gr n : Nat) (l : List (Int × Int)) (q : Rat) (ps : List Rat) (k : Nat) (A : Option Addr) (j c : Nat) (A' : Option Addr) (j' c' : Nat) (wr : World) : Prop :=
 Below w.heap.size w wr ∧ Blk wr g 42 #[.bool (decide ((costAt l q k).num < 0)), .slice A j c, .bool false, .slice A' j' c'] ∧ CQ w.heap.size wr (costAt l q k) A j c A' j' c' ∧ QRow wr gr n ps

def CstPost (w : World) (r : Rat) (e : Ending) (w' : World) : Prop :=
 ∃ A k c A' k' c', e = .returned (.tuple #[.agg #[.bool (decide (r.num < 0)), .slice A k c, .bool false, .slice A' k' c'], .int .i64 0]) ∧ CQ w.heap.size w' r A k c A' k' c' ∧ Below w.heap.size w w'

set_option maxRecDepth 100000 in
set_option maxHeartbeats 16000000 in
theorem scost_ok (M Nn Nd Cn Cd : Nat) (HO : WOK M)
  (A : Option Addr) (n c : Nat) (l : List (Int × Int)) (an an' : Bool) (aA aA' : Option Addr) (ak ac ak' ac' : Nat) (q : Rat) (w : World) (h : StAt w A n l) (hq : QAt Nn Nd w an aA ak ac an' aA' ak' ac' q)
  (he : curveE l = 0) (h0 : 0 ≤ q) (h1 : q ≤ (qsum l : Int)) (HC : CostOK M Nn Nd Cn Cd l q) :
  Calls Tryz.prog 41 #[.slice A n c, .agg #[.bool an, .slice aA ak ac, .bool an', .slice aA' ak' ac']] w (CstPost w (costAt l q n)) := by
 obtain ⟨hn0, hn3, hok⟩ := curve_ok he
 have hln := h.1
 have hn : n ≤ 3 := by omega
 have T := fun W (hW : Below w.heap.size w W) => salloc_ok M Nn Nd HO HC.nd HC.dd HC.nm HC.dm HC.hn HC.hn2 HC.hd A n c l an an' aA aA' ak ac ak' ac' q W (h.below hW) (hq.below hW) he h0 h1
 have HT := Lib.hid T
 have HB := Lib.hid (hq.bd)
 have HST := Lib.hid h
 have HOK := Lib.hid hok
 have HLN := Lib.hid hln
 have hn1 : n ≠ 0 := by omega
 clear hn0 h hq he h1 hn3 hok hln T
 go_enter Tryz.func41, Tryz.ntmps41
 go_wp2_with fail
 obtain ⟨hB0, hB1, hBW, hsz⟩ := pre2 w 42 #[.bool an, .slice aA ak ac, .bool an', .slice aA' ak' ac'] 42 #[.bool false, .slice none 0 0, .bool false, .slice none 0 0]
 generalize (w.alloc (.cells #[.bool an, .slice aA ak ac, .bool an', .slice aA' ak' ac'] 42)).alloc (.cells #[.bool false, .slice none 0 0, .bool false, .slice none 0 0] 42) = W at *
 have HSZ := Lib.hid hsz
 clear hsz
 refine (HT.out W hBW).mono ?_
 rintro e w1 ⟨gr, ps, rfl, hRow, hPs, hgr, hb1⟩
 have hB0 := hB0.below hb1 hB0.lt
 have hB1 := hB1.below hb1 hB1.lt
 have hgs : w.heap.size + 1 + 1 ≤ W.heap.size := by have := HSZ.out; omega
 have hBw := hBW.trans (hb1.mono hBW.size)
 have hz1 := hb1.size
 have hrow := Lib.hid (hRow.below ((Below.refl _ w1).alloc (Nat.le_refl _) (.cells #[.bool false, .slice none 0 0, .bool false, .slice none 0 0] 42)))
 have HPS := Lib.hid hPs
 have hB1 := hB1.alloc (.cells #[.bool false, .slice none 0 0, .bool false, .slice none 0 0] 42)
 have hg := Blk.new w1 42 #[.bool false, .slice none 0 0, .bool false, .slice none 0 0]
 have hgl : gr < w1.heap.size := by obtain ⟨_, cs, hbk, _⟩ := hRow; exact hbk.lt
 have hBw2 := hBw.alloc hBw.size (.cells #[.bool false, .slice none 0 0, .bool false, .slice none 0 0] 42)
 have hst : CstR w w1.heap.size gr n l q ps 0 none 0 0 none 0 0 (w1.alloc (.cells #[.bool false, .slice none 0 0, .bool false, .slice none 0 0] 42)) := ⟨hBw2, hg, CQ.zero, hrow.out⟩
 clear hPs HT hBW hb1 HSZ hBw hRow hB0 hBw2 hg hrow
 go_wp2_with fail
 generalize w1.alloc (.cells #[.bool false, .slice none 0 0, .bool false, .slice none 0 0] 42) = W0 at *
 generalize w1.heap.size = g at *
 have HST0 := Lib.hid hst
 have HB1 := Lib.hid hB1
 clear hst hB1
 go_loopw [23] (fun t wr => ∃ (k : Nat) (A : Option Addr) (j c : Nat) (A' : Option Addr) (j' c' : Nat), k ≤ n ∧ t = .int .i64 k ∧ Hid (CstR w g gr n l q ps k A j c A' j' c' wr) ∧ Hid (Blk wr (w.heap.size + 1) 42 #[.bool false, .slice none 0 0, .bool false, .slice none 0 0])) (fun t _ => n - (intOf t).toNat)
 case atStart => exact ⟨0, none, 0, 0, none, 0, 0, Nat.zero_le _, rfl, HST0.out, HB1.out⟩
 case round =>
  clear HST0 HB1
  obtain ⟨k, B, bk, bc, B', bk', bc', hk, rfl, hR, hRB⟩ := hrel
  by_cases hlt : k < n
  ·obtain ⟨hB, hBx, hCx, hRow⟩ := hR.out
   obtain ⟨b, o, rfl, hb, hcell⟩ := HST.out.2.2 hn1
   obtain ⟨ck, ck'⟩ := hcell k hlt
   have hck := (hB.cell (p := ⟨b, o + k * 2, none⟩) hb).trans ck
   have hck' := (hB.cell (p := ⟨b, o + k * 2 + 1, none⟩) hb).trans ck'
   have hlen : k < l.length := by have := HLN.out; omega
   have hmem : (l[k]?.getD (0, 0)) ∈ l := by rw [List.getElem?_eq_getElem hlen]; exact List.getElem_mem _
   have hbad := HOK.out _ hmem
   unfold Bad at hbad
   have hr1 : costAt l q (k + 1) = costAt l q k + partAt l q k * (((l[k]?.getD (0, 0)).2 : Int) : Rat) := rfl
   have hpb := partAt_bd (l := l) (q := q) h0 HOK.out HB.out.1 HB.out.2 HC.hn HC.hd hlen
   have hs1 := HC.sum k (by omega)
   have hs2 := HC.sum (k + 1) hlen
   have hs3 := HC.prod k hlen
   have hps := HPS.out k hlt
   have FI := fun W => qfromInt64_any (l[k]?.getD (0, 0)).2 W (by omega) (by omega)
   have hpn : (((l[k]?.getD (0, 0)).2 : Int) : Rat).num.natAbs < Nn := by have := HC.hn; rw [Rat.num_intCast]; omega
   have hpd : (((l[k]?.getD (0, 0)).2 : Int) : Rat).den < Nd := by rw [Rat.den_intCast]; exact HC.hd
   have HMUL := fun (W : World) (B1 B1' B2 B2' : Option Addr) (j1 d1 j1' d1' j2 d2 j2' d2' : Nat) (h1 : j1 ≤ d1) (h2 : j1' ≤ d1') (h3 : Wat W B1 j1 (digs (partAt l q k).num.natAbs)) (h4 : Wat W B1' j1' (denW (partAt l q k).den)) (h5 : j2 ≤ d2) (h6 : j2' ≤ d2') (h7 : Wat W B2 j2 (digs (((l[k]?.getD (0, 0)).2 : Int) : Rat).num.natAbs)) (h8 : Wat W B2' j2' (denW (((l[k]?.getD (0, 0)).2 : Int) : Rat).den)) =>
    qmulq_any M Nn Nd HO HC.nn HC.dd _ false _ false B1 B1' B2 B2' j1 d1 j1' d1' j2 d2 j2' d2' (partAt l q k) (((l[k]?.getD (0, 0)).2 : Int) : Rat) W (qat_len HO HC.nm HC.dm h1 h2 h3 h4 hpb.1 hpb.2) (qat_len HO HC.nm HC.dm h5 h6 h7 h8 hpn hpd)
   have HADD := fun (W : World) (B2 B2' : Option Addr) (j2 d2 j2' d2' : Nat) (hx : CQ w.heap.size W (costAt l q k) B bk bc B' bk' bc') (h5 : j2 ≤ d2) (h6 : j2' ≤ d2') (h7 : Wat W B2 j2 (digs (partAt l q k * (((l[k]?.getD (0, 0)).2 : Int) : Rat)).num.natAbs)) (h8 : Wat W B2' j2' (denW (partAt l q k * (((l[k]?.getD (0, 0)).2 : Int) : Rat)).den)) =>
    qadd_any M Cn Cd HO HC.cnd HC.cdd _ false _ false B B' B2 B2' bk bc bk' bc' j2 d2 j2' d2' (costAt l q k) (partAt l q k * (((l[k]?.getD (0, 0)).2 : Int) : Rat)) W (hx.at HO HC.cn HC.cd hs1.1 hs1.2) (qat_len HO HC.cn HC.cd h5 h6 h7 h8 hs3.1 hs3.2)
   rw [← hr1] at HADD
   obtain ⟨A8, k8, c8, A9, k9, c9, j0, j1, j2, j3, -, -, -, -, hk8, hk9, hW8, hW9⟩ := hRow.cells hlt
   rw [hps] at j0 hW8 hW9
   have HFI := Lib.hid FI
   have HMULH := Lib.hid HMUL
   have HADDH := Lib.hid HADD
   generalize hqv : (((l[k]?.getD (0, 0)).2 : Int) : Rat) = qk at *
   generalize partAt l q k * qk = qm at *
   generalize partAt l q k = qp at *
   generalize (l[k]?.getD (0, 0)).1 = sq1 at *
   generalize (l[k]?.getD (0, 0)).2 = sp1 at *
   clear FI HMUL HADD hqv hps hr1 hmem hbad hpb hs1 hs3 hs2 hpn hpd ck ck' hcell
   have hki : (0 : Int) ≤ (k : Int) ∧ (k : Int) < (n : Int) := by omega
   obtain ⟨hki1, hki2⟩ := hki
   have hbRB := hRB.out
   clear hRB
   go_wp2_with fail
   have hBx := hBx.alloc (.cells #[.int .i64 sq1, .int .i64 sp1] 107)
   have hbRB := hbRB.alloc (.cells #[.int .i64 sq1, .int .i64 sp1] 107)
   have hb9 : Below wr.heap.size wr (wr.alloc (.cells #[.int .i64 sq1, .int .i64 sp1] 107)) := (Below.refl _ _).alloc (Nat.le_refl _) _
   have hRow := hRow.below hb9
   have hCx := hCx.below hb9
   have hW8 := hW8.below hb9
   have hW9 := hW9.below hb9
   have hSt := Blk.new wr 107 #[.int .i64 sq1, .int .i64 sp1]
   have hBw := hB.alloc hB.size (.cells #[.int .i64 sq1, .int .i64 sp1] 107)
   have hRW : ∃ cs, Blk (wr.alloc (.cells #[.int .i64 sq1, .int .i64 sp1] 107)) gr 42 cs ∧ cs[k * 4]? = some (.bool (decide (qp.num < 0))) ∧ cs[k * 4 + 1]? = some (.slice A8 k8 c8) ∧ cs[k * 4 + 2]? = some (.bool false) ∧ cs[k * 4 + 3]? = some (.slice A9 k9 c9) := by
    obtain ⟨_, cs, hbk, _⟩ := hR.out.2.2.2
    exact ⟨cs, hbk.alloc _, (hbk.cell _).symm.trans j0, (hbk.cell _).symm.trans j1, (hbk.cell _).symm.trans j2, (hbk.cell _).symm.trans j3⟩
   obtain ⟨cs7, hb7, f0, f1, f2, f3⟩ := hRW
   generalize hWW : wr.alloc (.cells #[.int .i64 sq1, .int .i64 sp1] 107) = W2 at *
   have hgz : g ≠ w.heap.size + 1 := by omega
   clear hWW hb9 hck hck' hB hR j0 j1 j2 j3
   have HCX := Lib.hid hCx
   have HROW := Lib.hid hRow
   have s5 := Kp.refl W2
   obtain ⟨-, t1, -, -⟩ := hSt.two
   obtain ⟨q0, q1, q2, q3, -⟩ := hBx.four
   have p0 := (hb7.cell (k * 4)).trans f0
   have p1 := (hb7.cell (k * 4 + 1)).trans f1
   have p2 := (hb7.cell (k * 4 + 2)).trans f2
   have p3 := (hb7.cell (k * 4 + 3)).trans f3
   have F0 := Lib.hid f0
   have F1 := Lib.hid f1
   have F2 := Lib.hid f2
   have F3 := Lib.hid f3
   clear hCx hRow f0 f1 f2 f3 hSt
   go_region_with (first
    | (go_at_call 40; refine (HFI.out _).mono ?_; rintro e v5 ⟨A3, k3, c3, A4, k4, c4, rfl, hk3, hk4, hW3, hW4, hF3, hF4, hb3⟩; have hp5 : Kp W2 v5 := Kp.trans (Kp.drew s5) hb3; have p0' := ((Kp.blk hp5 hb7).cell (k * 4)).trans F0.out; have p1' := ((Kp.blk hp5 hb7).cell (k * 4 + 1)).trans F1.out; have p2' := ((Kp.blk hp5 hb7).cell (k * 4 + 2)).trans F2.out; have p3' := ((Kp.blk hp5 hb7).cell (k * 4 + 3)).trans F3.out; obtain ⟨q0', q1', q2', q3', -⟩ := (Kp.blk hp5 hBx).four; clear hb3 hF3 hF4)
    | (go_at_call 54; refine (HMULH.out _ A8 A9 A3 A4 k8 c8 k9 c9 k3 c3 k4 c4 hk8 hk9 (hW8.below hp5) (hW9.below hp5) hk3 hk4 hW3 hW4).mono ?_; rintro e v6 ⟨A5, k5, c5, A6, k6, c6, rfl, hk5, hk6, hW5, hW6, hF5, hF6, hb4⟩; have hp6 : Kp W2 v6 := Kp.trans hp5 hb4; obtain ⟨q0'', q1'', q2'', q3'', -⟩ := (Kp.blk hp6 hBx).four; clear hb4 hF5 hF6)
    | (go_at_call 42; refine (HADDH.out _ A5 A6 k5 c5 k6 c6 (HCX.out.below hp6) hk5 hk6 hW5 hW6).mono ?_; rintro e v7 ⟨A7, k7, c7, B7, m7, d7, rfl, hk7, hm7, hW7, hV7, hF7, hG7, hb5⟩; have hp7 : Kp W2 v7 := Kp.trans hp6 hb5; have hz7 := Below.size hp6; obtain ⟨i0, i1, i2, i3, i4, i5, i6, i7⟩ := (Kp.blk hp7 hBx).four; clear hb5))
   all_goals
    have e8 : (((v7.setCell ⟨g, 0, none⟩ (.bool (decide ((costAt l q (k + 1)).num < 0)))).setCell ⟨g, 1, none⟩ (.slice A7 k7 c7)).setCell ⟨g, 2, none⟩ (.bool false)).setCell ⟨g, 3, none⟩ (.slice B7 m7 d7) = qst v7 g 0 (decide ((costAt l q (k + 1)).num < 0)) false A7 B7 k7 c7 m7 d7 := rfl
    rw [e8]
    have hbx8 := Kp.blk hp7 hBx
    have hz2 := hBw.size
    have hfin : CstR w g gr n l q ps (k + 1) A7 k7 c7 B7 m7 d7 (qst v7 g 0 (decide ((costAt l q (k + 1)).num < 0)) false A7 B7 k7 c7 m7 d7) := by
     refine ⟨below_qst (hBw.trans (Below.mono hp7 hBw.size)) (by omega), hbx8.put4, ?_, (HROW.out.below hp7).far4 (by omega) hbx8 NoInt.four⟩
     exact CQ.put4 ⟨hk7, hm7, hW7, hV7, hF7.mono (by omega), hG7.mono (by omega)⟩ hbx8 NoInt.four
    have hfin2 : Blk (qst v7 g 0 (decide ((costAt l q (k + 1)).num < 0)) false A7 B7 k7 c7 m7 d7) (w.heap.size + 1) 42 #[.bool false, .slice none 0 0, .bool false, .slice none 0 0] := (Kp.blk hp7 hbRB).far4 (by omega)
    generalize qst v7 g 0 (decide ((costAt l q (k + 1)).num < 0)) false A7 B7 k7 c7 m7 d7 = W8 at *
    have HF := Lib.hid hfin
    have HF2 := Lib.hid hfin2
    clear e8 hfin hfin2 hbx8 i0 i1 i2 i3 i4 i5 i6 i7 hp5 hp6 hp7 hW3 hW4 hW5 hW6 hW7 hV7 hF7 hG7 hk3 hk4 hk5 hk6 hk7 hm7 q0 q1 q2 q3 p0 p1 p2 p3 t1 hBw hBx hbRB hb7
    go_wp2
    go_roundw
    case rel => exact ⟨k + 1, A7, k7, c7, B7, m7, d7, by omega, by go_num, HF.out, HF2.out⟩
    case measure => simp [intOf]; omega
  ·obtain rfl : k = n := by omega
   obtain ⟨hB, hBx, hCx, hRow⟩ := hR.out
   have hbRB := hRB.out
   obtain ⟨q0, q1, q2, q3, -⟩ := hBx.four
   obtain ⟨r0, r1, r2, r3, r4, r5, r6, r7⟩ := hbRB.four
   have hfin : CstPost w (costAt l q k) (.returned (.tuple #[.agg #[.bool (decide ((costAt l q k).num < 0)), .slice B bk bc, .bool false, .slice B' bk' bc'], .int .i64 0])) (qst wr (w.heap.size + 1) 0 (decide ((costAt l q k).num < 0)) false B B' bk bc bk' bc') :=
    ⟨B, bk, bc, B', bk', bc', rfl, hCx.put4 hbRB NoInt.four, below_qst hB (by omega)⟩
   have hb8 : Blk (qst wr (w.heap.size + 1) 0 (decide ((costAt l q k).num < 0)) false B B' bk bc bk' bc') (w.heap.size + 1) _ _ := hbRB.put4 (o := 0)
   have e8 : (((wr.setCell ⟨w.heap.size + 1, 0, none⟩ (.bool (decide ((costAt l q k).num < 0)))).setCell ⟨w.heap.size + 1, 1, none⟩ (.slice B bk bc)).setCell ⟨w.heap.size + 1, 2, none⟩ (.bool false)).setCell ⟨w.heap.size + 1, 3, none⟩ (.slice B' bk' bc') = qst wr (w.heap.size + 1) 0 (decide ((costAt l q k).num < 0)) false B B' bk bc bk' bc' := rfl
   obtain ⟨d0, d1, d2, d3, -⟩ := Blk.four hb8
   have HF := Lib.hid hfin
   have HE := Lib.hid e8
   clear hfin hb8 hR hRB hCx hRow hB e8
   go_wp2
   rw [HE.out]
   refine bodyPost_ret (v := .tuple #[.agg #[.bool (decide ((costAt l q k).num < 0)), .slice B bk bc, .bool false, .slice B' bk' bc'], .int .i64 0]) ?_ rfl HF.out
   simp [results, Tryz.results41, go_sem, d0, d1, d2, d3]

end Go.Proofs.YtjajigkacccdgaaGreat

namespace Go.Proofs.YtjajigkacccdgaaGreat
set_option linter.unusedVariables false
set_option linter.unusedSimpArgs false
namespace En

/-- The cost of t on a curve. -/
def cst : List (Int × Int) → Int → Int
 | [], _ => 0
 | s :: r, t => min t s.1 * s.2 + cst r (t - min t s.1)
def qs : List (Int × Int) → Int
 | [] => 0
 | s :: r => s.1 + qs r
/-- What the steps at prices up to v hold. -/
def qle (v : Int) : List (Int × Int) → Int
 | [] => 0
 | s :: r => (if s.2 ≤ v then s.1 else 0) + qle v r
/-- Quantities are not negative, prices rise. -/
def Up : List (Int × Int) → Prop
 | [] => True
 | s :: r => 0 ≤ s.1 ∧ (∀ t ∈ r, s.2 < t.2) ∧ Up r

theorem qle_zero {v : Int} : ∀ {st : List (Int × Int)}, (∀ t ∈ st, v < t.2) → qle v st = 0
 | [], _ => rfl
 | s :: r, h => by
  have h1 := h s (List.mem_cons_self ..)
  rw [qle, if_neg (by omega), qle_zero fun t ht => h t (List.mem_cons_of_mem _ ht)]
  rfl
theorem qle_bd {v : Int} : ∀ {st : List (Int × Int)}, Up st → 0 ≤ qle v st ∧ qle v st ≤ qs st
 | [], _ => by simp [qle, qs]
 | s :: r, h => by
  obtain ⟨h1, _, h2⟩ := h
  have ih := qle_bd (v := v) h2
  rw [qle, qs]
  split <;> omega
theorem qle_mono {v u : Int} (hvu : v ≤ u) : ∀ {st : List (Int × Int)}, Up st → qle v st ≤ qle u st
 | [], _ => by simp [qle]
 | s :: r, h => by
  obtain ⟨h1, _, h2⟩ := h
  have ih := qle_mono hvu h2
  rw [qle, qle]
  by_cases h3 : s.2 ≤ v
  ·rw [if_pos h3, if_pos (by omega)]; omega
  ·rw [if_neg h3]; split <;> omega

theorem ar_slow {A B p v c1 c2 a b : Int} (m : (A - B) * p ≤ (A - B) * v) (ih : c2 - c1 ≤ v * ((b - A) - (a - B))) : A * p + c2 - (B * p + c1) ≤ v * (b - a) := by
 grind
theorem ar_fast {A B p v c1 c2 a b : Int} (m : (A - B) * v ≤ (A - B) * p) (ih : v * ((b - A) - (a - B)) ≤ c2 - c1) : v * (b - a) ≤ A * p + c2 - (B * p + c1) := by
 grind

theorem cst_slow {v : Int} : ∀ (st : List (Int × Int)) (a b : Int), Up st → 0 ≤ a → a ≤ b → b ≤ qle v st → cst st b - cst st a ≤ v * (b - a)
 | [], a, b, _, h0, h1, h2 => by
  simp only [qle] at h2
  have e1 : b = 0 := by omega
  have e2 : a = 0 := by omega
  subst e1 e2
  simp [cst]
 | s :: r, a, b, hu, h0, h1, h2 => by
  obtain ⟨hq, hr, hu'⟩ := hu
  rw [cst, cst]
  by_cases hp : s.2 ≤ v
  ·rw [qle, if_pos hp] at h2
   have hz := (qle_bd (v := v) hu').1
   have ih := cst_slow (v := v) r (a - min a s.1) (b - min b s.1) hu' (by omega) (by omega) (by omega)
   have m := Int.mul_le_mul_of_nonneg_left hp (show 0 ≤ min b s.1 - min a s.1 by omega)
   exact ar_slow m ih
  ·have hz : qle v (s :: r) = 0 := qle_zero fun t ht => by
    rcases List.mem_cons.1 ht with rfl | ht
    ·omega
    ·have := hr t ht; omega
   rw [hz] at h2
   have e1 : b = 0 := by omega
   have e2 : a = 0 := by omega
   subst e1 e2
   simp

theorem cst_fast {v : Int} : ∀ (st : List (Int × Int)) (a b : Int), Up st → qle (v - 1) st ≤ a → a ≤ b → b ≤ qs st → v * (b - a) ≤ cst st b - cst st a
 | [], a, b, _, h0, h1, h2 => by
  simp only [qle, qs] at h0 h2
  have e1 : b = 0 := by omega
  have e2 : a = 0 := by omega
  subst e1 e2
  simp [cst]
 | s :: r, a, b, hu, h0, h1, h2 => by
  obtain ⟨hq, hr, hu'⟩ := hu
  rw [cst, cst]
  rw [qs] at h2
  by_cases hp : s.2 ≤ v - 1
  ·rw [qle, if_pos hp] at h0
   have hz := (qle_bd (v := v - 1) hu').1
   have ih := cst_fast (v := v) r (a - min a s.1) (b - min b s.1) hu' (by omega) (by omega) (by omega)
   have m : (min b s.1 - min a s.1) * v ≤ (min b s.1 - min a s.1) * s.2 := by
    have e : min b s.1 - min a s.1 = 0 := by omega
    rw [e]; simp
   exact ar_fast m ih
  ·have hz : qle (v - 1) r = 0 := qle_zero fun t ht => by have := hr t ht; omega
   have hb0 : 0 ≤ a := by
    have := (qle_bd (v := v - 1) (st := s :: r) ⟨hq, hr, hu'⟩).1
    omega
   have ih := cst_fast (v := v) r (a - min a s.1) (b - min b s.1) hu' (by omega) (by omega) (by have := (qle_bd (v := v) hu'); omega)
   have m := Int.mul_le_mul_of_nonneg_left (show v ≤ s.2 by omega) (show 0 ≤ min b s.1 - min a s.1 by omega)
   exact ar_fast m ih

/-- What of a unit bears on an allocation. -/
structure PU where
 on : Bool
 mn : Int
 st : List (Int × Int)
def PU.dn (z : PU) : Int := if z.on then z.mn else 0
def PU.up (z : PU) : Int := if z.on then qs z.st else 0
def PU.lo (z : PU) (v : Int) : Int := if z.on then max z.mn (qle (v - 1) z.st) else 0
def PU.hi (z : PU) (v : Int) : Int := if z.on then max z.mn (qle v z.st) else 0
def PU.Ok (z : PU) : Prop := Up z.st ∧ 0 ≤ z.mn ∧ z.mn ≤ qs z.st

theorem PU.box {z : PU} (h : z.Ok) (v : Int) : z.dn ≤ z.lo v ∧ z.lo v ≤ z.hi v ∧ z.hi v ≤ z.up := by
 obtain ⟨h1, h2, h3⟩ := h
 have b1 := qle_bd (v := v) h1
 have b2 := qle_mono (v := v - 1) (u := v) (by omega) h1
 unfold PU.dn PU.lo PU.hi PU.up
 cases z.on
 ·simp
 ·simp only [if_true]; omega

theorem PU.least {z : PU} (h : z.Ok) {v x t : Int} (h1 : z.lo v ≤ x) (h2 : x ≤ z.hi v) (h3 : z.dn ≤ t) (h4 : t ≤ z.up) :
  cst z.st x - v * x ≤ cst z.st t - v * t ∧ (cst z.st t - v * t ≤ cst z.st x - v * x → z.lo v ≤ t ∧ t ≤ z.hi v) := by
 obtain ⟨u1, u2, u3⟩ := h
 have b0 := qle_bd (v := v - 1) u1
 have b1 := qle_bd (v := v) u1
 have b2 := qle_mono (v := v - 1) (u := v) (by omega) u1
 unfold PU.lo PU.hi PU.dn PU.up at *
 cases hon : z.on
 ·rw [hon] at h1 h2 h3 h4
  simp only [Bool.false_eq_true, if_false] at *
  have e1 : x = 0 := by omega
  have e2 : t = 0 := by omega
  subst e1 e2
  exact ⟨Int.le_refl _, fun _ => ⟨Int.le_refl _, Int.le_refl _⟩⟩
 ·rw [hon] at h1 h2 h3 h4
  simp only [if_true] at *
  have main : cst z.st x - v * x ≤ cst z.st t - v * t := by
   by_cases htx : t ≤ x
   ·by_cases hxq : x ≤ qle v z.st
    ·have := cst_slow z.st t x u1 (by omega) htx hxq
     grind
    ·have e : t = x := by omega
     subst e
     exact Int.le_refl _
   ·have := cst_fast (v := v) z.st x t u1 (by omega) (by omega) (by omega)
    grind
  refine ⟨main, fun hle => ⟨?_, ?_⟩⟩
  ·rcases Int.lt_or_le t (max z.mn (qle (v - 1) z.st)) with hlt | hge
   ·exfalso
    have s1 := cst_slow (v := v - 1) z.st t (qle (v - 1) z.st) u1 (by omega) (by omega) (Int.le_refl _)
    have s2 := cst_slow (v := v) z.st (qle (v - 1) z.st) x u1 (by omega) (by omega) (by omega)
    have s3 : 0 < qle (v - 1) z.st - t := by omega
    grind
   ·exact hge
  ·rcases Int.lt_or_le (max z.mn (qle v z.st)) t with hlt | hge
   ·exfalso
    have s1 := cst_fast (v := v + 1) z.st (max z.mn (qle v z.st)) t u1 (by rw [Int.add_sub_cancel]; omega) (by omega) (by omega)
    have s2 := cst_fast (v := v) z.st x (max z.mn (qle v z.st)) u1 (by omega) (by omega) (by omega)
    have s3 : 0 < t - max z.mn (qle v z.st) := by omega
    grind
   ·exact hge

def sumR : List Int → Int
 | [] => 0
 | x :: r => x + sumR r
def costR : List PU → List Int → Int
 | z :: zs, x :: xs => cst z.st x + costR zs xs
 | _, _ => 0
def FeasR : List PU → List Int → Prop
 | [], [] => True
 | z :: zs, x :: xs => z.dn ≤ x ∧ x ≤ z.up ∧ FeasR zs xs
 | _, _ => False
def Box (v : Int) : List PU → List Int → Prop
 | [], [] => True
 | z :: zs, x :: xs => z.lo v ≤ x ∧ x ≤ z.hi v ∧ Box v zs xs
 | _, _ => False
def AllOk : List PU → Prop
 | [] => True
 | z :: zs => z.Ok ∧ AllOk zs
def lexLe : List Int → List Int → Prop
 | [], [] => True
 | x :: xs, y :: ys => x < y ∨ (x = y ∧ lexLe xs ys)
 | _, _ => False
/-- Units before u stand at their least, units after u at their greatest of price v. -/
def Thr (v : Int) (u : Nat) : Nat → List PU → List Int → Prop
 | _, [], [] => True
 | k, z :: zs, x :: xs => (z.lo v ≤ x ∧ x ≤ z.hi v) ∧ (k < u → x = z.lo v) ∧ (u < k → x = z.hi v) ∧ Thr v u (k + 1) zs xs
 | _, _, _ => False

theorem Thr.box {v : Int} {u : Nat} : ∀ {zs : List PU} {xs : List Int} {k : Nat}, Thr v u k zs xs → Box v zs xs
 | [], [], _, _ => trivial
 | _ :: _, _ :: _, _, h => ⟨h.1.1, h.1.2, Thr.box h.2.2.2⟩
 | [], _ :: _, _, h => h.elim
 | _ :: _, [], _, h => h.elim
theorem Box.feas {v : Int} : ∀ {zs : List PU} {xs : List Int}, AllOk zs → Box v zs xs → FeasR zs xs
 | [], [], _, _ => trivial
 | z :: _, _ :: _, ho, h => by
  have hb := PU.box ho.1 v
  obtain ⟨h1, h2, h3⟩ := h
  exact ⟨by omega, by omega, Box.feas ho.2 h3⟩
 | [], _ :: _, _, h => h.elim
 | _ :: _, [], _, h => h.elim

theorem box_least {v : Int} : ∀ {zs : List PU} {xs ys : List Int}, AllOk zs → Box v zs xs → FeasR zs ys → costR zs xs - v * sumR xs ≤ costR zs ys - v * sumR ys ∧ (costR zs ys - v * sumR ys ≤ costR zs xs - v * sumR xs → Box v zs ys)
 | [], [], [], _, _, _ => ⟨Int.le_refl _, fun _ => trivial⟩
 | z :: zs, x :: xs, y :: ys, ho, hb, hf => by
  obtain ⟨b1, b2, b3⟩ := hb
  obtain ⟨f1, f2, f3⟩ := hf
  obtain ⟨p1, p2⟩ := PU.least ho.1 b1 b2 f1 f2
  obtain ⟨q1, q2⟩ := box_least ho.2 b3 f3
  rw [costR, costR, sumR, sumR]
  refine ⟨by grind, fun hle => ?_⟩
  obtain ⟨r1, r2⟩ := p2 (by grind)
  exact ⟨r1, r2, q2 (by grind)⟩
 | [], _ :: _, _, _, h, _ => h.elim
 | _ :: _, [], _, _, h, _ => h.elim
 | [], [], _ :: _, _, _, h => h.elim
 | _ :: _, _ :: _, [], _, _, h => h.elim

theorem high_sum {v : Int} {u : Nat} : ∀ {zs : List PU} {xs ys : List Int} {k : Nat}, u < k → Thr v u k zs xs → Box v zs ys → sumR ys ≤ sumR xs
 | [], [], [], _, _, _, _ => Int.le_refl _
 | z :: zs, x :: xs, y :: ys, k, hk, ht, hb => by
  obtain ⟨_, _, t3, t4⟩ := ht
  obtain ⟨b1, b2, b3⟩ := hb
  have ih := high_sum (k := k + 1) (by omega) t4 b3
  have := t3 hk
  rw [sumR, sumR]
  omega
 | [], _ :: _, _, _, _, h, _ => h.elim
 | _ :: _, [], _, _, _, h, _ => h.elim
 | [], [], _ :: _, _, _, _, h => h.elim
 | _ :: _, _ :: _, [], _, _, _, h => h.elim

theorem lex_least {v : Int} {u : Nat} : ∀ {zs : List PU} {xs ys : List Int} {k : Nat}, Thr v u k zs xs → Box v zs ys → sumR xs = sumR ys → lexLe xs ys
 | [], [], [], _, _, _, _ => trivial
 | z :: zs, x :: xs, y :: ys, k, ht, hb, hs => by
  obtain ⟨t1, t2, t3, t4⟩ := ht
  obtain ⟨b1, b2, b3⟩ := hb
  rw [sumR, sumR] at hs
  rcases Nat.lt_trichotomy k u with hk | hk | hk
  ·have := t2 hk
   rcases Int.lt_or_le x y with hlt | hge
   ·exact Or.inl hlt
   ·exact Or.inr ⟨by omega, lex_least t4 b3 (by omega)⟩
  ·have := high_sum (k := k + 1) (by omega) t4 b3
   rcases Int.lt_or_le x y with hlt | hge
   ·exact Or.inl hlt
   ·exact Or.inr ⟨by omega, lex_least t4 b3 (by omega)⟩
  ·have h1 := high_sum (k := k + 1) (by omega) t4 b3
   have h2 := t3 hk
   exact Or.inr ⟨by omega, lex_least t4 b3 (by omega)⟩
 | [], _ :: _, _, _, h, _, _ => h.elim
 | _ :: _, [], _, _, h, _, _ => h.elim
 | [], [], _ :: _, _, _, h, _ => h.elim
 | _ :: _, _ :: _, [], _, _, h, _ => h.elim

/-- The row xs is the optimal allocation of f. -/
def Opt (zs : List PU) (f : Int) (xs : List Int) : Prop := sumR xs = f ∧ ((∃ v u, Thr v u 0 zs xs))

theorem Opt.feas {zs : List PU} {f : Int} {xs : List Int} (ho : AllOk zs) (h : Opt zs f xs) : FeasR zs xs := by
 obtain ⟨_, v, u, ht⟩ := h
 exact Box.feas ho ht.box
theorem Opt.least {zs : List PU} {f : Int} {xs ys : List Int} (ho : AllOk zs) (h : Opt zs f xs) (hf : FeasR zs ys) (hs : sumR ys = f) : costR zs xs ≤ costR zs ys ∧ (costR zs ys ≤ costR zs xs → lexLe xs ys) := by
 obtain ⟨h1, v, u, ht⟩ := h
 obtain ⟨p1, p2⟩ := box_least ho ht.box hf
 rw [h1, hs] at p1 p2
 refine ⟨by omega, fun hle => lex_least ht (p2 (by omega)) (by omega)⟩
theorem lex_anti : ∀ {xs ys : List Int}, lexLe xs ys → lexLe ys xs → xs = ys
 | [], [], _, _ => rfl
 | x :: xs, y :: ys, h1, h2 => by
  rcases h1 with h1 | ⟨h1, h1'⟩
  ·rcases h2 with h2 | ⟨h2, h2'⟩ <;> omega
  ·rcases h2 with h2 | ⟨h2, h2'⟩
   ·omega
   ·rw [h1, lex_anti h1' h2']
 | [], _ :: _, h, _ => h.elim
 | _ :: _, [], h, _ => h.elim
theorem Opt.only {zs : List PU} {f : Int} {xs ys : List Int} (ho : AllOk zs) (h : Opt zs f xs) (h' : Opt zs f ys) : xs = ys := by
 obtain ⟨a1, a2⟩ := h.least ho (h'.feas ho) h'.1
 obtain ⟨b1, b2⟩ := h'.least ho (h.feas ho) h.1
 exact lex_anti (a2 b1) (b2 a1)
end En
end Go.Proofs.YtjajigkacccdgaaGreat
namespace Go.Proofs.YtjajigkacccdgaaGreat
set_option linter.unusedVariables false
set_option linter.unusedSimpArgs false
open Go.RowKit
open Wd
def restI (l : List (Int × Int)) (z : Int) : Nat → Int
 | 0 => z
 | k + 1 => restI l z k - min (restI l z k) (l[k]?.getD (0, 0)).1
def partI (l : List (Int × Int)) (z : Int) (k : Nat) : Int := min (restI l z k) (l[k]?.getD (0, 0)).1
def costI (l : List (Int × Int)) (z : Int) : Nat → Int
 | 0 => 0
 | k + 1 => costI l z k + partI l z k * (l[k]?.getD (0, 0)).2

theorem lessQ_whole (z a : Int) : lessQ (z : Rat) a = ((min z a : Int) : Rat) := by
 unfold lessQ
 by_cases h : a < z
 ·rw [if_pos (by exact_mod_cast h), show min z a = a by omega]
 ·rw [if_neg (by intro hh; exact h (by exact_mod_cast hh)), show min z a = z by omega]
theorem restAt_whole (l : List (Int × Int)) (z : Int) : ∀ k, restAt l (z : Rat) k = ((restI l z k : Int) : Rat)
 | 0 => rfl
 | k + 1 => by rw [restAt, restI, restAt_whole l z k, lessQ_whole, Rat.intCast_sub]
theorem partAt_whole (l : List (Int × Int)) (z : Int) (k : Nat) : partAt l (z : Rat) k = ((partI l z k : Int) : Rat) := by
 rw [partAt, partI, restAt_whole, lessQ_whole]
theorem prod_whole (l : List (Int × Int)) (z : Int) (k : Nat) : partAt l (z : Rat) k * (((l[k]?.getD (0, 0)).2 : Int) : Rat) = ((partI l z k * (l[k]?.getD (0, 0)).2 : Int) : Rat) := by
 rw [partAt_whole, Rat.intCast_mul]
theorem costAt_whole (l : List (Int × Int)) (z : Int) : ∀ k, costAt l (z : Rat) k = ((costI l z k : Int) : Rat)
 | 0 => rfl
 | k + 1 => by rw [costAt, costI, costAt_whole l z k, prod_whole, Rat.intCast_add]









end Go.Proofs.YtjajigkacccdgaaGreat