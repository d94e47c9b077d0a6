/-
MergeOffers and MergeBids of package stack. A statement that draws its order, reads, and calls what makes new memory alone: walked once, in the order of the text. No statement of the seat is proved here; no conditions beyond those of each theorem.
-/
import Derived.Test.YtjajigkacccdgaaGreatTdBC
import Derived.Test.YtjajigkacccdgaaGreatTdAA
namespace Go.Proofs.YtjajigkacccdgaaGreat
set_option linter.unusedVariables false
set_option linter.unusedSimpArgs false
open Go.RowKit
open Go.Sort (HoldsK)
open Wd

/-- A stack of the call's own: D holds prices and the blocks of the parts. -/
def LvO (base n : Nat) (w : World) (mg : Nat) (T : List St.Tr) (D : List (Int × Nat)) : Prop :=
 base ≤ mg ∧ mg < w.heap.size ∧ HoldsK (encL n T) 3 w mg 0 D.toArray ∧ (∀ d ∈ D, base ≤ d.2 ∧ d.2 ≠ mg ∧ IRow w d.2 (St.parts n T d.1)) ∧ (D.map (·.2)).Nodup
def Stk (up : Bool) (n : Nat) (T : List St.Tr) (w : World) (e : Ending) (w' : World) : Prop :=
 ∃ (D : List (Int × Nat)) (mg cap : Nat), e = .returned (.tuple #[.slice (some ⟨mg, 0, none⟩) D.length cap, .int .i64 0, .int .i64 0]) ∧ (D.map (·.1)).Pairwise (St.ltU up) ∧ (D.map (·.1)).Perm (St.pr T) ∧ LvO w.heap.size n w' mg T D ∧ Below w.heap.size w w'
theorem Stk.mono {up : Bool} {n : Nat} {T : List St.Tr} {w0 w : World} {e : Ending} {w' : World} (hb : Below w0.heap.size w0 w) (h : Stk up n T w e w') : Stk up n T w0 e w' := by
 obtain ⟨D, mg, cap, h1, h2, h3, ⟨h4, h5, h6, h7, h8⟩, h9⟩ := h
 exact ⟨D, mg, cap, h1, h2, h3, ⟨Nat.le_trans hb.size h4, h5, h6, fun d hd => ⟨Nat.le_trans hb.size (h7 d hd).1, (h7 d hd).2⟩, h8⟩, hb.trans (h9.mono hb.size)⟩
theorem pair_strict {up : Bool} {D : List (Int × Nat)} (hn : (D.map (·.1)).Nodup) (h : D.Pairwise fun a b => ¬ St.ltU up b.1 a.1) : (D.map (·.1)).Pairwise (St.ltU up) := by
 rw [List.pairwise_map]
 have h2 : D.Pairwise fun a b => a.1 ≠ b.1 := List.pairwise_map.1 hn
 refine (h.and h2).imp fun {a b} hab => ?_
 obtain ⟨h3, h4⟩ := hab
 unfold St.ltU at *
 split <;> rename_i hu <;> simp [hu] at h3 <;> omega


set_option maxRecDepth 100000 in
set_option maxHeartbeats 8000000 in
theorem merge_offers_ok (A : Option Addr) (n c : Nat) (ls : List (List (Int × Int))) (w : World) (h : CsAt w A n ls) (hs : ∀ l ∈ ls, l.length ≤ 1000000000000) (hc : (ckC true ls).2 = 0) :
  Calls Tryz.prog 16 #[.slice A n c] w (Stk true n (St.tri 0 ls) w) := by
 have T1 := fun W (hW : Below w.heap.size w W) => ccurves_offers A n c ls W (h.below hW) hs
 obtain ⟨hn, _, hg⟩ := ckC_good hc
 rw [hc] at T1
 have T2 := fun W (hW : Below w.heap.size w W) => collect_any A n c ls W (h.below hW) (by rw [← h.1]; exact hn) hg
 have hT : (St.pr (St.tri 0 ls)).length ≤ 48 := by
  have a1 := St.pr_len (St.tri 0 ls)
  have a2 := St.tri_len ls 0 fun l hl => (hg l hl).1
  omega
 generalize (ckC true ls).1 = pl at *
 have HT1 := Lib.hid T1
 have HT2 := Lib.hid T2
 generalize St.tri 0 ls = T at *
 clear T1 T2 h hs hc hg
 go_enter Tryz.func16, Tryz.ntmps16
 go_wp2_with fail
 have hbx := Blk.new w 30 #[.slice none 0 0]
 have hb0 : Below w.heap.size w (w.alloc (.cells #[.slice none 0 0] 30)) := (Below.refl _ _).alloc (Nat.le_refl _) _
 generalize w.alloc (.cells #[.slice none 0 0] 30) = W at *
 refine (HT1.out W hb0).mono ?_
 rintro e w1 ⟨rfl, hb1⟩
 have HBX1 := Lib.hid (hbx.below hb1 hbx.lt)
 have HB1 := Lib.hid (hb0.trans (hb1.mono hb0.size))
 clear hbx hb0 hb1 HT1
 go_wp2_with fail
 refine (HT2.out w1 HB1.out).mono ?_
 rintro e w2 ⟨D, mg, cap, rfl, hp, hO, hrow, hnd, hb2⟩
 have hbx2 := HBX1.out.below hb2 HBX1.out.lt
 have hB2 := HB1.out.trans (hb2.mono HB1.out.size)
 have hx1 := HBX1.out.lt
 obtain ⟨hH, hmg1, hmg2⟩ := hO.holds
 have hfz := hbx2.frozen 0
 have hbx3 := hbx2.set 0 (.slice (some ⟨mg, 0, none⟩) D.length cap)
 have hcell := hbx2.cell 0
 have hcell3 := hbx3.cell 0
 simp at hcell3
 have hH3 : HoldsK (encL n T) 3 (w2.setCell ⟨w.heap.size, 0, none⟩ (.slice (some ⟨mg, 0, none⟩) D.length cap)) mg 0 D.toArray := (hO.aside (p := ⟨w.heap.size, 0, none⟩) hx1 _).holds.1
 have hrow3 : ∀ d ∈ D, w1.heap.size ≤ d.2 ∧ IRow (w2.setCell ⟨w.heap.size, 0, none⟩ (.slice (some ⟨mg, 0, none⟩) D.length cap)) d.2 (St.parts n T d.1) := fun d hd => ⟨(hrow d hd).1, Blk.far (hrow d hd).2 (p := ⟨w.heap.size, 0, none⟩) (by have := (hrow d hd).1; simp; omega) _⟩
 have hB3 := hB2.setCell (p := ⟨w.heap.size, 0, none⟩) (Nat.le_refl _) (.slice (some ⟨mg, 0, none⟩) D.length cap)
 have hs3 : (w2.setCell ⟨w.heap.size, 0, none⟩ (.slice (some ⟨mg, 0, none⟩) D.length cap)).heap.size = w2.heap.size := by simp [World.setCell]
 have hsm := sort_offers n T mg cap w.heap.size D _ hH3 (by rw [hs3]; exact hmg2) hcell3 (by rw [hs3]; exact Nat.lt_of_lt_of_le hx1 hb2.size) (by omega) (by
  have a1 := hp.length_eq
  rw [List.length_map] at a1
  omega)
 have HSM := Lib.hid hsm
 have HROW := Lib.hid hrow3
 have HP := Lib.hid hp
 have HND := Lib.hid hnd
 have HB3 := Lib.hid hB3
 have HOB := Lib.hid hO
 have HBX3 := Lib.hid hbx3
 clear hsm hrow3 hp hnd hB3 hO hbx3 hH hH3 hrow hbx2 hB2 hb2 HT2
 go_wp2_with fail
 refine HSM.out.mono ?_
 rintro e w3 ⟨rfl, D', q1, q2, q3, q4⟩
 have hbx4 := (q4.block w.heap.size HBX3.out.lt (by simp; omega)).trans HBX3.out
 have hB4 : Below w.heap.size w w3 := HB3.out.trans ⟨q4.os, q4.tape, q4.output, q4.size, fun k hk => q4.block k (by have := HB3.out.size; omega) (by simp; omega)⟩
 have hmgr : ∀ d ∈ D, d.2 ≠ mg := fun d hd e => by
  have h1 := (HROW.out d hd).2
  rw [e] at h1
  have h2 := HOB.out.aside (p := ⟨w.heap.size, 0, none⟩) hx1 (.slice (some ⟨mg, 0, none⟩) D.length cap)
  rcases h2.2 with ⟨h7, _⟩ | ⟨g', cap', cur', h7, _, h8, _⟩
  ·simp at h7
  ·simp at h7
   obtain ⟨rfl, _⟩ := h7
   unfold IRow Blk at h1
   rw [h8] at h1
   simp at h1
 have hdl : D'.length = D.length := q1.length_eq
 have hfin : LvO w.heap.size n w3 mg T D' := by
  refine ⟨by have := HB1.out.size; omega, Nat.lt_of_lt_of_le (by rw [hs3]; exact hmg2) q4.size, q3, fun d hd => ?_, (q1.map (·.2)).nodup_iff.2 HND.out⟩
  have hd' := q1.mem_iff.1 hd
  have h1 := HROW.out d hd'
  refine ⟨by have := HB1.out.size; omega, hmgr d hd', (q4.block d.2 (Blk.lt h1.2) (by have := hmgr d hd'; simp; omega)).trans h1.2⟩
 have hps : (D'.map (·.1)).Pairwise (St.ltU true) := pair_strict ((q1.map (·.1)).nodup_iff.2 (HP.out.nodup_iff.2 (St.pr_nodup T))) (q2.imp fun {a b} hab => by simpa [ltO, St.ltU] using hab)
 have hpp : (D'.map (·.1)).Perm (St.pr T) := (q1.map (·.1)).trans HP.out
 have HF := Lib.hid hfin
 have HPS := Lib.hid hps
 have HPP := Lib.hid hpp
 have HB4 := Lib.hid hB4
 change Blk w3 _ _ _ at hbx4
 have hc4 := hbx4.cell 0
 have hf4 := hbx4.frozen 0
 simp at hc4
 have hbx5 := hbx4.set 0 (.slice (some ⟨mg, 0, none⟩) D.length cap)
 have hc5 := hbx5.cell 0
 simp at hc5
 have hfin2 : Stk true n T w (.returned (.tuple #[.slice (some ⟨mg, 0, none⟩) D.length cap, .int .i64 0, .int .i64 0])) (w3.setCell ⟨w.heap.size, 0, none⟩ (.slice (some ⟨mg, 0, none⟩) D.length cap)) := by
  obtain ⟨g1, g2, g3, g4, g5⟩ := hfin
  refine ⟨D', mg, cap, by rw [hdl], hps, hpp, ⟨g1, by simpa [World.setCell] using g2, ?_, fun d hd => ⟨(g4 d hd).1, (g4 d hd).2.1, Blk.far (g4 d hd).2.2 (p := ⟨w.heap.size, 0, none⟩) (by have := HROW.out d (q1.mem_iff.1 hd); simp; omega) _⟩, g5⟩, hB4.setCell (p := ⟨w.heap.size, 0, none⟩) (Nat.le_refl _) _⟩
  intro j hj
  have := g3 j hj
  have hne : mg ≠ w.heap.size := by omega
  have hblk := Below.heap_setCell w3 ⟨w.heap.size, 0, none⟩ (.slice (some ⟨mg, 0, none⟩) D.length cap) mg hne
  exact ⟨(World.cell?_of_block hblk).trans this.1, (World.frozen?_of_block hblk).trans this.2⟩
 have HFIN := Lib.hid hfin2
 clear hfin2 hfin hps hpp hB4 HF HPS HPP HB4 q1 q2 q3 q4 HROW HP HND HB3 HOB HBX3 hbx4 hbx5 hcell hcell3 hfz
 go_wp2
 refine bodyPost_ret (v := .tuple #[.slice (some ⟨mg, 0, none⟩) D.length cap, .int .i64 0, .int .i64 0]) ?_ rfl HFIN.out
 simp [results, Tryz.results16, go_sem, hc5]

set_option maxRecDepth 100000 in
set_option maxHeartbeats 8000000 in
theorem merge_offers_no (A : Option Addr) (n c : Nat) (ls : List (List (Int × Int))) (w : World) (h : CsAt w A n ls) (hs : ∀ l ∈ ls, l.length ≤ 1000000000000) (hc : (ckC true ls).2 ≠ 0) :
  Calls Tryz.prog 16 #[.slice A n c] w fun e w' => e = .returned (.tuple #[.slice none 0 0, .int .i64 (ckC true ls).1, .int .i64 (ckC true ls).2]) ∧ Below w.heap.size w w' := by
 have T1 := fun W (hW : Below w.heap.size w W) => ccurves_offers A n c ls W (h.below hW) hs
 generalize (ckC true ls).1 = pl at *
 generalize (ckC true ls).2 = x at *
 have hx : (x != 0) = true := by simpa using hc
 have HT1 := Lib.hid T1
 clear T1 h hs hc
 go_enter Tryz.func16, Tryz.ntmps16
 go_wp2_with fail
 have hbx := Blk.new w 30 #[.slice none 0 0]
 have hb0 : Below w.heap.size w (w.alloc (.cells #[.slice none 0 0] 30)) := (Below.refl _ _).alloc (Nat.le_refl _) _
 generalize w.alloc (.cells #[.slice none 0 0] 30) = W at *
 refine (HT1.out W hb0).mono ?_
 rintro e w1 ⟨rfl, hb1⟩
 have hbx1 := hbx.below hb1 hbx.lt
 have hB1 := hb0.trans (hb1.mono hb0.size)
 have hc1 := hbx1.cell 0
 have hf1 := hbx1.frozen 0
 have hbx2 := hbx1.set 0 (.slice none 0 0)
 have hc2 := hbx2.cell 0
 simp at hc1 hc2
 have HB2 := Lib.hid (hB1.setCell (p := ⟨w.heap.size, 0, none⟩) (Nat.le_refl _) (.slice none 0 0))
 clear hbx hb0 hb1 HT1 hbx1 hB1 hbx2
 go_wp2
 refine bodyPost_ret (v := .tuple #[.slice none 0 0, .int .i64 pl, .int .i64 x]) ?_ rfl ⟨rfl, HB2.out⟩
 simp [results, Tryz.results16, go_sem, hc2]

set_option maxRecDepth 100000 in
set_option maxHeartbeats 8000000 in
theorem merge_bids_ok (A : Option Addr) (n c : Nat) (ls : List (List (Int × Int))) (w : World) (h : CsAt w A n ls) (hs : ∀ l ∈ ls, l.length ≤ 1000000000000) (hc : (ckC false ls).2 = 0) :
  Calls Tryz.prog 17 #[.slice A n c] w (Stk false n (St.tri 0 ls) w) := by
 have T1 := fun W (hW : Below w.heap.size w W) => ccurves_bids A n c ls W (h.below hW) hs
 obtain ⟨hn, _, hg⟩ := ckC_good hc
 rw [hc] at T1
 have T2 := fun W (hW : Below w.heap.size w W) => collect_any A n c ls W (h.below hW) (by rw [← h.1]; exact hn) hg
 have hT : (St.pr (St.tri 0 ls)).length ≤ 48 := by
  have a1 := St.pr_len (St.tri 0 ls)
  have a2 := St.tri_len ls 0 fun l hl => (hg l hl).1
  omega
 generalize (ckC false ls).1 = pl at *
 have HT1 := Lib.hid T1
 have HT2 := Lib.hid T2
 generalize St.tri 0 ls = T at *
 clear T1 T2 h hs hc hg
 go_enter Tryz.func17, Tryz.ntmps17
 go_wp2_with fail
 have hbx := Blk.new w 30 #[.slice none 0 0]
 have hb0 : Below w.heap.size w (w.alloc (.cells #[.slice none 0 0] 30)) := (Below.refl _ _).alloc (Nat.le_refl _) _
 generalize w.alloc (.cells #[.slice none 0 0] 30) = W at *
 refine (HT1.out W hb0).mono ?_
 rintro e w1 ⟨rfl, hb1⟩
 have HBX1 := Lib.hid (hbx.below hb1 hbx.lt)
 have HB1 := Lib.hid (hb0.trans (hb1.mono hb0.size))
 clear hbx hb0 hb1 HT1
 go_wp2_with fail
 refine (HT2.out w1 HB1.out).mono ?_
 rintro e w2 ⟨D, mg, cap, rfl, hp, hO, hrow, hnd, hb2⟩
 have hbx2 := HBX1.out.below hb2 HBX1.out.lt
 have hB2 := HB1.out.trans (hb2.mono HB1.out.size)
 have hx1 := HBX1.out.lt
 obtain ⟨hH, hmg1, hmg2⟩ := hO.holds
 have hfz := hbx2.frozen 0
 have hbx3 := hbx2.set 0 (.slice (some ⟨mg, 0, none⟩) D.length cap)
 have hcell := hbx2.cell 0
 have hcell3 := hbx3.cell 0
 simp at hcell3
 have hH3 : HoldsK (encL n T) 3 (w2.setCell ⟨w.heap.size, 0, none⟩ (.slice (some ⟨mg, 0, none⟩) D.length cap)) mg 0 D.toArray := (hO.aside (p := ⟨w.heap.size, 0, none⟩) hx1 _).holds.1
 have hrow3 : ∀ d ∈ D, w1.heap.size ≤ d.2 ∧ IRow (w2.setCell ⟨w.heap.size, 0, none⟩ (.slice (some ⟨mg, 0, none⟩) D.length cap)) d.2 (St.parts n T d.1) := fun d hd => ⟨(hrow d hd).1, Blk.far (hrow d hd).2 (p := ⟨w.heap.size, 0, none⟩) (by have := (hrow d hd).1; simp; omega) _⟩
 have hB3 := hB2.setCell (p := ⟨w.heap.size, 0, none⟩) (Nat.le_refl _) (.slice (some ⟨mg, 0, none⟩) D.length cap)
 have hs3 : (w2.setCell ⟨w.heap.size, 0, none⟩ (.slice (some ⟨mg, 0, none⟩) D.length cap)).heap.size = w2.heap.size := by simp [World.setCell]
 have hsm := sort_bids n T mg cap w.heap.size D _ hH3 (by rw [hs3]; exact hmg2) hcell3 (by rw [hs3]; exact Nat.lt_of_lt_of_le hx1 hb2.size) (by omega) (by
  have a1 := hp.length_eq
  rw [List.length_map] at a1
  omega)
 have HSM := Lib.hid hsm
 have HROW := Lib.hid hrow3
 have HP := Lib.hid hp
 have HND := Lib.hid hnd
 have HB3 := Lib.hid hB3
 have HOB := Lib.hid hO
 have HBX3 := Lib.hid hbx3
 clear hsm hrow3 hp hnd hB3 hO hbx3 hH hH3 hrow hbx2 hB2 hb2 HT2
 go_wp2_with fail
 refine HSM.out.mono ?_
 rintro e w3 ⟨rfl, D', q1, q2, q3, q4⟩
 have hbx4 := (q4.block w.heap.size HBX3.out.lt (by simp; omega)).trans HBX3.out
 have hB4 : Below w.heap.size w w3 := HB3.out.trans ⟨q4.os, q4.tape, q4.output, q4.size, fun k hk => q4.block k (by have := HB3.out.size; omega) (by simp; omega)⟩
 have hmgr : ∀ d ∈ D, d.2 ≠ mg := fun d hd e => by
  have h1 := (HROW.out d hd).2
  rw [e] at h1
  have h2 := HOB.out.aside (p := ⟨w.heap.size, 0, none⟩) hx1 (.slice (some ⟨mg, 0, none⟩) D.length cap)
  rcases h2.2 with ⟨h7, _⟩ | ⟨g', cap', cur', h7, _, h8, _⟩
  ·simp at h7
  ·simp at h7
   obtain ⟨rfl, _⟩ := h7
   unfold IRow Blk at h1
   rw [h8] at h1
   simp at h1
 have hdl : D'.length = D.length := q1.length_eq
 have hfin : LvO w.heap.size n w3 mg T D' := by
  refine ⟨by have := HB1.out.size; omega, Nat.lt_of_lt_of_le (by rw [hs3]; exact hmg2) q4.size, q3, fun d hd => ?_, (q1.map (·.2)).nodup_iff.2 HND.out⟩
  have hd' := q1.mem_iff.1 hd
  have h1 := HROW.out d hd'
  refine ⟨by have := HB1.out.size; omega, hmgr d hd', (q4.block d.2 (Blk.lt h1.2) (by have := hmgr d hd'; simp; omega)).trans h1.2⟩
 have hps : (D'.map (·.1)).Pairwise (St.ltU false) := pair_strict ((q1.map (·.1)).nodup_iff.2 (HP.out.nodup_iff.2 (St.pr_nodup T))) (q2.imp fun {a b} hab => by simpa [ltB, St.ltU] using hab)
 have hpp : (D'.map (·.1)).Perm (St.pr T) := (q1.map (·.1)).trans HP.out
 have HF := Lib.hid hfin
 have HPS := Lib.hid hps
 have HPP := Lib.hid hpp
 have HB4 := Lib.hid hB4
 change Blk w3 _ _ _ at hbx4
 have hc4 := hbx4.cell 0
 have hf4 := hbx4.frozen 0
 simp at hc4
 have hbx5 := hbx4.set 0 (.slice (some ⟨mg, 0, none⟩) D.length cap)
 have hc5 := hbx5.cell 0
 simp at hc5
 have hfin2 : Stk false n T w (.returned (.tuple #[.slice (some ⟨mg, 0, none⟩) D.length cap, .int .i64 0, .int .i64 0])) (w3.setCell ⟨w.heap.size, 0, none⟩ (.slice (some ⟨mg, 0, none⟩) D.length cap)) := by
  obtain ⟨g1, g2, g3, g4, g5⟩ := hfin
  refine ⟨D', mg, cap, by rw [hdl], hps, hpp, ⟨g1, by simpa [World.setCell] using g2, ?_, fun d hd => ⟨(g4 d hd).1, (g4 d hd).2.1, Blk.far (g4 d hd).2.2 (p := ⟨w.heap.size, 0, none⟩) (by have := HROW.out d (q1.mem_iff.1 hd); simp; omega) _⟩, g5⟩, hB4.setCell (p := ⟨w.heap.size, 0, none⟩) (Nat.le_refl _) _⟩
  intro j hj
  have := g3 j hj
  have hne : mg ≠ w.heap.size := by omega
  have hblk := Below.heap_setCell w3 ⟨w.heap.size, 0, none⟩ (.slice (some ⟨mg, 0, none⟩) D.length cap) mg hne
  exact ⟨(World.cell?_of_block hblk).trans this.1, (World.frozen?_of_block hblk).trans this.2⟩
 have HFIN := Lib.hid hfin2
 clear hfin2 hfin hps hpp hB4 HF HPS HPP HB4 q1 q2 q3 q4 HROW HP HND HB3 HOB HBX3 hbx4 hbx5 hcell hcell3 hfz
 go_wp2
 refine bodyPost_ret (v := .tuple #[.slice (some ⟨mg, 0, none⟩) D.length cap, .int .i64 0, .int .i64 0]) ?_ rfl HFIN.out
 simp [results, Tryz.results17, go_sem, hc5]

set_option maxRecDepth 100000 in
set_option maxHeartbeats 8000000 in
theorem merge_bids_no (A : Option Addr) (n c : Nat) (ls : List (List (Int × Int))) (w : World) (h : CsAt w A n ls) (hs : ∀ l ∈ ls, l.length ≤ 1000000000000) (hc : (ckC false ls).2 ≠ 0) :
  Calls Tryz.prog 17 #[.slice A n c] w fun e w' => e = .returned (.tuple #[.slice none 0 0, .int .i64 (ckC false ls).1, .int .i64 (ckC false ls).2]) ∧ Below w.heap.size w w' := by
 have T1 := fun W (hW : Below w.heap.size w W) => ccurves_bids A n c ls W (h.below hW) hs
 generalize (ckC false ls).1 = pl at *
 generalize (ckC false ls).2 = x at *
 have hx : (x != 0) = true := by simpa using hc
 have HT1 := Lib.hid T1
 clear T1 h hs hc
 go_enter Tryz.func17, Tryz.ntmps17
 go_wp2_with fail
 have hbx := Blk.new w 30 #[.slice none 0 0]
 have hb0 : Below w.heap.size w (w.alloc (.cells #[.slice none 0 0] 30)) := (Below.refl _ _).alloc (Nat.le_refl _) _
 generalize w.alloc (.cells #[.slice none 0 0] 30) = W at *
 refine (HT1.out W hb0).mono ?_
 rintro e w1 ⟨rfl, hb1⟩
 have hbx1 := hbx.below hb1 hbx.lt
 have hB1 := hb0.trans (hb1.mono hb0.size)
 have hc1 := hbx1.cell 0
 have hf1 := hbx1.frozen 0
 have hbx2 := hbx1.set 0 (.slice none 0 0)
 have hc2 := hbx2.cell 0
 simp at hc1 hc2
 have HB2 := Lib.hid (hB1.setCell (p := ⟨w.heap.size, 0, none⟩) (Nat.le_refl _) (.slice none 0 0))
 clear hbx hb0 hb1 HT1 hbx1 hB1 hbx2
 go_wp2
 refine bodyPost_ret (v := .tuple #[.slice none 0 0, .int .i64 pl, .int .i64 x]) ?_ rfl ⟨rfl, HB2.out⟩
 simp [results, Tryz.results17, go_sem, hc2]

end Go.Proofs.YtjajigkacccdgaaGreat

namespace Go.Proofs.YtjajigkacccdgaaGreat
set_option linter.unusedVariables false
set_option linter.unusedSimpArgs false
open Go.RowKit

/-- A world in which nothing of W has turned. -/
structure KW (W : World) where
 w : World
 h : Kp W w
instance KW.some (W : World) : Nonempty (KW W) := ⟨⟨W, Kp.refl W⟩⟩
theorem wp_region_kw {P : Program} {id : Nat} {Q : Exit → Act → World → Prop} {a : Act} {W : World} {l : List Oper} (hm : P.follows .mixedOrders = true) (hB : Region.lexB .any l.toArray = true)
  (h : wpQuiet P l.toArray (fun w' => ∃ s : KW W, w' = s.w) (fun a' => ∀ w', (∃ s : KW W, w' = s.w) → Q .normal a' w') l a) : (Code.region id l.toArray true).wp P Q a W :=
 wp_region_quiet (C := fun w' => ∃ s : KW W, w' = s.w) hm hB ⟨⟨W.drew, Kp.drew (Kp.refl W)⟩, rfl⟩ (by simpa using h)
theorem kw_call {P : Program} {f : FuncId} {args : Array Value} {W : World} {s : KW W} {v : Value} (h : Calls P f args s.w fun e w' => e = .returned v ∧ Below s.w.heap.size s.w w') :
  Calls P f args s.w fun e w'' => e = .returned v ∧ ∃ s' : KW W, w'' = s'.w :=
 h.mono fun _ w' ⟨he, hb⟩ => ⟨he, ⟨w', Kp.trans s.h hb⟩, rfl⟩
theorem KW.cell {W : World} {g : Nat} {t : TypeId} {cs : Array Value} (h : Blk W g t cs) (i : Nat) (s : KW W) : s.w.cell? ⟨g, i, none⟩ = cs[i]? := (Kp.blk s.h h).cell i

end Go.Proofs.YtjajigkacccdgaaGreat
