/-
Contract of Mul of package whole. No statement of the seat is proved here; no conditions beyond those of each theorem.
-/
import Derived.Test.YthpldmlpononhaaGreatW6
namespace Go.Proofs.YthpldmlpononhaaGreat
set_option linter.unusedVariables false
set_option linter.unusedSimpArgs false
open Go.RowKit
open Wd

theorem sg_mul (a b : Bool) (m n : Nat) : sg (a != b) (m * n) = sg a m * sg b n := by
  unfold sg
  cases a <;> cases b <;> simp [Int.mul_neg, Int.neg_mul]

theorem len_one {m : Nat} (h : (digs m).length ≤ 1) : m < 4294967296 := by
  have := digs_len_le.1 h; simpa using this

theorem small_int (neg : Bool) (z : Int) (w : World) (h0 : 0 ≤ z) (hn : z < 18446744073709551616) :
    Calls Tryz.prog 112 #[.bool neg, .int .u64 z] w (RetZ w (sg neg z.toNat)) := by
  obtain ⟨n, rfl⟩ := Int.eq_ofNat_of_zero_le h0
  exact small_any neg n w (by omega)

theorem low_bel (A : Option Addr) (n c : Nat) (l : List Nat) (w : World) (h : Wat w A n l) (hn : n ≤ 2) :
    Calls Tryz.prog 113 #[.slice A n c] w fun e w' => e = .returned (.int .u64 (val l : Nat)) ∧ Below w.heap.size w w' :=
  (low_any A n c l w h hn).mono fun _ _ ⟨he, k, hk⟩ => ⟨he, by rw [hk]; exact belowN _ _⟩

set_option maxHeartbeats 4000000 in
theorem mul_any (neg neg' : Bool) (A A' : Option Addr) (n n' c c' : Nat) (l l' : List Nat) (w : World) (h : Wat w A n l) (h' : Wat w A' n' l') (hnc : n ≤ c) (hnc' : n' ≤ c') (hm : n ≤ 100000000000) (hm' : n' ≤ 100000000000) :
    Calls Tryz.prog 77 #[.agg #[.bool neg, .slice A n c], .agg #[.bool neg', .slice A' n' c']] w (RetZ w (sg neg (val l) * sg neg' (val l'))) := by
  rw [← sg_mul]
  go_enter Tryz.func77, Tryz.ntmps77
  go_wp2_with fail
  have hB0 := ((Blk.new w 29 #[.bool neg, .slice A n c]).alloc (.cells #[.bool neg', .slice A' n' c'] 29)).alloc (.cells #[.bool false, .slice none 0 0] 29)
  have hB1 := (Blk.new1 w (.cells #[.bool neg, .slice A n c] 29) 29 #[.bool neg', .slice A' n' c']).alloc (.cells #[.bool false, .slice none 0 0] 29)
  have hB2 := Blk.new2 w (.cells #[.bool neg, .slice A n c] 29) (.cells #[.bool neg', .slice A' n' c'] 29) 29 #[.bool false, .slice none 0 0]
  have hBW : Below w.heap.size w (((w.alloc (.cells #[.bool neg, .slice A n c] 29)).alloc (.cells #[.bool neg', .slice A' n' c'] 29)).alloc (.cells #[.bool false, .slice none 0 0] 29)) := (((Below.refl _ _).alloc (Nat.le_refl _) _).alloc (by simp only [World.size_alloc]; omega) _).alloc (by simp only [World.size_alloc]; omega) _
  have hsz : (((w.alloc (.cells #[.bool neg, .slice A n c] 29)).alloc (.cells #[.bool neg', .slice A' n' c'] 29)).alloc (.cells #[.bool false, .slice none 0 0] 29)).heap.size = w.heap.size + 1 + 1 + 1 := by simp
  generalize ((w.alloc (.cells #[.bool neg, .slice A n c] 29)).alloc (.cells #[.bool neg', .slice A' n' c'] 29)).alloc (.cells #[.bool false, .slice none 0 0] 29) = W at *
  have HSZ := Lib.hid hsz
  clear hsz
  have s4 := RS.start hB2
  have hw : ∀ w', RS (w.heap.size + 1 + 1) 29 W w' → Wat w' A n l ∧ Wat w' A' n' l' := fun w' hk => ⟨h.below (hBW.trans (hk.1.mono (by omega))), h'.below (hBW.trans (hk.1.mono (by omega)))⟩
  have HW := Lib.hid hw
  have hle := h.trim_le
  have hle' := h'.trim_le
  clear hw
  have T1 := Lib.hid (fun W1 (hb : RS (w.heap.size + 1 + 1) 29 W W1) => trim_any A n c l W1 (HW.out _ hb).1 hnc (by omega))
  have T2 := Lib.hid (fun W1 (hb : RS (w.heap.size + 1 + 1) 29 W W1) => trim_any A' n' c' l' W1 (HW.out _ hb).2 hnc' (by omega))
  obtain ⟨c0, c1, -, -⟩ := hB0.two
  obtain ⟨c2, c3, -, -⟩ := hB1.two
  go_quiet ((first | (go_at_call_of 110 (Value.slice A n c); exact quiet_left (T1.out _ (s4.drewN _))) | (go_at_call_of 110 (Value.slice A' n' c'); exact quiet_left (T2.out _ (s4.drewN _)))))
  have s5 := s4.drewN nq
  clear T1 T2 s4 c0 c1 c2 c3
  have hT := fun W1 (hb : RS (w.heap.size + 1 + 1) 29 W W1) => (HW.out _ hb).1.trim
  have hT' := fun W1 (hb : RS (w.heap.size + 1 + 1) 29 W W1) => (HW.out _ hb).2.trim
  have HT := Lib.hid hT
  have HT' := Lib.hid hT'
  have hv1 := @len_one (val l)
  have hv2 := @len_one (val l')
  clear hT hT' HW
  have hvd := val_digs (val l)
  have hvd' := val_digs (val l')
  have HVD := Lib.hid hvd
  have HVD' := Lib.hid hvd'
  clear hvd hvd'
  generalize val l = m at *
  generalize val l' = m' at *
  by_cases hb : (digs m).length ≤ 1 ∧ (digs m').length ≤ 1
  · obtain ⟨hb1, hb2⟩ := hb
    have hv1 := hv1 hb1
    have hv2 := hv2 hb2
    generalize digs m = D at *
    generalize digs m' = D' at *
    generalize D.length = k at *
    generalize D'.length = k' at *
    have hp : m * m' < 18446744073709551616 := by
      have : m * m' ≤ 4294967295 * 4294967295 := Nat.mul_le_mul (by omega) (by omega)
      omega
    have hmm : (m : Int) * (m' : Int) = ((m * m' : Nat) : Int) := by omega
    have hw1 : IntKind.u64.wrap ((m : Int) * (m' : Int)) = (m : Int) * (m' : Int) := by
      rw [IntKind.wrap_u64, hmm]; omega
    have HMM := Lib.hid hmm
    have HP := Lib.hid hp
    clear hmm hp hv1 hv2
    go_wp2_with fail
    have hS : ∀ w', RS (w.heap.size + 1 + 1) 29 W w' → (w'.cell? ⟨w.heap.size, 0, none⟩ = some (.bool neg) ∧ w'.cell? ⟨w.heap.size, 1, none⟩ = some (.slice A n c) ∧ w'.cell? ⟨w.heap.size + 1, 0, none⟩ = some (.bool neg') ∧ w'.cell? ⟨w.heap.size + 1, 1, none⟩ = some (.slice A' n' c')) ∧ RS (w.heap.size + 1 + 1) 29 W w' := fun w' hk => ⟨⟨(hk.blk hB0 (by omega)).cell 0, (hk.blk hB0 (by omega)).cell 1, (hk.blk hB1 (by omega)).cell 0, (hk.blk hB1 (by omega)).cell 1⟩, hk⟩
    have HS := Lib.hid hS
    clear hS
    clear hB2
    go_region_held3 (fun w' => (w'.cell? ⟨w.heap.size, 0, none⟩ = some (.bool neg) ∧ w'.cell? ⟨w.heap.size, 1, none⟩ = some (.slice A n c) ∧ w'.cell? ⟨w.heap.size + 1, 0, none⟩ = some (.bool neg') ∧ w'.cell? ⟨w.heap.size + 1, 1, none⟩ = some (.slice A' n' c')) ∧ RS (w.heap.size + 1 + 1) 29 W w')
      (first | (with_reducible refine HS.out _ ?_; with_reducible assumption) | (with_reducible refine HS.out _ (RS.drew ?_); with_reducible assumption) | (with_reducible refine' HS.out _ (RS.drew (And.right ?_)); rotate_left; with_reducible assumption) | (with_reducible refine' HS.out _ (RS.set (And.right ?_) _ _); rotate_left; with_reducible assumption))
      (first
        | (go_at_call_of 113 (Value.slice A k c); have hk := And.right ‹_ ∧ RS (w.heap.size + 1 + 1) 29 W _›; refine (low_bel A _ c _ _ (HT.out _ hk) (by omega)).mono ?_; rw [HVD.out]; rintro e w1 ⟨rfl, hb1⟩; have hr1 := hk.call hb1)
        | (go_at_call_of 113 (Value.slice A' k' c'); have hk := And.right ‹_ ∧ RS (w.heap.size + 1 + 1) 29 W _›; refine (low_bel A' _ c' _ _ (HT'.out _ hk) (by omega)).mono ?_; rw [HVD'.out]; rintro e w2 ⟨rfl, hb2⟩; have hr2 := hk.call hb2)
        | (go_at_call 112; have hk := And.right ‹_ ∧ RS (w.heap.size + 1 + 1) 29 W _›; refine (small_int (neg != neg') _ _ (by rw [HMM.out]; omega) (by rw [HMM.out]; have := HP.out; omega)).mono ?_; rw [HMM.out, Int.toNat_natCast]; rintro e w3 ⟨A3, k3, c3, rfl, hk3, hW3, hF3, hb3⟩; have hz3 := hk.1.size; have hr3 := hk.call hb3; obtain ⟨_, _, c0, c1, f0, f1⟩ := hr3.two))
    have hfin := retZ_close hBW (by omega) (by have := HSZ.out; omega) hr3 hk3 hW3 hF3
    obtain ⟨d0, d1, -, -⟩ := (hr3.done (.bool (decide (sg (neg != neg') (m * m') < 0))) (.slice A3 k3 c3)).two
    have HF := Lib.hid hfin
    clear hfin
    go_wp2
    refine bodyPost_ret (v := .agg #[.bool (decide (sg (neg != neg') (m * m') < 0)), .slice A3 k3 c3]) ?_ rfl HF.out
    simp [results, Tryz.results77, go_sem, d0, d1]
  · have hb' : ¬ ((digs m).length ≤ 1) ∨ ((digs m).length ≤ 1 ∧ ¬ ((digs m').length ≤ 1)) := by omega
    clear hb hv1 hv2
    have hmu := fun W1 (hb : RS (w.heap.size + 1 + 1) 29 W W1) => mulWords_any A A' _ _ c c' _ _ W1 (HT.out _ hb) (HT'.out _ hb) (by omega) (by omega)
    rw [HVD.out, HVD'.out] at hmu
    have HMU := Lib.hid hmu
    clear hmu
    generalize digs m = D at *
    generalize digs m' = D' at *
    generalize D.length = k at *
    generalize D'.length = k' at *
    rcases hb' with hb1 | ⟨hb1, hb2⟩
    all_goals
      go_wp2_with fail
      have hS : ∀ w', RS (w.heap.size + 1 + 1) 29 W w' → (w'.cell? ⟨w.heap.size, 0, none⟩ = some (.bool neg) ∧ w'.cell? ⟨w.heap.size, 1, none⟩ = some (.slice A n c) ∧ w'.cell? ⟨w.heap.size + 1, 0, none⟩ = some (.bool neg') ∧ w'.cell? ⟨w.heap.size + 1, 1, none⟩ = some (.slice A' n' c')) ∧ RS (w.heap.size + 1 + 1) 29 W w' := fun w' hk => ⟨⟨(hk.blk hB0 (by omega)).cell 0, (hk.blk hB0 (by omega)).cell 1, (hk.blk hB1 (by omega)).cell 0, (hk.blk hB1 (by omega)).cell 1⟩, hk⟩
      have HS := Lib.hid hS
      clear hS
      clear hB2
      go_region_held3 (fun w' => (w'.cell? ⟨w.heap.size, 0, none⟩ = some (.bool neg) ∧ w'.cell? ⟨w.heap.size, 1, none⟩ = some (.slice A n c) ∧ w'.cell? ⟨w.heap.size + 1, 0, none⟩ = some (.bool neg') ∧ w'.cell? ⟨w.heap.size + 1, 1, none⟩ = some (.slice A' n' c')) ∧ RS (w.heap.size + 1 + 1) 29 W w')
        (first | (with_reducible refine HS.out _ ?_; with_reducible assumption) | (with_reducible refine HS.out _ (RS.drew ?_); with_reducible assumption) | (with_reducible refine' HS.out _ (RS.drew (And.right ?_)); rotate_left; with_reducible assumption) | (with_reducible refine' HS.out _ (RS.set (And.right ?_) _ _); rotate_left; with_reducible assumption))
        (first
          | (go_at_call 115; have hk := And.right ‹_ ∧ RS (w.heap.size + 1 + 1) 29 W _›; refine (HMU.out _ hk).mono ?_; rintro e w1 ⟨p1, ⟨A1, c1, rfl, hk1, hcm1, hW1, hF1, hb1⟩, hp1⟩; have hz1 := hk.1.size; have hr1 := hk.call hb1; have HP := Lib.hid hp1; clear hp1)
          | (go_at_call 114; have hk := And.right ‹_ ∧ RS (w.heap.size + 1 + 1) 29 W _›; refine (build_any (neg != neg') A1 _ c1 _ _ hW1 hk1 (by omega)).mono ?_; intro e w2 hr; have hr := RetZ.of_in hb1 hW1 hF1 hk1 hr; rw [HP.out] at hr; obtain ⟨A2, k2, c2, rfl, hk2, hW2, hF2, hb2⟩ := hr; have hr2 := RS.call ‹RS _ _ W (World.drew _)› hb2; obtain ⟨_, _, c0, c1, f0, f1⟩ := hr2.two))
      have hfin := retZ_close hBW (by omega) (by have := HSZ.out; omega) hr2 hk2 hW2 hF2
      obtain ⟨d0, d1, -, -⟩ := (hr2.done (.bool (decide (sg (neg != neg') (m * m') < 0))) (.slice A2 k2 c2)).two
      have HF := Lib.hid hfin
      clear hfin hr
      go_wp2
      refine bodyPost_ret (v := .agg #[.bool (decide (sg (neg != neg') (m * m') < 0)), .slice A2 k2 c2]) ?_ rfl HF.out
      simp [results, Tryz.results77, go_sem, d0, d1]

end Go.Proofs.YthpldmlpononhaaGreat
