/-
The statements of layer 30: room. Plain law of the statements of layer 30, over what Fill of package reserve computes. No statement of the seat is proved here; no conditions beyond those of each theorem.
-/
import Derived.Test.YtodkhjihkkmplaaGreatLRt1
import Derived.Test.YtodkhjihkkmplaaGreatLPZ
namespace Go.Proofs.YtodkhjihkkmplaaGreat
set_option linter.unusedVariables false
set_option linter.unusedSimpArgs false
open Go.RowKit
open Wd

/-- The unused capacity of a unit. -/
def roomV (b : Bool) (u : Un) (q : Rat) : Rat := if b then ((umax u : Int) : Rat) - q else ((0 : Int) : Rat)
set_option maxRecDepth 100000 in
set_option maxHeartbeats 2000000 in
theorem room_any (K : Nat) (hK : K ≤ 17) (b : Bool) (bus mn up dn start idle spin on : Int) (A' aA aA' : Option Addr) (n' c' ak ac ak' ac' : Nat) (an an' : Bool) (st : List (Int × Int)) (q : Rat) (w : World) (hs : StAt w A' n' st) (hn' : n' ≤ 1000000000000) (hq : QK K w an aA ak ac an' aA' ak' ac' q)
    (hu0 : 0 ≤ umax ⟨bus, mn, st, up, dn, start, idle, spin, on⟩) (hu1 : umax ⟨bus, mn, st, up, dn, start, idle, spin, on⟩ ≤ 3000000) :
    Calls Tryz.prog 28 #[.agg #[.int .i64 bus, .int .i64 mn, .slice A' n' c', .int .i64 up, .int .i64 dn, .int .i64 start, .int .i64 idle, .int .i64 spin, .int .i64 on], .bool b, .agg #[.bool an, .slice aA ak ac, .bool an', .slice aA' ak' ac']] w (RetQ w (roomV b ⟨bus, mn, st, up, dn, start, idle, spin, on⟩ q)) := by
  have T := Lib.hid (fun W hW => umax_raw bus mn up dn start idle spin on A' n' c' st W hW hn')
  unfold roomV
  generalize umax ⟨bus, mn, st, up, dn, start, idle, spin, on⟩ = um at *
  cases b
  · simp only [Bool.false_eq_true, if_false]
    have FI := Lib.hid (fun W => qfromInt64_any 0 W (by omega) (by omega))
    generalize ((0 : Int) : Rat) = y at *
    clear hq hs T
    go_enter Tryz.func28, Tryz.ntmps28
    go_wp2_with fail
    have hB0 := ((Blk.new w 48 #[.int .i64 bus, .int .i64 mn, .slice A' n' c', .int .i64 up, .int .i64 dn, .int .i64 start, .int .i64 idle, .int .i64 spin, .int .i64 on]).alloc (.cells #[.bool an, .slice aA ak ac, .bool an', .slice aA' ak' ac'] 31)).alloc (.cells #[.bool false, .slice none 0 0, .bool false, .slice none 0 0] 31)
    have hB1 := (Blk.new1 w (.cells #[.int .i64 bus, .int .i64 mn, .slice A' n' c', .int .i64 up, .int .i64 dn, .int .i64 start, .int .i64 idle, .int .i64 spin, .int .i64 on] 48) 31 #[.bool an, .slice aA ak ac, .bool an', .slice aA' ak' ac']).alloc (.cells #[.bool false, .slice none 0 0, .bool false, .slice none 0 0] 31)
    have hB2 := Blk.new2 w (.cells #[.int .i64 bus, .int .i64 mn, .slice A' n' c', .int .i64 up, .int .i64 dn, .int .i64 start, .int .i64 idle, .int .i64 spin, .int .i64 on] 48) (.cells #[.bool an, .slice aA ak ac, .bool an', .slice aA' ak' ac'] 31) 31 #[.bool false, .slice none 0 0, .bool false, .slice none 0 0]
    have hBW : Below w.heap.size w (((w.alloc (.cells #[.int .i64 bus, .int .i64 mn, .slice A' n' c', .int .i64 up, .int .i64 dn, .int .i64 start, .int .i64 idle, .int .i64 spin, .int .i64 on] 48)).alloc (.cells #[.bool an, .slice aA ak ac, .bool an', .slice aA' ak' ac'] 31)).alloc (.cells #[.bool false, .slice none 0 0, .bool false, .slice none 0 0] 31)) := (((Below.refl _ _).alloc (Nat.le_refl _) _).alloc (by simp only [World.size_alloc]; omega) _).alloc (by simp only [World.size_alloc]; omega) _
    have hsz : (((w.alloc (.cells #[.int .i64 bus, .int .i64 mn, .slice A' n' c', .int .i64 up, .int .i64 dn, .int .i64 start, .int .i64 idle, .int .i64 spin, .int .i64 on] 48)).alloc (.cells #[.bool an, .slice aA ak ac, .bool an', .slice aA' ak' ac'] 31)).alloc (.cells #[.bool false, .slice none 0 0, .bool false, .slice none 0 0] 31)).heap.size = w.heap.size + 1 + 1 + 1 := by simp
    generalize ((w.alloc (.cells #[.int .i64 bus, .int .i64 mn, .slice A' n' c', .int .i64 up, .int .i64 dn, .int .i64 start, .int .i64 idle, .int .i64 spin, .int .i64 on] 48)).alloc (.cells #[.bool an, .slice aA ak ac, .bool an', .slice aA' ak' ac'] 31)).alloc (.cells #[.bool false, .slice none 0 0, .bool false, .slice none 0 0] 31) = W at *
    have HSZ := Lib.hid hsz
    clear hsz
    have hr := RS4.start hB2
    have hl9 := RS4.lt hr
    refine (FI.out _).mono ?_
    rintro e v9 ⟨A9, k9, c9, A10, k10, c10, rfl, hk9, hk10, hW9, hW10, hF9, hF10, hb9⟩
    have hr9 := hr.call hb9
    obtain ⟨_, _, _, _, f0, f1, f2, f3, f4, f5, f6, f7⟩ := hr9.four
    clear hr hB0 hB1 hB2
    have hfin := retQ_close hBW (by omega) (by have := HSZ.out; have h9 := hl9; omega) hr9 hk9 hk10 hW9 hW10 hF9 hF10
    obtain ⟨d0, d1, d2, d3, -, -, -, -⟩ := (hr9.done (.bool (decide ((y).num < 0))) (.slice A9 k9 c9) (.bool false) (.slice A10 k10 c10)).four
    have HF := Lib.hid hfin
    clear hfin hl9 hr9 FI
    go_wp2
    refine bodyPost_ret (v := .agg #[.bool (decide ((y).num < 0)), .slice A9 k9 c9, .bool false, .slice A10 k10 c10]) ?_ rfl HF.out
    simp [results, Tryz.results28, go_sem, d0, d1, d2, d3]
  · simp only [if_true]
    have FI := Lib.hid (fun W => qfromInt64_any um W (by omega) (by omega))
    go_enter Tryz.func28, Tryz.ntmps28
    go_wp2_with fail
    have hB0 := ((Blk.new w 48 #[.int .i64 bus, .int .i64 mn, .slice A' n' c', .int .i64 up, .int .i64 dn, .int .i64 start, .int .i64 idle, .int .i64 spin, .int .i64 on]).alloc (.cells #[.bool an, .slice aA ak ac, .bool an', .slice aA' ak' ac'] 31)).alloc (.cells #[.bool false, .slice none 0 0, .bool false, .slice none 0 0] 31)
    have hB1 := (Blk.new1 w (.cells #[.int .i64 bus, .int .i64 mn, .slice A' n' c', .int .i64 up, .int .i64 dn, .int .i64 start, .int .i64 idle, .int .i64 spin, .int .i64 on] 48) 31 #[.bool an, .slice aA ak ac, .bool an', .slice aA' ak' ac']).alloc (.cells #[.bool false, .slice none 0 0, .bool false, .slice none 0 0] 31)
    have hB2 := Blk.new2 w (.cells #[.int .i64 bus, .int .i64 mn, .slice A' n' c', .int .i64 up, .int .i64 dn, .int .i64 start, .int .i64 idle, .int .i64 spin, .int .i64 on] 48) (.cells #[.bool an, .slice aA ak ac, .bool an', .slice aA' ak' ac'] 31) 31 #[.bool false, .slice none 0 0, .bool false, .slice none 0 0]
    have hBW : Below w.heap.size w (((w.alloc (.cells #[.int .i64 bus, .int .i64 mn, .slice A' n' c', .int .i64 up, .int .i64 dn, .int .i64 start, .int .i64 idle, .int .i64 spin, .int .i64 on] 48)).alloc (.cells #[.bool an, .slice aA ak ac, .bool an', .slice aA' ak' ac'] 31)).alloc (.cells #[.bool false, .slice none 0 0, .bool false, .slice none 0 0] 31)) := (((Below.refl _ _).alloc (Nat.le_refl _) _).alloc (by simp only [World.size_alloc]; omega) _).alloc (by simp only [World.size_alloc]; omega) _
    have hsz : (((w.alloc (.cells #[.int .i64 bus, .int .i64 mn, .slice A' n' c', .int .i64 up, .int .i64 dn, .int .i64 start, .int .i64 idle, .int .i64 spin, .int .i64 on] 48)).alloc (.cells #[.bool an, .slice aA ak ac, .bool an', .slice aA' ak' ac'] 31)).alloc (.cells #[.bool false, .slice none 0 0, .bool false, .slice none 0 0] 31)).heap.size = w.heap.size + 1 + 1 + 1 := by simp
    generalize ((w.alloc (.cells #[.int .i64 bus, .int .i64 mn, .slice A' n' c', .int .i64 up, .int .i64 dn, .int .i64 start, .int .i64 idle, .int .i64 spin, .int .i64 on] 48)).alloc (.cells #[.bool an, .slice aA ak ac, .bool an', .slice aA' ak' ac'] 31)).alloc (.cells #[.bool false, .slice none 0 0, .bool false, .slice none 0 0] 31) = W at *
    have HSZ := Lib.hid hsz
    clear hsz
    have HS0 := Lib.hid (fun W' (hW : Below (w.heap.size + 1 + 1) W W') => hs.below (hBW.trans (hW.mono (by omega))))
    have HSUB := Lib.hid (fun W' (hW : Below (w.heap.size + 1 + 1) W W') (B B' : Option Addr) (k d k' d' : Nat) (h1 : k ≤ d) (h2 : k' ≤ d') (h3 : Wat W' B k (digs ((um : Int) : Rat).num.natAbs)) (h4 : Wat W' B' k' (denW ((um : Int) : Rat).den)) => sub_k (k := K) hK (wat_qk h1 h2 h3 h4 (lv_int K (by omega)) (by omega)) (hq.below (hBW.trans (hW.mono (by omega)))))
    have hr := RS4.start hB2
    clear hs hq
    generalize ((um : Int) : Rat) = qm at *
    generalize qm - q = y at *
    have hS : ∀ w', RS4 (w.heap.size + 1 + 1) 31 W w' → (w'.cell? ⟨w.heap.size, 0, none⟩ = some (.int .i64 bus) ∧ w'.cell? ⟨w.heap.size, 1, none⟩ = some (.int .i64 mn) ∧ w'.cell? ⟨w.heap.size, 2, none⟩ = some (.slice A' n' c') ∧ w'.cell? ⟨w.heap.size, 3, none⟩ = some (.int .i64 up) ∧ w'.cell? ⟨w.heap.size, 4, none⟩ = some (.int .i64 dn) ∧ w'.cell? ⟨w.heap.size, 5, none⟩ = some (.int .i64 start) ∧ w'.cell? ⟨w.heap.size, 6, none⟩ = some (.int .i64 idle) ∧ w'.cell? ⟨w.heap.size, 7, none⟩ = some (.int .i64 spin) ∧ w'.cell? ⟨w.heap.size, 8, none⟩ = some (.int .i64 on) ∧ w'.cell? ⟨w.heap.size + 1, 0, none⟩ = some (.bool an) ∧ w'.cell? ⟨w.heap.size + 1, 1, none⟩ = some (.slice aA ak ac) ∧ w'.cell? ⟨w.heap.size + 1, 2, none⟩ = some (.bool an') ∧ w'.cell? ⟨w.heap.size + 1, 3, none⟩ = some (.slice aA' ak' ac')) ∧ RS4 (w.heap.size + 1 + 1) 31 W w' := fun w' hk => ⟨⟨(hk.blk hB0 (by omega)).cell 0, (hk.blk hB0 (by omega)).cell 1, (hk.blk hB0 (by omega)).cell 2, (hk.blk hB0 (by omega)).cell 3, (hk.blk hB0 (by omega)).cell 4, (hk.blk hB0 (by omega)).cell 5, (hk.blk hB0 (by omega)).cell 6, (hk.blk hB0 (by omega)).cell 7, (hk.blk hB0 (by omega)).cell 8, (hk.blk hB1 (by omega)).cell 0, (hk.blk hB1 (by omega)).cell 1, (hk.blk hB1 (by omega)).cell 2, (hk.blk hB1 (by omega)).cell 3⟩, hk⟩
    have HS := Lib.hid hS
    clear hS
    go_region_held3 (fun w' => (w'.cell? ⟨w.heap.size, 0, none⟩ = some (.int .i64 bus) ∧ w'.cell? ⟨w.heap.size, 1, none⟩ = some (.int .i64 mn) ∧ w'.cell? ⟨w.heap.size, 2, none⟩ = some (.slice A' n' c') ∧ w'.cell? ⟨w.heap.size, 3, none⟩ = some (.int .i64 up) ∧ w'.cell? ⟨w.heap.size, 4, none⟩ = some (.int .i64 dn) ∧ w'.cell? ⟨w.heap.size, 5, none⟩ = some (.int .i64 start) ∧ w'.cell? ⟨w.heap.size, 6, none⟩ = some (.int .i64 idle) ∧ w'.cell? ⟨w.heap.size, 7, none⟩ = some (.int .i64 spin) ∧ w'.cell? ⟨w.heap.size, 8, none⟩ = some (.int .i64 on) ∧ w'.cell? ⟨w.heap.size + 1, 0, none⟩ = some (.bool an) ∧ w'.cell? ⟨w.heap.size + 1, 1, none⟩ = some (.slice aA ak ac) ∧ w'.cell? ⟨w.heap.size + 1, 2, none⟩ = some (.bool an') ∧ w'.cell? ⟨w.heap.size + 1, 3, none⟩ = some (.slice aA' ak' ac')) ∧ RS4 (w.heap.size + 1 + 1) 31 W w')
      (first | (with_reducible refine HS.out _ ?_; with_reducible assumption) | (with_reducible refine HS.out _ (RS4.drew ?_); with_reducible assumption) | (with_reducible refine' HS.out _ (RS4.drew (And.right ?_)); rotate_left; with_reducible assumption) | (with_reducible refine' HS.out _ (RS4.set (And.right ?_) _ _ _ _); rotate_left; with_reducible assumption))
      (first
        | (go_at_call 45; have hk := And.right ‹_ ∧ RS4 (w.heap.size + 1 + 1) 31 W _›; refine (T.out _ (HS0.out _ hk.1)).mono ?_; rintro e v4 ⟨rfl, hb⟩; have hr := hk.call hb; clear hk hb)
        | (go_at_call 29; have hk := And.right ‹_ ∧ RS4 (w.heap.size + 1 + 1) 31 W _›; refine (FI.out _).mono ?_; rintro e v5 ⟨B3, j3, d3, B4, j4, d4, rfl, hj3, hj4, hV3, hV4, hG3, hG4, hb⟩; have hr := hk.call hb; have hz5 := RS4.lt hr; clear hk hb hG3 hG4)
        | (go_at_call 44; have hk := And.right ‹_ ∧ RS4 (w.heap.size + 1 + 1) 31 W _›; have hl9 := RS4.lt hk; refine (HSUB.out _ hk.1 B3 B4 j3 d3 j4 d4 hj3 hj4 hV3 hV4).mono ?_; rintro e v9 ⟨A9, k9, c9, A10, k10, c10, rfl, hk9, hk10, hW9, hW10, hF9, hF10, hb9⟩; have hr9 := hk.call hb9; obtain ⟨_, _, _, _, f0, f1, f2, f3, f4, f5, f6, f7⟩ := hr9.four; clear hk))
    all_goals
      have hfin := retQ_close hBW (by omega) (by have := HSZ.out; have h9 := hl9; omega) hr9 hk9 hk10 hW9 hW10 hF9 hF10
      obtain ⟨d0, d1, d2, d3, -, -, -, -⟩ := (hr9.done (.bool (decide ((y).num < 0))) (.slice A9 k9 c9) (.bool false) (.slice A10 k10 c10)).four
      have HF := Lib.hid hfin
      clear hfin hl9 hr9 T FI HSUB
      go_wp2
      refine bodyPost_ret (v := .agg #[.bool (decide ((y).num < 0)), .slice A9 k9 c9, .bool false, .slice A10 k10 c10]) ?_ rfl HF.out
      simp [results, Tryz.results28, go_sem, d0, d1, d2, d3]

end Go.Proofs.YtodkhjihkkmplaaGreat

namespace Go.Proofs.YtodkhjihkkmplaaGreat
set_option linter.unusedVariables false
set_option linter.unusedSimpArgs false
open Go.RowKit
open Wd

theorem sgn_neg (q : Rat) : decide (sgnQ q < 0) = decide (q < 0) := by
  have h : q < (0 : Rat) ↔ q.num < 0 := by rw [Rat.lt_iff]; simp
  unfold sgnQ cmpI
  by_cases h1 : q.num < 0
  · simp [h, h1]
  · simp [h, h1]; split <;> omega
theorem sgn_nil (q : Rat) : sgnQ q = 0 ↔ q = 0 := by
  unfold sgnQ cmpI
  constructor
  · intro h
    have : q.num = 0 := by split at h <;> (try split at h) <;> omega
    exact Rat.num_eq_zero.1 this
  · intro h; subst h; rfl
theorem cmp_pos (a b : Rat) : decide (0 < cmpQ a b) = decide (b < a) := by
  unfold cmpQ
  by_cases h : a < b
  · have : ¬ b < a := by grind
    simp [h, this]
  · by_cases h2 : b < a
    · simp [h, h2]
    · simp [h, h2]
theorem gbad_no {u : Un} {b : Bool} {q : Rat} (h : gbad u b q = false) : 0 ≤ q ∧ q ≤ (mostV b u : Rat) := by
  unfold gbad at h
  rw [sgn_neg, cmp_pos] at h
  simp only [Bool.or_eq_false_iff, decide_eq_false_iff_not] at h
  constructor <;> grind
theorem uchk_spin {u : Un} (h : uchk u = 0) : 0 ≤ u.spin := by
  unfold uchk at h
  split at h
  · simp at h
  · split at h
    · rename_i h1; exact absurd h h1
    · split at h
      · simp at h
      · split at h
        · simp at h
        · rename_i h4
          unfold uRest at h4
          omega
theorem good_of {us : List Un} {bs : List Bool} {qs : List Rat} {need : Int} (h : rchk us bs qs need = 0) : Rv.Good (onF bs) (rmF us bs qs) (spF us) us.length := by
  obtain ⟨h1, h2, h3, h4, h5⟩ := rchk_ok h
  obtain ⟨k1, k2, k3⟩ := echk_ok h1
  refine ⟨fun i hi => ?_, fun i hi ho => ?_, fun i hi => ?_⟩
  · obtain ⟨g1, g2⟩ := gbad_no (h3 i hi)
    unfold rmF
    grind
  · obtain ⟨g1, g2⟩ := gbad_no (h3 i hi)
    unfold onF at ho
    unfold rmF
    rw [ho] at g2 ⊢
    simp only [mostV, Bool.false_eq_true, if_false] at g2 ⊢
    have : ((0 : Int) : Rat) = 0 := rfl
    grind
  · have hm : us[i]?.getD U0 ∈ us := by
      rw [List.getElem?_eq_getElem hi]
      exact List.getElem_mem hi
    exact uchk_spin (k3 _ hm)
theorem room_rm {us : List Un} {bs : List Bool} {qs : List Rat} {need : Int} (h : rchk us bs qs need = 0) {i : Nat} (hi : i < us.length) : roomV (bs[i]?.getD false) (us[i]?.getD U0) (qs[i]?.getD 0) = rmF us bs qs i := by
  unfold roomV rmF mostV
  cases hb : bs[i]?.getD false with
  | true => simp
  | false =>
    have := (good_of h).goff i hi hb
    unfold rmF mostV at this
    rw [hb] at this
    simp only [Bool.false_eq_true, if_false] at this ⊢
    rw [this]
    rfl
theorem fill_inv {us : List Un} {bs : List Bool} {qs : List Rat} {need : Int} {ord : List Nat} (h : rchk us bs qs need = 0) (ho : Rv.Ord (spF us) us.length ord) : Rv.Inv (onF bs) (rmF us bs qs) (spF us) us.length (need : Rat) ord (fillV us bs qs need ord) := by
  obtain ⟨h1, h2, h3, h4, h5⟩ := rchk_ok h
  exact Rv.inv_all (good_of h) ho (by have : ((0 : Int) : Rat) ≤ ((need : Int) : Rat) := Rat.intCast_le_intCast.2 h4; exact this)
/-- A greater need. -/
theorem mono30 {us : List Un} {bs : List Bool} {qs : List Rat} {a b : Int} {ord ord' : List Nat} (h : rchk us bs qs a = 0) (h' : rchk us bs qs b = 0) (hab : a ≤ b) (ho : Rv.Ord (spF us) us.length ord) (ho' : Rv.Ord (spF us) us.length ord') :
    (fillV us bs qs a ord).price ≤ (fillV us bs qs b ord').price ∧ (fillV us bs qs a ord).rest ≤ (fillV us bs qs b ord').rest ∧ (∀ i, Rv.gt (fillV us bs qs a ord).tk i ≤ Rv.gt (fillV us bs qs b ord').tk i) ∧
    (∀ i, i < us.length → roomV (bs[i]?.getD false) (us[i]?.getD U0) (qs[i]?.getD 0) = 0 → Rv.gt (fillV us bs qs b ord').tk i = 0) := by
  obtain rfl := ho.uniq ho'
  have i1 := fill_inv h ho
  have i2 := fill_inv h' ho
  obtain ⟨_, _, _, h4, _⟩ := rchk_ok h
  have h0 : (0 : Rat) ≤ (a : Rat) := by have : ((0 : Int) : Rat) ≤ ((a : Int) : Rat) := Rat.intCast_le_intCast.2 h4; exact this
  have m := Rv.mono_take (good_of h) ho h0 (Rat.intCast_le_intCast.2 hab) ord.length (Nat.le_refl _)
  rw [List.take_length] at m
  refine ⟨Rv.price_mono i1 i2 m.2, m.1, m.2, fun i hi hr => ?_⟩
  rw [room_rm h hi] at hr
  have l1 := i2.lo i
  have l2 := i2.hi i (ho.mem hi)
  grind
/-- The answer to a need within bounds. -/
theorem rchk_same {us : List Un} {bs : List Bool} {qs : List Rat} {a b : Int} (ha : 0 ≤ a) (ha' : a ≤ 1000000) (hb : 0 ≤ b) (hb' : b ≤ 1000000) : rchk us bs qs a = rchk us bs qs b := by
  unfold rchk
  have e1 : (a < 0 ∨ 1000000 < a) = False := by simp; omega
  have e2 : (b < 0 ∨ 1000000 < b) = False := by simp; omega
  simp only [e1, e2]
theorem rchk_neg {us : List Un} {bs : List Bool} {qs : List Rat} {a : Int} (ha : a < 0) : rchk us bs qs a ≠ 0 := fun h => by
  have := (rchk_ok h).2.2.2.1
  omega

/-- What Fill hands back, in every case. -/
def FillA (n : Nat) (us : List Un) (bs : List Bool) (qs : List Rat) (need : Int) (w : World) (e : Ending) (w' : World) : Prop :=
  ∃ TA tn tc price s A k c A' k' c', e = .returned (.tuple #[.slice TA tn tc, .int .i64 price, .agg #[.bool s, .slice A k c, .bool false, .slice A' k' c'], .int .i64 (rchk us bs qs need)]) ∧ Below w.heap.size w w' ∧
    (rchk us bs qs need ≠ 0 → tn = 0 ∧ price = 0) ∧
    (rchk us bs qs need = 0 → ∃ ord g, Rv.Ord (spF us) n ord ∧ TA = some ⟨g, 0, none⟩ ∧ n = tn ∧ n = tc ∧ price = (fillV us bs qs need ord).price ∧ s = decide ((fillV us bs qs need ord).rest.num < 0) ∧ QRow w' g n (fillV us bs qs need ord).tk ∧ RQ w' (fillV us bs qs need ord).rest A k c A' k' c' ∧ w.heap.size ≤ g ∧
      (∀ j, j < n → Lv 6 ((fillV us bs qs need ord).tk[j]?.getD 0)) ∧ Lv 6 (fillV us bs qs need ord).rest)
theorem fill_all (A B C : Option Addr) (n c m d p pc : Nat) (us : List Un) (bs : List Bool) (qs : List Rat) (need : Int) (w : World) (h : UsAt w A n us) (h' : BsAt w B m bs) (hg : GsAt 0 w C p qs) (hm : n ≤ 1000000000000) (hm' : m ≤ 1000000000000) (hp : p ≤ 1000000000000) :
    Calls Tryz.prog 13 #[.slice A n c, .slice B m d, .slice C p pc, .int .i64 need] w (FillA n us bs qs need w) := by
  by_cases hr : rchk us bs qs need = 0
  · refine (fill_ok 0 (by omega) A B C n c m d p pc us bs qs need w h h' hg hm hm' hp hr).mono ?_
    rintro e w' ⟨ord, g, A1, k1, c1, A2, k2, c2, hord, rfl, hR, hQ, hgl, hl1, hl2, hb⟩
    exact ⟨_, _, _, _, _, _, _, _, _, _, _, by rw [hr], hb, fun hx => absurd hr hx, fun _ => ⟨ord, g, hord, rfl, rfl, rfl, rfl, rfl, hR, hQ, hgl, hl1, hl2⟩⟩
  · refine (fill_no 0 (by omega) A B C n c m d p pc us bs qs need w h h' hg hm hm' hp hr).mono ?_
    rintro e w' ⟨rfl, hb⟩
    exact ⟨none, 0, 0, 0, false, none, 0, 0, none, 0, 0, rfl, hb, fun _ => ⟨rfl, rfl⟩, fun hx => absurd hx hr⟩

end Go.Proofs.YtodkhjihkkmplaaGreat
