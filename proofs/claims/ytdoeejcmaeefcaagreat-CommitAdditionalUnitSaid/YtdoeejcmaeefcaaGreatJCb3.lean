/-
The statement CommitAdditionalUnit: the walk. No statement of the seat is proved here; no conditions beyond those of each theorem.
-/
import Derived.Test.YtdoeejcmaeefcaaGreatHU
import Derived.Test.YtdoeejcmaeefcaaGreatIB
import Derived.Test.YtdoeejcmaeefcaaGreatJCc1
import Derived.Deep.DrawnRows
namespace Go.Proofs.YtdoeejcmaeefcaaGreat
set_option linter.unusedVariables false
set_option linter.unusedSimpArgs false
open Go.RowKit
open Wd
open Cm
attribute [local go_sem ↓] Go.wp_at_zero Go.wp_at_succ

theorem munit_one {bus mn up dn start idle spin on : Int} {A' : Option Addr} {n' c' : Nat} : ∀ u ∈ (#[.int .i64 bus, .int .i64 mn, .slice A' n' c', .int .i64 up, .int .i64 dn, .int .i64 start, .int .i64 idle, .int .i64 spin, .int .i64 on] : Array Value).toList, u.oneCell' = true := by
  intro u hu
  simp at hu
  rcases hu with rfl | rfl | rfl | rfl | rfl | rfl | rfl | rfl | rfl <;> rfl
theorem own_made1 {base : Nat} {e : TypeId} {size : Nat} (w : World) (o : Obj) (hb : base ≤ w.heap.size) : Own base e size ((w.alloc o).alloc (.cells #[] e)) (some ⟨w.heap.size + 1, 0, none⟩) 0 0 [] := by
  have := Own.made (base := base) (e := e) (size := size) (w.alloc o) (by rw [World.size_alloc]; omega)
  rwa [World.size_alloc] at this
theorem UsRaw.bel {w w' : World} {A : Option Addr} {n : Nat} {us : List Un} (h : UsRaw w A n us) (hb : Below w.heap.size w w') : UsRaw w' A n us := by
  refine ⟨h.1, fun hn => ?_⟩
  obtain ⟨b, o, rfl, hlt, hc⟩ := h.2 hn
  refine ⟨b, o, rfl, Nat.lt_of_lt_of_le hlt hb.size, fun j hj => ?_⟩
  obtain ⟨A', n', c', ⟨h0, h1, h2, h3, h4, h5, h6, h7, h8⟩, hs⟩ := hc j hj
  exact ⟨A', n', c', ⟨(hb.cell hlt).trans h0, (hb.cell hlt).trans h1, (hb.cell hlt).trans h2, (hb.cell hlt).trans h3, (hb.cell hlt).trans h4, (hb.cell hlt).trans h5, (hb.cell hlt).trans h6, (hb.cell hlt).trans h7, (hb.cell hlt).trans h8⟩, hs.below hb⟩
theorem UsRaw.one {W : World} {g : Nat} {t : TypeId} {bus mn up dn start idle spin on : Int} {A' : Option Addr} {n' c' : Nat} {l : List (Int × Int)} (h : Blk W g t #[.int .i64 bus, .int .i64 mn, .slice A' n' c', .int .i64 up, .int .i64 dn, .int .i64 start, .int .i64 idle, .int .i64 spin, .int .i64 on]) (hst : StAt W A' n' l) : UsRaw W (some ⟨g, 0, none⟩) 1 [⟨bus, mn, l, up, dn, start, idle, spin, on⟩] :=
  ⟨rfl, fun _ => ⟨g, 0, rfl, h.lt, fun j hj => by
    match j, hj with
    | 0, _ => exact ⟨A', n', c', ⟨h.cell 0, h.cell 1, h.cell 2, h.cell 3, h.cell 4, h.cell 5, h.cell 6, h.cell 7, h.cell 8⟩, hst⟩⟩⟩
theorem wideB_no {us : List Un} {m : Nat} (h : wideB us m = false) : us.length ≤ 3 := by
  unfold wideB at h
  split at h
  · simp at h
  · simp at h
    omega

theorem add_plan {us : List Un} {hs : List Hr} {more : Un} {c1 : Nat} {v1 : Int} (hc : cchk us hs = 0) (hm : uchk more = 0) (ho : more.on < 0) (hl : (us ++ [more]).length ≤ 3) (h : bestV us hs = some (c1, v1)) : cchk (us ++ [more]) hs = 0 ∧ ∃ c2 v2, bestV (us ++ [more]) hs = some (c2, v2) ∧ v2 ≤ v1 := by
  obtain ⟨k1, k2, k3, k4, k5⟩ := cchk_ok.1 hc
  have hl2 : us.length < 5 := by simp at hl; omega
  refine ⟨cchk_ok.2 ⟨by omega, fun u hu => ?_, k3, k4, k5⟩, plan_more hl2 k2 hm ho k5 h⟩
  rcases List.mem_append.1 hu with hu | hu
  · exact k2 u hu
  · simp at hu
    subst hu
    exact hm

set_option maxRecDepth 100000 in
set_option maxHeartbeats 16000000 in
theorem cadd_any (A B : Option Addr) (n c m d : Nat) (bus mn up dn start idle spin on : Int) (A' : Option Addr) (n' c' : Nat) (l : List (Int × Int)) (us : List Un) (hs : List Hr) (w : World) (h : UsRaw w A n us) (h' : HsAt w B m hs) (hst : StAt w A' n' l) :
    Calls Tryz.prog 8 #[.slice A n c, .slice B m d, .agg #[.int .i64 bus, .int .i64 mn, .slice A' n' c', .int .i64 up, .int .i64 dn, .int .i64 start, .int .i64 idle, .int .i64 spin, .int .i64 on]] w fun e w' => e = .returned (.bool true) ∧ Below w.heap.size w w' := by
  have HAW := Lib.hid awake29_any
  have HRW := Lib.hid h
  have HH := Lib.hid h'
  have HST := Lib.hid hst
  clear h h' hst
  go_enter Tryz.func8, Tryz.ntmps8
  go_wp2_with fail
  generalize wrap64 (-on) = xo
  obtain ⟨on2, hon, hon1, hon2⟩ : ∃ on2 : Int, -max 1 (min 6 (max on xo)) = on2 ∧ -6 ≤ on2 ∧ on2 ≤ -1 := ⟨_, rfl, by omega, by omega⟩
  simp only [hon]
  clear hon
  have hB := Blk.new w 39 #[.int .i64 bus, .int .i64 mn, .slice A' n' c', .int .i64 up, .int .i64 dn, .int .i64 start, .int .i64 idle, .int .i64 spin, .int .i64 on2]
  have kV := (Kp.refl w).alloc (.cells #[.int .i64 bus, .int .i64 mn, .slice A' n' c', .int .i64 up, .int .i64 dn, .int .i64 start, .int .i64 idle, .int .i64 spin, .int .i64 on2] 39)
  generalize w.alloc (.cells #[.int .i64 bus, .int .i64 mn, .slice A' n' c', .int .i64 up, .int .i64 dn, .int .i64 start, .int .i64 idle, .int .i64 spin, .int .i64 on2] 39) = V at *
  have HKV := Lib.hid kV
  have HVL := Lib.hid (Kp.refl V)
  have HBX := Lib.hid hB
  have HS := Lib.hid (show ∀ w', Kp V w' → (w'.cell? ⟨w.heap.size, 0, none⟩ = some (.int .i64 bus) ∧ w'.cell? ⟨w.heap.size, 1, none⟩ = some (.int .i64 mn) ∧ w'.cell? ⟨w.heap.size, 2, none⟩ = some (.slice A' n' c') ∧ w'.cell? ⟨w.heap.size, 3, none⟩ = some (.int .i64 up) ∧ w'.cell? ⟨w.heap.size, 4, none⟩ = some (.int .i64 dn) ∧ w'.cell? ⟨w.heap.size, 5, none⟩ = some (.int .i64 start) ∧ w'.cell? ⟨w.heap.size, 6, none⟩ = some (.int .i64 idle) ∧ w'.cell? ⟨w.heap.size, 7, none⟩ = some (.int .i64 spin) ∧ w'.cell? ⟨w.heap.size, 8, none⟩ = some (.int .i64 on2)) ∧ Kp V w' from fun w' hk => ⟨(hk.blk hB).nine, hk⟩)
  have HS0 := HS
  have T10 := Lib.hid (fun W (hk : Kp V W) => (long29_any A B n c m d us hs W (HRW.out.bel (Kp.trans kV hk)) (HH.out.below (Kp.trans kV hk))).mono (R' := fun e w' => e = .returned (.bool (long29 us hs)) ∧ Below W.heap.size W w') fun e w' ⟨h1, h2⟩ => ⟨h1, by rw [← h2]; exact Below.refl _ _⟩)
  have T22 := Lib.hid (fun g W (hk : Kp V W) (hb : Blk W g 39 #[.int .i64 bus, .int .i64 mn, .slice A' n' c', .int .i64 up, .int .i64 dn, .int .i64 start, .int .i64 idle, .int .i64 spin, .int .i64 on2]) => (long28_any (some ⟨g, 0, none⟩) none 1 1 0 0 [(⟨bus, mn, l, up, dn, start, idle, spin, on2⟩ : Un)] [] W (UsRaw.one hb (HST.out.below (Kp.trans kV hk))) rfl).mono (R' := fun e w' => e = .returned (.bool (longB [(⟨bus, mn, l, up, dn, start, idle, spin, on2⟩ : Un)] 0)) ∧ Below W.heap.size W w') fun e w' ⟨h1, h2⟩ => ⟨h1, by rw [← h2]; exact Below.refl _ _⟩)
  have hk0 := Kp.refl V
  clear hB kV
  cases hL : long29 us hs with
  | true =>
    rw [hL] at T10
    have HT10 := Lib.hid T10.out
    clear T10 T22
    refine wp_region_held_drew (S := fun w' => (w'.cell? ⟨w.heap.size, 0, none⟩ = some (.int .i64 bus) ∧ w'.cell? ⟨w.heap.size, 1, none⟩ = some (.int .i64 mn) ∧ w'.cell? ⟨w.heap.size, 2, none⟩ = some (.slice A' n' c') ∧ w'.cell? ⟨w.heap.size, 3, none⟩ = some (.int .i64 up) ∧ w'.cell? ⟨w.heap.size, 4, none⟩ = some (.int .i64 dn) ∧ w'.cell? ⟨w.heap.size, 5, none⟩ = some (.int .i64 start) ∧ w'.cell? ⟨w.heap.size, 6, none⟩ = some (.int .i64 idle) ∧ w'.cell? ⟨w.heap.size, 7, none⟩ = some (.int .i64 spin) ∧ w'.cell? ⟨w.heap.size, 8, none⟩ = some (.int .i64 on2)) ∧ Kp V w') (by kernel_rfl) (HS.out _ (Kp.drew hk0)) (fun hHeld => ?_)
    refine wpAnyH_take (i := 0) (v := ?v1) rfl (by kernel_rfl) (by kernel_rfl) (by kernel_rfl) (fun _ _ _ h => h) (Or.inl ⟨by rfl, ?y1⟩) (by assumption) ?r1
    case y1 => (intro w hSw; (try dsimp only at hSw); (try simp only [List.getElem_toArray, List.getElem_cons_zero, List.getElem_cons_succ]); go_simp; first | done | with_reducible rfl)
    (try simp only [Act.put, List.getElem_toArray, List.getElem_cons_zero, List.getElem_cons_succ, List.setIfInBounds_toArray, List.set_cons_zero, List.set_cons_succ])
    refine wpAnyH_take (i := 1) (v := ?v2) rfl (by kernel_rfl) (by kernel_rfl) (by kernel_rfl) (fun _ _ _ h => h) (Or.inl ⟨by rfl, ?y2⟩) (by assumption) ?r2
    case y2 => (intro w hSw; (try dsimp only at hSw); (try simp only [List.getElem_toArray, List.getElem_cons_zero, List.getElem_cons_succ]); go_simp; first | done | with_reducible rfl)
    (try simp only [Act.put, List.getElem_toArray, List.getElem_cons_zero, List.getElem_cons_succ, List.setIfInBounds_toArray, List.set_cons_zero, List.set_cons_succ])
    refine wpAnyH_ready (rs := [2]) (by kernel_rfl) (by simp) ?_
    refine AllReadyH.cons rfl (fun K hK => ?_) ?_
    · (try simp only [List.getElem_toArray, List.getElem_cons_zero, List.getElem_cons_succ])
      go_simp
      have hk := And.right ‹_ ∧ Kp V _›
      refine (HT10.out _ hk).mono ?_
      rintro e x0 ⟨rfl, hb0⟩
      have hx0 := Kp.trans hk hb0
      have cM := Kp.trans hx0 ((Kp.refl x0).alloc (.cells #[.int .i64 bus, .int .i64 mn, .slice A' n' c', .int .i64 up, .int .i64 dn, .int .i64 start, .int .i64 idle, .int .i64 spin, .int .i64 on2] 39))
      have m31 := Blk.new x0 39 #[.int .i64 bus, .int .i64 mn, .slice A' n' c', .int .i64 up, .int .i64 dn, .int .i64 start, .int .i64 idle, .int .i64 spin, .int .i64 on2]
      clear hk hb0
      (try (go_wp2_with fail))
      refine hK.out _ _ ?k4 (fun hHeld4 => ?n4)
      case k4 => ((try dsimp only); (first | (with_reducible refine HS.out _ ?_; with_reducible assumption) | (with_reducible refine HS.out _ (Kp.drew ?_); with_reducible assumption) | (with_reducible refine' HS.out _ (Kp.drew (And.right ?_)); rotate_left; with_reducible assumption)))
      clear hK K
      (try simp only [Act.put, List.getElem_toArray, List.getElem_cons_zero, List.getElem_cons_succ, List.setIfInBounds_toArray, List.set_cons_zero, List.set_cons_succ])
      refine wpAnyH_take (i := 3) (v := ?v5) rfl (by kernel_rfl) (by kernel_rfl) (by kernel_rfl) (fun _ _ _ h => h) (Or.inl ⟨by rfl, ?y5⟩) (by assumption) ?r5
      case y5 => (intro w hSw; (try dsimp only at hSw); (try simp only [List.getElem_toArray, List.getElem_cons_zero, List.getElem_cons_succ]); go_simp; first | done | with_reducible rfl)
      (try simp only [Act.put, List.getElem_toArray, List.getElem_cons_zero, List.getElem_cons_succ, List.setIfInBounds_toArray, List.set_cons_zero, List.set_cons_succ])
      refine wpAnyH_take (i := 4) (v := undef) rfl (by kernel_rfl) (by kernel_rfl) (by kernel_rfl) (fun _ _ _ h => h) (Or.inr ⟨by rfl, rfl⟩) (by assumption) ?_
      (try simp only [Act.put, List.getElem_toArray, List.getElem_cons_zero, List.getElem_cons_succ, List.setIfInBounds_toArray, List.set_cons_zero, List.set_cons_succ])
      refine wpAnyH_take (i := 5) (v := undef) rfl (by kernel_rfl) (by kernel_rfl) (by kernel_rfl) (fun _ _ _ h => h) (Or.inr ⟨by rfl, rfl⟩) (by assumption) ?_
      (try simp only [Act.put, List.getElem_toArray, List.getElem_cons_zero, List.getElem_cons_succ, List.setIfInBounds_toArray, List.set_cons_zero, List.set_cons_succ])
      refine wpAnyH_take (i := 6) (v := undef) rfl (by kernel_rfl) (by kernel_rfl) (by kernel_rfl) (fun _ _ _ h => h) (Or.inr ⟨by rfl, rfl⟩) (by assumption) ?_
      (try simp only [Act.put, List.getElem_toArray, List.getElem_cons_zero, List.getElem_cons_succ, List.setIfInBounds_toArray, List.set_cons_zero, List.set_cons_succ])
      refine wpAnyH_take (i := 7) (v := ?v9) rfl (by kernel_rfl) (by kernel_rfl) (by kernel_rfl) (fun _ _ _ h => h) (Or.inl ⟨by rfl, ?y9⟩) (by assumption) ?r9
      case y9 => (intro w hSw; (try dsimp only at hSw); (try simp only [List.getElem_toArray, List.getElem_cons_zero, List.getElem_cons_succ]); go_simp; first | done | with_reducible rfl)
      (try simp only [Act.put, List.getElem_toArray, List.getElem_cons_zero, List.getElem_cons_succ, List.setIfInBounds_toArray, List.set_cons_zero, List.set_cons_succ])
      refine wpAnyH_take (i := 8) (v := ?v10) rfl (by kernel_rfl) (by kernel_rfl) (by kernel_rfl) (fun _ _ _ h => h) (Or.inl ⟨by rfl, ?y10⟩) (by assumption) ?r10
      case y10 => (intro w hSw; (try dsimp only at hSw); (try simp only [List.getElem_toArray, List.getElem_cons_zero, List.getElem_cons_succ]); go_simp; first | done | with_reducible rfl)
      (try simp only [Act.put, List.getElem_toArray, List.getElem_cons_zero, List.getElem_cons_succ, List.setIfInBounds_toArray, List.set_cons_zero, List.set_cons_succ])
      refine wpAnyH_take (i := 9) (v := undef) rfl (by kernel_rfl) (by kernel_rfl) (by kernel_rfl) (fun _ _ _ h => h) (Or.inr ⟨by rfl, rfl⟩) (by assumption) ?_
      (try simp only [Act.put, List.getElem_toArray, List.getElem_cons_zero, List.getElem_cons_succ, List.setIfInBounds_toArray, List.set_cons_zero, List.set_cons_succ])
      refine wpAnyH_take (i := 10) (v := undef) rfl (by kernel_rfl) (by kernel_rfl) (by kernel_rfl) (fun _ _ _ h => h) (Or.inr ⟨by rfl, rfl⟩) (by assumption) ?_
      (try simp only [Act.put, List.getElem_toArray, List.getElem_cons_zero, List.getElem_cons_succ, List.setIfInBounds_toArray, List.set_cons_zero, List.set_cons_succ])
      refine wpAnyH_take (i := 11) (v := undef) rfl (by kernel_rfl) (by kernel_rfl) (by kernel_rfl) (fun _ _ _ h => h) (Or.inr ⟨by rfl, rfl⟩) (by assumption) ?_
      (try simp only [Act.put, List.getElem_toArray, List.getElem_cons_zero, List.getElem_cons_succ, List.setIfInBounds_toArray, List.set_cons_zero, List.set_cons_succ])
      refine wpAnyH_take (i := 12) (v := undef) rfl (by kernel_rfl) (by kernel_rfl) (by kernel_rfl) (fun _ _ _ h => h) (Or.inr ⟨by rfl, rfl⟩) (by assumption) ?_
      (try simp only [Act.put, List.getElem_toArray, List.getElem_cons_zero, List.getElem_cons_succ, List.setIfInBounds_toArray, List.set_cons_zero, List.set_cons_succ])
      refine wpAnyH_take (i := 13) (v := undef) rfl (by kernel_rfl) (by kernel_rfl) (by kernel_rfl) (fun _ _ _ h => h) (Or.inr ⟨by rfl, rfl⟩) (by assumption) ?_
      (try simp only [Act.put, List.getElem_toArray, List.getElem_cons_zero, List.getElem_cons_succ, List.setIfInBounds_toArray, List.set_cons_zero, List.set_cons_succ])
      refine wpAnyH_take (i := 14) (v := undef) rfl (by kernel_rfl) (by kernel_rfl) (by kernel_rfl) (fun _ _ _ h => h) (Or.inr ⟨by rfl, rfl⟩) (by assumption) ?_
      (try simp only [Act.put, List.getElem_toArray, List.getElem_cons_zero, List.getElem_cons_succ, List.setIfInBounds_toArray, List.set_cons_zero, List.set_cons_succ])
      refine wpAnyH_take (i := 15) (v := undef) rfl (by kernel_rfl) (by kernel_rfl) (by kernel_rfl) (fun _ _ _ h => h) (Or.inr ⟨by rfl, rfl⟩) (by assumption) ?_
      (try simp only [Act.put, List.getElem_toArray, List.getElem_cons_zero, List.getElem_cons_succ, List.setIfInBounds_toArray, List.set_cons_zero, List.set_cons_succ])
      refine wpAnyH_take (i := 16) (v := undef) rfl (by kernel_rfl) (by kernel_rfl) (by kernel_rfl) (fun _ _ _ h => h) (Or.inr ⟨by rfl, rfl⟩) (by assumption) ?_
      (try simp only [Act.put, List.getElem_toArray, List.getElem_cons_zero, List.getElem_cons_succ, List.setIfInBounds_toArray, List.set_cons_zero, List.set_cons_succ])
      refine wpAnyH_take (i := 17) (v := ?v19) rfl (by kernel_rfl) (by kernel_rfl) (by kernel_rfl) (fun _ _ _ h => h) (Or.inl ⟨by rfl, ?y19⟩) (by assumption) ?r19
      case y19 => (intro w hSw; (try dsimp only at hSw); (try simp only [List.getElem_toArray, List.getElem_cons_zero, List.getElem_cons_succ]); go_simp; first | done | with_reducible rfl)
      (try simp only [Act.put, List.getElem_toArray, List.getElem_cons_zero, List.getElem_cons_succ, List.setIfInBounds_toArray, List.set_cons_zero, List.set_cons_succ])
      refine wpAnyH_take (i := 18) (v := ?v20) rfl (by kernel_rfl) (by kernel_rfl) (by kernel_rfl) (fun _ _ _ h => h) (Or.inl ⟨by rfl, ?y20⟩) (by assumption) ?r20
      case y20 => (intro w hSw; (try dsimp only at hSw); (try simp only [List.getElem_toArray, List.getElem_cons_zero, List.getElem_cons_succ]); go_simp; first | done | with_reducible rfl)
      (try simp only [Act.put, List.getElem_toArray, List.getElem_cons_zero, List.getElem_cons_succ, List.setIfInBounds_toArray, List.set_cons_zero, List.set_cons_succ])
      refine wpAnyH_take (i := 19) (v := undef) rfl (by kernel_rfl) (by kernel_rfl) (by kernel_rfl) (fun _ _ _ h => h) (Or.inr ⟨by rfl, rfl⟩) (by assumption) ?_
      (try simp only [Act.put, List.getElem_toArray, List.getElem_cons_zero, List.getElem_cons_succ, List.setIfInBounds_toArray, List.set_cons_zero, List.set_cons_succ])
      refine wpAnyH_take (i := 20) (v := undef) rfl (by kernel_rfl) (by kernel_rfl) (by kernel_rfl) (fun _ _ _ h => h) (Or.inr ⟨by rfl, rfl⟩) (by assumption) ?_
      (try simp only [Act.put, List.getElem_toArray, List.getElem_cons_zero, List.getElem_cons_succ, List.setIfInBounds_toArray, List.set_cons_zero, List.set_cons_succ])
      refine wpAnyH_take (i := 21) (v := undef) rfl (by kernel_rfl) (by kernel_rfl) (by kernel_rfl) (fun _ _ _ h => h) (Or.inr ⟨by rfl, rfl⟩) (by assumption) ?_
      (try simp only [Act.put, List.getElem_toArray, List.getElem_cons_zero, List.getElem_cons_succ, List.setIfInBounds_toArray, List.set_cons_zero, List.set_cons_succ])
      refine wpAnyH_take (i := 22) (v := ?v24) rfl (by kernel_rfl) (by kernel_rfl) (by kernel_rfl) (fun _ _ _ h => h) (Or.inl ⟨by rfl, ?y24⟩) (by assumption) ?r24
      case y24 => (intro w hSw; (try dsimp only at hSw); (try simp only [List.getElem_toArray, List.getElem_cons_zero, List.getElem_cons_succ]); go_simp; first | done | with_reducible rfl)
      (try simp only [Act.put, List.getElem_toArray, List.getElem_cons_zero, List.getElem_cons_succ, List.setIfInBounds_toArray, List.set_cons_zero, List.set_cons_succ])
      refine wpAnyH_take (i := 23) (v := ?v25) rfl (by kernel_rfl) (by kernel_rfl) (by kernel_rfl) (fun _ _ _ h => h) (Or.inl ⟨by rfl, ?y25⟩) (by assumption) ?r25
      case y25 => (intro w hSw; (try dsimp only at hSw); (try simp only [List.getElem_toArray, List.getElem_cons_zero, List.getElem_cons_succ]); go_simp; first | done | with_reducible rfl)
      (try simp only [Act.put, List.getElem_toArray, List.getElem_cons_zero, List.getElem_cons_succ, List.setIfInBounds_toArray, List.set_cons_zero, List.set_cons_succ])
      refine wpAnyH_take (i := 24) (v := undef) rfl (by kernel_rfl) (by kernel_rfl) (by kernel_rfl) (fun _ _ _ h => h) (Or.inr ⟨by rfl, rfl⟩) (by assumption) ?_
      (try simp only [Act.put, List.getElem_toArray, List.getElem_cons_zero, List.getElem_cons_succ, List.setIfInBounds_toArray, List.set_cons_zero, List.set_cons_succ])
      refine wpAnyH_take (i := 25) (v := undef) rfl (by kernel_rfl) (by kernel_rfl) (by kernel_rfl) (fun _ _ _ h => h) (Or.inr ⟨by rfl, rfl⟩) (by assumption) ?_
      (try simp only [Act.put, List.getElem_toArray, List.getElem_cons_zero, List.getElem_cons_succ, List.setIfInBounds_toArray, List.set_cons_zero, List.set_cons_succ])
      refine wpAnyH_take (i := 26) (v := ?v28) rfl (by kernel_rfl) (by kernel_rfl) (by kernel_rfl) (fun _ _ _ h => h) (Or.inl ⟨by rfl, ?y28⟩) (by assumption) ?r28
      case y28 => (intro w hSw; (try dsimp only at hSw); (try simp only [List.getElem_toArray, List.getElem_cons_zero, List.getElem_cons_succ]); go_simp; first | done | with_reducible rfl)
      (try simp only [Act.put, List.getElem_toArray, List.getElem_cons_zero, List.getElem_cons_succ, List.setIfInBounds_toArray, List.set_cons_zero, List.set_cons_succ])
      refine wpAnyH_done (by kernel_rfl) ?_ _
      have HBA := Lib.hid (Kp.trans HKV.out hx0)
      go_wp2_with fail
      refine (HAW.out _).mono ?_
      rintro e x9 ⟨rfl, hb9⟩
      have HB9 := Lib.hid (Kp.trans HBA.out hb9)
      clear hb9
      go_wp2
      go_ret
      exact ⟨rfl, HB9.out⟩
    exact AllReadyH.nil
  | false =>
    rw [hL] at T10
    have HT10 := Lib.hid T10.out
    cases hLB : longB [(⟨bus, mn, l, up, dn, start, idle, spin, on2⟩ : Un)] 0 with
    | true =>
      rw [hLB] at T22
      have HT22 := Lib.hid T22.out
      clear T10 T22
      refine wp_region_held_drew (S := fun w' => (w'.cell? ⟨w.heap.size, 0, none⟩ = some (.int .i64 bus) ∧ w'.cell? ⟨w.heap.size, 1, none⟩ = some (.int .i64 mn) ∧ w'.cell? ⟨w.heap.size, 2, none⟩ = some (.slice A' n' c') ∧ w'.cell? ⟨w.heap.size, 3, none⟩ = some (.int .i64 up) ∧ w'.cell? ⟨w.heap.size, 4, none⟩ = some (.int .i64 dn) ∧ w'.cell? ⟨w.heap.size, 5, none⟩ = some (.int .i64 start) ∧ w'.cell? ⟨w.heap.size, 6, none⟩ = some (.int .i64 idle) ∧ w'.cell? ⟨w.heap.size, 7, none⟩ = some (.int .i64 spin) ∧ w'.cell? ⟨w.heap.size, 8, none⟩ = some (.int .i64 on2)) ∧ Kp V w') (by kernel_rfl) (HS.out _ (Kp.drew hk0)) (fun hHeld => ?_)
      refine wpAnyH_take (i := 0) (v := ?v29) rfl (by kernel_rfl) (by kernel_rfl) (by kernel_rfl) (fun _ _ _ h => h) (Or.inl ⟨by rfl, ?y29⟩) (by assumption) ?r29
      case y29 => (intro w hSw; (try dsimp only at hSw); (try simp only [List.getElem_toArray, List.getElem_cons_zero, List.getElem_cons_succ]); go_simp; first | done | with_reducible rfl)
      (try simp only [Act.put, List.getElem_toArray, List.getElem_cons_zero, List.getElem_cons_succ, List.setIfInBounds_toArray, List.set_cons_zero, List.set_cons_succ])
      refine wpAnyH_take (i := 1) (v := ?v30) rfl (by kernel_rfl) (by kernel_rfl) (by kernel_rfl) (fun _ _ _ h => h) (Or.inl ⟨by rfl, ?y30⟩) (by assumption) ?r30
      case y30 => (intro w hSw; (try dsimp only at hSw); (try simp only [List.getElem_toArray, List.getElem_cons_zero, List.getElem_cons_succ]); go_simp; first | done | with_reducible rfl)
      (try simp only [Act.put, List.getElem_toArray, List.getElem_cons_zero, List.getElem_cons_succ, List.setIfInBounds_toArray, List.set_cons_zero, List.set_cons_succ])
      refine wpAnyH_ready (rs := [2]) (by kernel_rfl) (by simp) ?_
      refine AllReadyH.cons rfl (fun K hK => ?_) ?_
      · (try simp only [List.getElem_toArray, List.getElem_cons_zero, List.getElem_cons_succ])
        go_simp
        have hk := And.right ‹_ ∧ Kp V _›
        refine (HT10.out _ hk).mono ?_
        rintro e x0 ⟨rfl, hb0⟩
        have hx0 := Kp.trans hk hb0
        have cM := Kp.trans hx0 ((Kp.refl x0).alloc (.cells #[.int .i64 bus, .int .i64 mn, .slice A' n' c', .int .i64 up, .int .i64 dn, .int .i64 start, .int .i64 idle, .int .i64 spin, .int .i64 on2] 39))
        have m31 := Blk.new x0 39 #[.int .i64 bus, .int .i64 mn, .slice A' n' c', .int .i64 up, .int .i64 dn, .int .i64 start, .int .i64 idle, .int .i64 spin, .int .i64 on2]
        clear hk hb0
        (try (go_wp2_with fail))
        refine hK.out _ _ ?k32 (fun hHeld32 => ?n32)
        case k32 => ((try dsimp only); (first | (with_reducible refine HS.out _ ?_; with_reducible assumption) | (with_reducible refine HS.out _ (Kp.drew ?_); with_reducible assumption) | (with_reducible refine' HS.out _ (Kp.drew (And.right ?_)); rotate_left; with_reducible assumption)))
        clear hK K
        (try simp only [Act.put, List.getElem_toArray, List.getElem_cons_zero, List.getElem_cons_succ, List.setIfInBounds_toArray, List.set_cons_zero, List.set_cons_succ])
        refine wpAnyH_take (i := 3) (v := ?v33) rfl (by kernel_rfl) (by kernel_rfl) (by kernel_rfl) (fun _ _ _ h => h) (Or.inl ⟨by rfl, ?y33⟩) (by assumption) ?r33
        case y33 => (intro w hSw; (try dsimp only at hSw); (try simp only [List.getElem_toArray, List.getElem_cons_zero, List.getElem_cons_succ]); go_simp; first | done | with_reducible rfl)
        (try simp only [Act.put, List.getElem_toArray, List.getElem_cons_zero, List.getElem_cons_succ, List.setIfInBounds_toArray, List.set_cons_zero, List.set_cons_succ])
        refine wpAnyH_take (i := 4) (v := ?v34) rfl (by kernel_rfl) (by kernel_rfl) (by kernel_rfl) (fun _ _ _ h => h) (Or.inl ⟨by rfl, ?y34⟩) (by assumption) ?r34
        case y34 => (intro w hSw; (try dsimp only at hSw); (try simp only [List.getElem_toArray, List.getElem_cons_zero, List.getElem_cons_succ]); go_simp; first | done | with_reducible rfl)
        (try simp only [Act.put, List.getElem_toArray, List.getElem_cons_zero, List.getElem_cons_succ, List.setIfInBounds_toArray, List.set_cons_zero, List.set_cons_succ])
        refine wpAnyH_ready (rs := [5]) (by kernel_rfl) (by simp) ?_
        refine AllReadyH.cons rfl (fun K hK => ?_) ?_
        · (try simp only [List.getElem_toArray, List.getElem_cons_zero, List.getElem_cons_succ])
          go_simp
          refine hK.out _ _ ?k36 (fun hHeld36 => ?n36)
          case k36 => ((try dsimp only); (first | (with_reducible refine HS.out _ ?_; with_reducible assumption) | (with_reducible refine HS.out _ (Kp.drew ?_); with_reducible assumption) | (with_reducible refine' HS.out _ (Kp.drew (And.right ?_)); rotate_left; with_reducible assumption)))
          clear hK K
          (try simp only [Act.put, List.getElem_toArray, List.getElem_cons_zero, List.getElem_cons_succ, List.setIfInBounds_toArray, List.set_cons_zero, List.set_cons_succ])
          refine wpAnyH_ready (rs := [6]) (by kernel_rfl) (by simp) ?_
          refine AllReadyH.cons rfl (fun K hK => ?_) ?_
          · (try simp only [List.getElem_toArray, List.getElem_cons_zero, List.getElem_cons_succ])
            go_simp
            have hk := And.right ‹_ ∧ Kp V _›
            refine (HT22.out _ _ hk (by first | exact m31 | exact Blk.drew m31)).mono ?_
            rintro e x1 ⟨rfl, hb1⟩
            have hx1 := Kp.trans hk hb1
            clear hk hb1
            have k1 := (Kp.refl x1).alloc (.cells #[] 39)
            have k2 := (Kp.refl x1).alloc (.cells #[.int .i64 bus, .int .i64 mn, .slice A' n' c', .int .i64 up, .int .i64 dn, .int .i64 start, .int .i64 idle, .int .i64 spin, .int .i64 on2] 39)
            have k12 := k1.alloc (.cells #[.int .i64 bus, .int .i64 mn, .slice A' n' c', .int .i64 up, .int .i64 dn, .int .i64 start, .int .i64 idle, .int .i64 spin, .int .i64 on2] 39)
            have k21 := k2.alloc (.cells #[] 39)
            have c1 := Kp.trans hx1 k1
            have c2 := Kp.trans hx1 k2
            have c12 := Kp.trans hx1 k12
            have c21 := Kp.trans hx1 k21
            have o1 : Own V.heap.size 39 9 (x1.alloc (.cells #[] 39)) (some ⟨x1.heap.size, 0, none⟩) 0 0 [] := Own.made x1 (Below.size hx1)
            have o12 := o1.keep ((Kp.refl _).alloc (.cells #[.int .i64 bus, .int .i64 mn, .slice A' n' c', .int .i64 up, .int .i64 dn, .int .i64 start, .int .i64 idle, .int .i64 spin, .int .i64 on2] 39))
            have o21 : Own V.heap.size 39 9 ((x1.alloc (.cells #[.int .i64 bus, .int .i64 mn, .slice A' n' c', .int .i64 up, .int .i64 dn, .int .i64 start, .int .i64 idle, .int .i64 spin, .int .i64 on2] 39)).alloc (.cells #[] 39)) (some ⟨x1.heap.size + 1, 0, none⟩) 0 0 [] := own_made1 x1 (.cells #[.int .i64 bus, .int .i64 mn, .slice A' n' c', .int .i64 up, .int .i64 dn, .int .i64 start, .int .i64 idle, .int .i64 spin, .int .i64 on2] 39) (Below.size hx1)
            have mb := Blk.new1 x1 (.cells #[] 39) 39 #[.int .i64 bus, .int .i64 mn, .slice A' n' c', .int .i64 up, .int .i64 dn, .int .i64 start, .int .i64 idle, .int .i64 spin, .int .i64 on2]
            have mc := (Blk.new x1 39 #[.int .i64 bus, .int .i64 mn, .slice A' n' c', .int .i64 up, .int .i64 dn, .int .i64 start, .int .i64 idle, .int .i64 spin, .int .i64 on2]).alloc (.cells #[] 39)
            clear k1 k2 k12 k21
            (try (go_wp2_with fail))
            refine hK.out _ _ ?k38 (fun hHeld38 => ?n38)
            case k38 => ((try dsimp only); (first | (with_reducible refine HS.out _ ?_; with_reducible assumption) | (with_reducible refine HS.out _ (Kp.drew ?_); with_reducible assumption) | (with_reducible refine' HS.out _ (Kp.drew (And.right ?_)); rotate_left; with_reducible assumption)))
            clear hK K
            (try simp only [Act.put, List.getElem_toArray, List.getElem_cons_zero, List.getElem_cons_succ, List.setIfInBounds_toArray, List.set_cons_zero, List.set_cons_succ])
            refine wpAnyH_take (i := 7) (v := ?v39) rfl (by kernel_rfl) (by kernel_rfl) (by kernel_rfl) (fun _ _ _ h => h) (Or.inl ⟨by rfl, ?y39⟩) (by assumption) ?r39
            case y39 => (intro w hSw; (try dsimp only at hSw); (try simp only [List.getElem_toArray, List.getElem_cons_zero, List.getElem_cons_succ]); go_simp; first | done | with_reducible rfl)
            (try simp only [Act.put, List.getElem_toArray, List.getElem_cons_zero, List.getElem_cons_succ, List.setIfInBounds_toArray, List.set_cons_zero, List.set_cons_succ])
            refine wpAnyH_take (i := 8) (v := ?v40) rfl (by kernel_rfl) (by kernel_rfl) (by kernel_rfl) (fun _ _ _ h => h) (Or.inl ⟨by rfl, ?y40⟩) (by assumption) ?r40
            case y40 => (intro w hSw; (try dsimp only at hSw); (try simp only [List.getElem_toArray, List.getElem_cons_zero, List.getElem_cons_succ]); go_simp; first | done | with_reducible rfl)
            (try simp only [Act.put, List.getElem_toArray, List.getElem_cons_zero, List.getElem_cons_succ, List.setIfInBounds_toArray, List.set_cons_zero, List.set_cons_succ])
            refine wpAnyH_take (i := 9) (v := undef) rfl (by kernel_rfl) (by kernel_rfl) (by kernel_rfl) (fun _ _ _ h => h) (Or.inr ⟨by rfl, rfl⟩) (by assumption) ?_
            (try simp only [Act.put, List.getElem_toArray, List.getElem_cons_zero, List.getElem_cons_succ, List.setIfInBounds_toArray, List.set_cons_zero, List.set_cons_succ])
            refine wpAnyH_take (i := 10) (v := undef) rfl (by kernel_rfl) (by kernel_rfl) (by kernel_rfl) (fun _ _ _ h => h) (Or.inr ⟨by rfl, rfl⟩) (by assumption) ?_
            (try simp only [Act.put, List.getElem_toArray, List.getElem_cons_zero, List.getElem_cons_succ, List.setIfInBounds_toArray, List.set_cons_zero, List.set_cons_succ])
            refine wpAnyH_take (i := 11) (v := undef) rfl (by kernel_rfl) (by kernel_rfl) (by kernel_rfl) (fun _ _ _ h => h) (Or.inr ⟨by rfl, rfl⟩) (by assumption) ?_
            (try simp only [Act.put, List.getElem_toArray, List.getElem_cons_zero, List.getElem_cons_succ, List.setIfInBounds_toArray, List.set_cons_zero, List.set_cons_succ])
            refine wpAnyH_take (i := 12) (v := undef) rfl (by kernel_rfl) (by kernel_rfl) (by kernel_rfl) (fun _ _ _ h => h) (Or.inr ⟨by rfl, rfl⟩) (by assumption) ?_
            (try simp only [Act.put, List.getElem_toArray, List.getElem_cons_zero, List.getElem_cons_succ, List.setIfInBounds_toArray, List.set_cons_zero, List.set_cons_succ])
            refine wpAnyH_take (i := 13) (v := undef) rfl (by kernel_rfl) (by kernel_rfl) (by kernel_rfl) (fun _ _ _ h => h) (Or.inr ⟨by rfl, rfl⟩) (by assumption) ?_
            (try simp only [Act.put, List.getElem_toArray, List.getElem_cons_zero, List.getElem_cons_succ, List.setIfInBounds_toArray, List.set_cons_zero, List.set_cons_succ])
            refine wpAnyH_take (i := 14) (v := undef) rfl (by kernel_rfl) (by kernel_rfl) (by kernel_rfl) (fun _ _ _ h => h) (Or.inr ⟨by rfl, rfl⟩) (by assumption) ?_
            (try simp only [Act.put, List.getElem_toArray, List.getElem_cons_zero, List.getElem_cons_succ, List.setIfInBounds_toArray, List.set_cons_zero, List.set_cons_succ])
            refine wpAnyH_take (i := 15) (v := undef) rfl (by kernel_rfl) (by kernel_rfl) (by kernel_rfl) (fun _ _ _ h => h) (Or.inr ⟨by rfl, rfl⟩) (by assumption) ?_
            (try simp only [Act.put, List.getElem_toArray, List.getElem_cons_zero, List.getElem_cons_succ, List.setIfInBounds_toArray, List.set_cons_zero, List.set_cons_succ])
            refine wpAnyH_take (i := 16) (v := undef) rfl (by kernel_rfl) (by kernel_rfl) (by kernel_rfl) (fun _ _ _ h => h) (Or.inr ⟨by rfl, rfl⟩) (by assumption) ?_
            (try simp only [Act.put, List.getElem_toArray, List.getElem_cons_zero, List.getElem_cons_succ, List.setIfInBounds_toArray, List.set_cons_zero, List.set_cons_succ])
            refine wpAnyH_take (i := 17) (v := ?v49) rfl (by kernel_rfl) (by kernel_rfl) (by kernel_rfl) (fun _ _ _ h => h) (Or.inl ⟨by rfl, ?y49⟩) (by assumption) ?r49
            case y49 => (intro w hSw; (try dsimp only at hSw); (try simp only [List.getElem_toArray, List.getElem_cons_zero, List.getElem_cons_succ]); go_simp; first | done | with_reducible rfl)
            (try simp only [Act.put, List.getElem_toArray, List.getElem_cons_zero, List.getElem_cons_succ, List.setIfInBounds_toArray, List.set_cons_zero, List.set_cons_succ])
            refine wpAnyH_take (i := 18) (v := ?v50) rfl (by kernel_rfl) (by kernel_rfl) (by kernel_rfl) (fun _ _ _ h => h) (Or.inl ⟨by rfl, ?y50⟩) (by assumption) ?r50
            case y50 => (intro w hSw; (try dsimp only at hSw); (try simp only [List.getElem_toArray, List.getElem_cons_zero, List.getElem_cons_succ]); go_simp; first | done | with_reducible rfl)
            (try simp only [Act.put, List.getElem_toArray, List.getElem_cons_zero, List.getElem_cons_succ, List.setIfInBounds_toArray, List.set_cons_zero, List.set_cons_succ])
            refine wpAnyH_take (i := 19) (v := undef) rfl (by kernel_rfl) (by kernel_rfl) (by kernel_rfl) (fun _ _ _ h => h) (Or.inr ⟨by rfl, rfl⟩) (by assumption) ?_
            (try simp only [Act.put, List.getElem_toArray, List.getElem_cons_zero, List.getElem_cons_succ, List.setIfInBounds_toArray, List.set_cons_zero, List.set_cons_succ])
            refine wpAnyH_take (i := 20) (v := undef) rfl (by kernel_rfl) (by kernel_rfl) (by kernel_rfl) (fun _ _ _ h => h) (Or.inr ⟨by rfl, rfl⟩) (by assumption) ?_
            (try simp only [Act.put, List.getElem_toArray, List.getElem_cons_zero, List.getElem_cons_succ, List.setIfInBounds_toArray, List.set_cons_zero, List.set_cons_succ])
            refine wpAnyH_take (i := 21) (v := undef) rfl (by kernel_rfl) (by kernel_rfl) (by kernel_rfl) (fun _ _ _ h => h) (Or.inr ⟨by rfl, rfl⟩) (by assumption) ?_
            (try simp only [Act.put, List.getElem_toArray, List.getElem_cons_zero, List.getElem_cons_succ, List.setIfInBounds_toArray, List.set_cons_zero, List.set_cons_succ])
            refine wpAnyH_take (i := 22) (v := ?v54) rfl (by kernel_rfl) (by kernel_rfl) (by kernel_rfl) (fun _ _ _ h => h) (Or.inl ⟨by rfl, ?y54⟩) (by assumption) ?r54
            case y54 => (intro w hSw; (try dsimp only at hSw); (try simp only [List.getElem_toArray, List.getElem_cons_zero, List.getElem_cons_succ]); go_simp; first | done | with_reducible rfl)
            (try simp only [Act.put, List.getElem_toArray, List.getElem_cons_zero, List.getElem_cons_succ, List.setIfInBounds_toArray, List.set_cons_zero, List.set_cons_succ])
            refine wpAnyH_take (i := 23) (v := ?v55) rfl (by kernel_rfl) (by kernel_rfl) (by kernel_rfl) (fun _ _ _ h => h) (Or.inl ⟨by rfl, ?y55⟩) (by assumption) ?r55
            case y55 => (intro w hSw; (try dsimp only at hSw); (try simp only [List.getElem_toArray, List.getElem_cons_zero, List.getElem_cons_succ]); go_simp; first | done | with_reducible rfl)
            (try simp only [Act.put, List.getElem_toArray, List.getElem_cons_zero, List.getElem_cons_succ, List.setIfInBounds_toArray, List.set_cons_zero, List.set_cons_succ])
            refine wpAnyH_take (i := 24) (v := undef) rfl (by kernel_rfl) (by kernel_rfl) (by kernel_rfl) (fun _ _ _ h => h) (Or.inr ⟨by rfl, rfl⟩) (by assumption) ?_
            (try simp only [Act.put, List.getElem_toArray, List.getElem_cons_zero, List.getElem_cons_succ, List.setIfInBounds_toArray, List.set_cons_zero, List.set_cons_succ])
            refine wpAnyH_take (i := 25) (v := undef) rfl (by kernel_rfl) (by kernel_rfl) (by kernel_rfl) (fun _ _ _ h => h) (Or.inr ⟨by rfl, rfl⟩) (by assumption) ?_
            (try simp only [Act.put, List.getElem_toArray, List.getElem_cons_zero, List.getElem_cons_succ, List.setIfInBounds_toArray, List.set_cons_zero, List.set_cons_succ])
            refine wpAnyH_take (i := 26) (v := ?v58) rfl (by kernel_rfl) (by kernel_rfl) (by kernel_rfl) (fun _ _ _ h => h) (Or.inl ⟨by rfl, ?y58⟩) (by assumption) ?r58
            case y58 => (intro w hSw; (try dsimp only at hSw); (try simp only [List.getElem_toArray, List.getElem_cons_zero, List.getElem_cons_succ]); go_simp; first | done | with_reducible rfl)
            (try simp only [Act.put, List.getElem_toArray, List.getElem_cons_zero, List.getElem_cons_succ, List.setIfInBounds_toArray, List.set_cons_zero, List.set_cons_succ])
            refine wpAnyH_done (by kernel_rfl) ?_ _
            have HBA := Lib.hid (Kp.trans HKV.out hx1)
            go_wp2_with fail
            refine (HAW.out _).mono ?_
            rintro e x9 ⟨rfl, hb9⟩
            have HB9 := Lib.hid (Kp.trans HBA.out hb9)
            clear hb9
            go_wp2
            go_ret
            exact ⟨rfl, HB9.out⟩
          exact AllReadyH.nil
        exact AllReadyH.nil
      exact AllReadyH.nil
    | false =>
      rw [hLB] at T22
      have HT22 := Lib.hid T22.out
      obtain ⟨g1, g2, g3⟩ := long29_no hL
      obtain ⟨u1, u2, _⟩ := HRW.out.at g1
      have hml : l.length ≤ 20 := by
        have := longL_get (us := [(⟨bus, mn, l, up, dn, start, idle, spin, on2⟩ : Un)]) (by unfold longB at hLB; simp only [Bool.or_eq_false_iff] at hLB; exact hLB.2) (j := 0) (by simp)
        simpa using this
      have hn20 : n' ≤ 1000000000000 := by have := HST.out.1; omega
      have HU := Lib.hid u1
      have HO := Lib.hid g3
      have HNL := Lib.hid u1.1
      have HML := Lib.hid HH.out.1
      have hm20 : m ≤ 20 := by have := HH.out.1; omega
      obtain ⟨Lu, hlu, hsu⟩ := (HU.out.below HKV.out).src
      have HLU := Lib.hid hlu
      have HSU := Lib.hid (fun W (hk : Kp V W) => hsu.below hk)
      have HLM := Lib.hid (show UL V [(⟨bus, mn, l, up, dn, start, idle, spin, on2⟩ : Un)] [.int .i64 bus, .int .i64 mn, .slice A' n' c', .int .i64 up, .int .i64 dn, .int .i64 start, .int .i64 idle, .int .i64 spin, .int .i64 on2] from ⟨A', n', c', [], rfl, HST.out.below HKV.out, hn20, rfl⟩)
      obtain ⟨jj, hjj, jz0, jz1, jz2⟩ := info_parts info_unit
      have HJ := Lib.hid hjj
      have JZ0 := Lib.hid jz0
      have JZ1 := Lib.hid jz1
      have JZ2 := Lib.hid jz2
      have hul1 : (us ++ [(⟨bus, mn, l, up, dn, start, idle, spin, on2⟩ : Un)]).length = n + 1 := by simp [HNL.out]
      have T19 := Lib.hid (fun B2 c2 W (hu : UsAt W B2 (n + 1) (us ++ [(⟨bus, mn, l, up, dn, start, idle, spin, on2⟩ : Un)])) (hk : Kp V W) => wide29_val B2 B (n + 1) c2 m d (us ++ [(⟨bus, mn, l, up, dn, start, idle, spin, on2⟩ : Un)]) W hu (by omega))
      have T23 := Lib.hid (fun W (hk : Kp V W) => ucheck_raw bus mn up dn start idle spin on2 A' n' c' l W (HST.out.below (Kp.trans HKV.out hk)) hn20)
      clear hlu hsu hjj jz0 jz1 jz2 g1 g2 g3 u1 hul1 T10 T22
      cases hW : wideB (us ++ [(⟨bus, mn, l, up, dn, start, idle, spin, on2⟩ : Un)]) m with
      | true =>
        rw [hW] at T19
        have HT19 := Lib.hid T19.out
        clear T19 T23
        refine wp_region_held_drew (S := fun w' => (w'.cell? ⟨w.heap.size, 0, none⟩ = some (.int .i64 bus) ∧ w'.cell? ⟨w.heap.size, 1, none⟩ = some (.int .i64 mn) ∧ w'.cell? ⟨w.heap.size, 2, none⟩ = some (.slice A' n' c') ∧ w'.cell? ⟨w.heap.size, 3, none⟩ = some (.int .i64 up) ∧ w'.cell? ⟨w.heap.size, 4, none⟩ = some (.int .i64 dn) ∧ w'.cell? ⟨w.heap.size, 5, none⟩ = some (.int .i64 start) ∧ w'.cell? ⟨w.heap.size, 6, none⟩ = some (.int .i64 idle) ∧ w'.cell? ⟨w.heap.size, 7, none⟩ = some (.int .i64 spin) ∧ w'.cell? ⟨w.heap.size, 8, none⟩ = some (.int .i64 on2)) ∧ Kp V w') (by kernel_rfl) (HS.out _ (Kp.drew hk0)) (fun hHeld => ?_)
        refine wpAnyH_take (i := 0) (v := ?v59) rfl (by kernel_rfl) (by kernel_rfl) (by kernel_rfl) (fun _ _ _ h => h) (Or.inl ⟨by rfl, ?y59⟩) (by assumption) ?r59
        case y59 => (intro w hSw; (try dsimp only at hSw); (try simp only [List.getElem_toArray, List.getElem_cons_zero, List.getElem_cons_succ]); go_simp; first | done | with_reducible rfl)
        (try simp only [Act.put, List.getElem_toArray, List.getElem_cons_zero, List.getElem_cons_succ, List.setIfInBounds_toArray, List.set_cons_zero, List.set_cons_succ])
        refine wpAnyH_take (i := 1) (v := ?v60) rfl (by kernel_rfl) (by kernel_rfl) (by kernel_rfl) (fun _ _ _ h => h) (Or.inl ⟨by rfl, ?y60⟩) (by assumption) ?r60
        case y60 => (intro w hSw; (try dsimp only at hSw); (try simp only [List.getElem_toArray, List.getElem_cons_zero, List.getElem_cons_succ]); go_simp; first | done | with_reducible rfl)
        (try simp only [Act.put, List.getElem_toArray, List.getElem_cons_zero, List.getElem_cons_succ, List.setIfInBounds_toArray, List.set_cons_zero, List.set_cons_succ])
        refine wpAnyH_ready (rs := [2]) (by kernel_rfl) (by simp) ?_
        refine AllReadyH.cons rfl (fun K hK => ?_) ?_
        · (try simp only [List.getElem_toArray, List.getElem_cons_zero, List.getElem_cons_succ])
          go_simp
          have hk := And.right ‹_ ∧ Kp V _›
          refine (HT10.out _ hk).mono ?_
          rintro e x0 ⟨rfl, hb0⟩
          have hx0 := Kp.trans hk hb0
          have cM := Kp.trans hx0 ((Kp.refl x0).alloc (.cells #[.int .i64 bus, .int .i64 mn, .slice A' n' c', .int .i64 up, .int .i64 dn, .int .i64 start, .int .i64 idle, .int .i64 spin, .int .i64 on2] 39))
          have m31 := Blk.new x0 39 #[.int .i64 bus, .int .i64 mn, .slice A' n' c', .int .i64 up, .int .i64 dn, .int .i64 start, .int .i64 idle, .int .i64 spin, .int .i64 on2]
          clear hk hb0
          (try (go_wp2_with fail))
          refine hK.out _ _ ?k62 (fun hHeld62 => ?n62)
          case k62 => ((try dsimp only); (first | (with_reducible refine HS.out _ ?_; with_reducible assumption) | (with_reducible refine HS.out _ (Kp.drew ?_); with_reducible assumption) | (with_reducible refine' HS.out _ (Kp.drew (And.right ?_)); rotate_left; with_reducible assumption)))
          clear hK K
          (try simp only [Act.put, List.getElem_toArray, List.getElem_cons_zero, List.getElem_cons_succ, List.setIfInBounds_toArray, List.set_cons_zero, List.set_cons_succ])
          refine wpAnyH_take (i := 3) (v := ?v63) rfl (by kernel_rfl) (by kernel_rfl) (by kernel_rfl) (fun _ _ _ h => h) (Or.inl ⟨by rfl, ?y63⟩) (by assumption) ?r63
          case y63 => (intro w hSw; (try dsimp only at hSw); (try simp only [List.getElem_toArray, List.getElem_cons_zero, List.getElem_cons_succ]); go_simp; first | done | with_reducible rfl)
          (try simp only [Act.put, List.getElem_toArray, List.getElem_cons_zero, List.getElem_cons_succ, List.setIfInBounds_toArray, List.set_cons_zero, List.set_cons_succ])
          refine wpAnyH_take (i := 4) (v := ?v64) rfl (by kernel_rfl) (by kernel_rfl) (by kernel_rfl) (fun _ _ _ h => h) (Or.inl ⟨by rfl, ?y64⟩) (by assumption) ?r64
          case y64 => (intro w hSw; (try dsimp only at hSw); (try simp only [List.getElem_toArray, List.getElem_cons_zero, List.getElem_cons_succ]); go_simp; first | done | with_reducible rfl)
          (try simp only [Act.put, List.getElem_toArray, List.getElem_cons_zero, List.getElem_cons_succ, List.setIfInBounds_toArray, List.set_cons_zero, List.set_cons_succ])
          refine wpAnyH_ready (rs := [5]) (by kernel_rfl) (by simp) ?_
          refine AllReadyH.cons rfl (fun K hK => ?_) ?_
          · (try simp only [List.getElem_toArray, List.getElem_cons_zero, List.getElem_cons_succ])
            go_simp
            refine hK.out _ _ ?k66 (fun hHeld66 => ?n66)
            case k66 => ((try dsimp only); (first | (with_reducible refine HS.out _ ?_; with_reducible assumption) | (with_reducible refine HS.out _ (Kp.drew ?_); with_reducible assumption) | (with_reducible refine' HS.out _ (Kp.drew (And.right ?_)); rotate_left; with_reducible assumption)))
            clear hK K
            (try simp only [Act.put, List.getElem_toArray, List.getElem_cons_zero, List.getElem_cons_succ, List.setIfInBounds_toArray, List.set_cons_zero, List.set_cons_succ])
            refine wpAnyH_ready (rs := [6]) (by kernel_rfl) (by simp) ?_
            refine AllReadyH.cons rfl (fun K hK => ?_) ?_
            · (try simp only [List.getElem_toArray, List.getElem_cons_zero, List.getElem_cons_succ])
              go_simp
              have hk := And.right ‹_ ∧ Kp V _›
              refine (HT22.out _ _ hk (by first | exact m31 | exact Blk.drew m31)).mono ?_
              rintro e x1 ⟨rfl, hb1⟩
              have hx1 := Kp.trans hk hb1
              clear hk hb1
              have k1 := (Kp.refl x1).alloc (.cells #[] 39)
              have k2 := (Kp.refl x1).alloc (.cells #[.int .i64 bus, .int .i64 mn, .slice A' n' c', .int .i64 up, .int .i64 dn, .int .i64 start, .int .i64 idle, .int .i64 spin, .int .i64 on2] 39)
              have k12 := k1.alloc (.cells #[.int .i64 bus, .int .i64 mn, .slice A' n' c', .int .i64 up, .int .i64 dn, .int .i64 start, .int .i64 idle, .int .i64 spin, .int .i64 on2] 39)
              have k21 := k2.alloc (.cells #[] 39)
              have c1 := Kp.trans hx1 k1
              have c2 := Kp.trans hx1 k2
              have c12 := Kp.trans hx1 k12
              have c21 := Kp.trans hx1 k21
              have o1 : Own V.heap.size 39 9 (x1.alloc (.cells #[] 39)) (some ⟨x1.heap.size, 0, none⟩) 0 0 [] := Own.made x1 (Below.size hx1)
              have o12 := o1.keep ((Kp.refl _).alloc (.cells #[.int .i64 bus, .int .i64 mn, .slice A' n' c', .int .i64 up, .int .i64 dn, .int .i64 start, .int .i64 idle, .int .i64 spin, .int .i64 on2] 39))
              have o21 : Own V.heap.size 39 9 ((x1.alloc (.cells #[.int .i64 bus, .int .i64 mn, .slice A' n' c', .int .i64 up, .int .i64 dn, .int .i64 start, .int .i64 idle, .int .i64 spin, .int .i64 on2] 39)).alloc (.cells #[] 39)) (some ⟨x1.heap.size + 1, 0, none⟩) 0 0 [] := own_made1 x1 (.cells #[.int .i64 bus, .int .i64 mn, .slice A' n' c', .int .i64 up, .int .i64 dn, .int .i64 start, .int .i64 idle, .int .i64 spin, .int .i64 on2] 39) (Below.size hx1)
              have mb := Blk.new1 x1 (.cells #[] 39) 39 #[.int .i64 bus, .int .i64 mn, .slice A' n' c', .int .i64 up, .int .i64 dn, .int .i64 start, .int .i64 idle, .int .i64 spin, .int .i64 on2]
              have mc := (Blk.new x1 39 #[.int .i64 bus, .int .i64 mn, .slice A' n' c', .int .i64 up, .int .i64 dn, .int .i64 start, .int .i64 idle, .int .i64 spin, .int .i64 on2]).alloc (.cells #[] 39)
              clear k1 k2 k12 k21
              (try (go_wp2_with fail))
              refine hK.out _ _ ?k68 (fun hHeld68 => ?n68)
              case k68 => ((try dsimp only); (first | (with_reducible refine HS.out _ ?_; with_reducible assumption) | (with_reducible refine HS.out _ (Kp.drew ?_); with_reducible assumption) | (with_reducible refine' HS.out _ (Kp.drew (And.right ?_)); rotate_left; with_reducible assumption)))
              clear hK K
              (try simp only [Act.put, List.getElem_toArray, List.getElem_cons_zero, List.getElem_cons_succ, List.setIfInBounds_toArray, List.set_cons_zero, List.set_cons_succ])
              refine wpAnyH_take (i := 7) (v := ?v69) rfl (by kernel_rfl) (by kernel_rfl) (by kernel_rfl) (fun _ _ _ h => h) (Or.inl ⟨by rfl, ?y69⟩) (by assumption) ?r69
              case y69 => (intro w hSw; (try dsimp only at hSw); (try simp only [List.getElem_toArray, List.getElem_cons_zero, List.getElem_cons_succ]); go_simp; first | done | with_reducible rfl)
              (try simp only [Act.put, List.getElem_toArray, List.getElem_cons_zero, List.getElem_cons_succ, List.setIfInBounds_toArray, List.set_cons_zero, List.set_cons_succ])
              refine wpAnyH_take (i := 8) (v := ?v70) rfl (by kernel_rfl) (by kernel_rfl) (by kernel_rfl) (fun _ _ _ h => h) (Or.inl ⟨by rfl, ?y70⟩) (by assumption) ?r70
              case y70 => (intro w hSw; (try dsimp only at hSw); (try simp only [List.getElem_toArray, List.getElem_cons_zero, List.getElem_cons_succ]); go_simp; first | done | with_reducible rfl)
              (try simp only [Act.put, List.getElem_toArray, List.getElem_cons_zero, List.getElem_cons_succ, List.setIfInBounds_toArray, List.set_cons_zero, List.set_cons_succ])
              refine wpAnyH_take (i := 10) (v := ?v72) rfl (by kernel_rfl) (by kernel_rfl) (by kernel_rfl) (fun _ _ _ h => h) (Or.inl ⟨by rfl, ?y72⟩) (by assumption) ?r72
              case y72 => (intro w hSw; (try dsimp only at hSw); (try simp only [List.getElem_toArray, List.getElem_cons_zero, List.getElem_cons_succ]); go_simp; first | done | with_reducible rfl)
              (try simp only [Act.put, List.getElem_toArray, List.getElem_cons_zero, List.getElem_cons_succ, List.setIfInBounds_toArray, List.set_cons_zero, List.set_cons_succ])
              refine wpAnyH_take (i := 12) (v := ?v74) rfl (by kernel_rfl) (by kernel_rfl) (by kernel_rfl) (fun _ _ _ h => h) (Or.inl ⟨by rfl, ?y74⟩) (by assumption) ?r74
              case y74 => (intro w hSw; (try dsimp only at hSw); (try simp only [List.getElem_toArray, List.getElem_cons_zero, List.getElem_cons_succ]); go_simp; first | done | with_reducible rfl)
              (try simp only [Act.put, List.getElem_toArray, List.getElem_cons_zero, List.getElem_cons_succ, List.setIfInBounds_toArray, List.set_cons_zero, List.set_cons_succ])
              refine wpAnyH_take (i := 15) (v := ?v77) rfl (by kernel_rfl) (by kernel_rfl) (by kernel_rfl) (fun _ _ _ h => h) (Or.inl ⟨by rfl, ?y77⟩) (by assumption) ?r77
              case y77 => (intro w hSw; (try dsimp only at hSw); (try simp only [List.getElem_toArray, List.getElem_cons_zero, List.getElem_cons_succ]); go_simp; first | done | with_reducible rfl)
              (try simp only [Act.put, List.getElem_toArray, List.getElem_cons_zero, List.getElem_cons_succ, List.setIfInBounds_toArray, List.set_cons_zero, List.set_cons_succ])
              refine wpAnyH_ready (rs := [9, 13]) (by kernel_rfl) (by simp) ?_
              refine AllReadyH.cons rfl (fun K hK => ?_) ?_
              · (try simp only [List.getElem_toArray, List.getElem_cons_zero, List.getElem_cons_succ])
                go_simp
                refine hK.out _ _ ?k80 (fun hHeld80 => ?n80)
                case k80 => ((try dsimp only); (first | (with_reducible refine HS.out _ ?_; with_reducible assumption) | (with_reducible refine HS.out _ (Kp.drew ?_); with_reducible assumption) | (with_reducible refine' HS.out _ (Kp.drew (And.right ?_)); rotate_left; with_reducible assumption)))
                clear hK K
                (try simp only [Act.put, List.getElem_toArray, List.getElem_cons_zero, List.getElem_cons_succ, List.setIfInBounds_toArray, List.set_cons_zero, List.set_cons_succ])
                refine wpAnyH_ready (rs := [11, 13]) (by kernel_rfl) (by simp) ?_
                refine AllReadyH.cons rfl (fun K hK => ?_) ?_
                · refine step_append_my (base := V.heap.size) (e := 39) (size := 9) (bytes := 88) (by rfl) (.tmp 35) (.tmp 36) 22 rfl Tryz.underlying22 HJ.out JZ0.out JZ1.out JZ2.out rfl (by decide) (xs := []) (news := Lu) rfl (by first | exact o1 | exact o12 | exact o21) rfl (by first | exact HSU.out _ c1 | exact HSU.out _ (Kp.drew c1) | exact HSU.out _ c12 | exact HSU.out _ (Kp.drew c12) | exact HSU.out _ c21 | exact HSU.out _ (Kp.drew c21)) (by simp only [maxLen]; omega) (by omega) (by first | exact Below.size c1 | exact Below.size (Kp.drew c1) | exact Below.size c12 | exact Below.size (Kp.drew c12) | exact Below.size c21 | exact Below.size (Kp.drew c21)) ?_
                  intro y1B y1c y1 hO1 hbA hkA
                  simp only [Nat.zero_add, List.nil_append] at hO1
                  (try simp only [Nat.zero_add])
                  have d1 : Kp V y1 := Below.trans (by first | exact c1 | exact Kp.drew c1 | exact c12 | exact Kp.drew c12 | exact c21 | exact Kp.drew c21) hbA
                  have dM := Kp.trans d1 ((Kp.refl y1).alloc (.cells #[.int .i64 bus, .int .i64 mn, .slice A' n' c', .int .i64 up, .int .i64 dn, .int .i64 start, .int .i64 idle, .int .i64 spin, .int .i64 on2] 39))
                  have oM := hO1.keep ((Kp.refl y1).alloc (.cells #[.int .i64 bus, .int .i64 mn, .slice A' n' c', .int .i64 up, .int .i64 dn, .int .i64 start, .int .i64 idle, .int .i64 spin, .int .i64 on2] 39))
                  have mM := Blk.new y1 39 #[.int .i64 bus, .int .i64 mn, .slice A' n' c', .int .i64 up, .int .i64 dn, .int .i64 start, .int .i64 idle, .int .i64 spin, .int .i64 on2]
                  (first | have hM := Kept.blk hkA mb (by simp) | have hM := Kept.blk hkA (Blk.drew mb) (by simp) | have hM := Kept.blk hkA mc (by simp) | have hM := Kept.blk hkA (Blk.drew mc) (by simp) | skip)
                  clear hbA hkA
                  refine hK.out _ _ ?k83 (fun hHeld83 => ?n83)
                  case k83 => ((try dsimp only); (first | (with_reducible refine HS.out _ ?_; with_reducible assumption) | (with_reducible refine HS.out _ (Kp.drew ?_); with_reducible assumption) | (with_reducible refine' HS.out _ (Kp.drew (And.right ?_)); rotate_left; with_reducible assumption)))
                  clear hK K
                  (try simp only [Act.put, List.getElem_toArray, List.getElem_cons_zero, List.getElem_cons_succ, List.setIfInBounds_toArray, List.set_cons_zero, List.set_cons_succ])
                  refine wpAnyH_ready (rs := [13]) (by kernel_rfl) (by simp) ?_
                  refine AllReadyH.cons rfl (fun K hK => ?_) ?_
                  · (try simp only [List.getElem_toArray, List.getElem_cons_zero, List.getElem_cons_succ])
                    go_simp
                    refine hK.out _ _ ?k85 (fun hHeld85 => ?n85)
                    case k85 => ((try dsimp only); (first | (with_reducible refine HS.out _ ?_; with_reducible assumption) | (with_reducible refine HS.out _ (Kp.drew ?_); with_reducible assumption) | (with_reducible refine' HS.out _ (Kp.drew (And.right ?_)); rotate_left; with_reducible assumption)))
                    clear hK K
                    (try simp only [Act.put, List.getElem_toArray, List.getElem_cons_zero, List.getElem_cons_succ, List.setIfInBounds_toArray, List.set_cons_zero, List.set_cons_succ])
                    refine wpAnyH_ready (rs := [14]) (by kernel_rfl) (by simp) ?_
                    refine AllReadyH.cons rfl (fun K hK => ?_) ?_
                    · refine step_append_my (base := V.heap.size) (e := 39) (size := 9) (bytes := 88) (by rfl) (.tmp 37) (.tmp 39) 22 rfl Tryz.underlying22 HJ.out JZ0.out JZ1.out JZ2.out rfl (by decide) (xs := Lu) (news := [.int .i64 bus, .int .i64 mn, .slice A' n' c', .int .i64 up, .int .i64 dn, .int .i64 start, .int .i64 idle, .int .i64 spin, .int .i64 on2]) rfl (by first | exact hO1 | exact oM) rfl (by first | exact Blk.src hM rfl munit_one | exact Blk.src mM rfl munit_one) (by simp only [maxLen]; omega) (by omega) (by first | exact Below.size d1 | exact Below.size dM) ?_
                      intro y2B y2c y2 hO2 hbB hkB
                      have d2 : Kp V y2 := Below.trans (by first | exact d1 | exact dM) hbB
                      have HUS := Lib.hid (hO2.units ((UL.app HLU.out HLM.out).below (Kp.trans HVL.out d2)) (by simp [HNL.out]))
                      clear hbB hkB hO2
                      refine hK.out _ _ ?k87 (fun hHeld87 => ?n87)
                      case k87 => ((try dsimp only); (first | (with_reducible refine HS.out _ ?_; with_reducible assumption) | (with_reducible refine HS.out _ (Kp.drew ?_); with_reducible assumption) | (with_reducible refine' HS.out _ (Kp.drew (And.right ?_)); rotate_left; with_reducible assumption)))
                      clear hK K
                      (try simp only [Act.put, List.getElem_toArray, List.getElem_cons_zero, List.getElem_cons_succ, List.setIfInBounds_toArray, List.set_cons_zero, List.set_cons_succ])
                      refine wpAnyH_ready (rs := [16]) (by kernel_rfl) (by simp) ?_
                      refine AllReadyH.cons rfl (fun K hK => ?_) ?_
                      · (try simp only [List.getElem_toArray, List.getElem_cons_zero, List.getElem_cons_succ])
                        go_simp
                        have hk := And.right ‹_ ∧ Kp V _›
                        refine (HT19.out _ _ _ (by first | exact HUS.out | exact HUS.out.below (Kp.drew (Kp.refl _))) hk).mono ?_
                        rintro e x2 ⟨rfl, hb2⟩
                        have hx2 := Kp.trans hk hb2
                        clear hk hb2
                        (try (go_wp2_with fail))
                        refine hK.out _ _ ?k89 (fun hHeld89 => ?n89)
                        case k89 => ((try dsimp only); (first | (with_reducible refine HS.out _ ?_; with_reducible assumption) | (with_reducible refine HS.out _ (Kp.drew ?_); with_reducible assumption) | (with_reducible refine' HS.out _ (Kp.drew (And.right ?_)); rotate_left; with_reducible assumption)))
                        clear hK K
                        (try simp only [Act.put, List.getElem_toArray, List.getElem_cons_zero, List.getElem_cons_succ, List.setIfInBounds_toArray, List.set_cons_zero, List.set_cons_succ])
                        refine wpAnyH_take (i := 17) (v := ?v90) rfl (by kernel_rfl) (by kernel_rfl) (by kernel_rfl) (fun _ _ _ h => h) (Or.inl ⟨by rfl, ?y90⟩) (by assumption) ?r90
                        case y90 => (intro w hSw; (try dsimp only at hSw); (try simp only [List.getElem_toArray, List.getElem_cons_zero, List.getElem_cons_succ]); go_simp; first | done | with_reducible rfl)
                        (try simp only [Act.put, List.getElem_toArray, List.getElem_cons_zero, List.getElem_cons_succ, List.setIfInBounds_toArray, List.set_cons_zero, List.set_cons_succ])
                        refine wpAnyH_take (i := 18) (v := ?v91) rfl (by kernel_rfl) (by kernel_rfl) (by kernel_rfl) (fun _ _ _ h => h) (Or.inl ⟨by rfl, ?y91⟩) (by assumption) ?r91
                        case y91 => (intro w hSw; (try dsimp only at hSw); (try simp only [List.getElem_toArray, List.getElem_cons_zero, List.getElem_cons_succ]); go_simp; first | done | with_reducible rfl)
                        (try simp only [Act.put, List.getElem_toArray, List.getElem_cons_zero, List.getElem_cons_succ, List.setIfInBounds_toArray, List.set_cons_zero, List.set_cons_succ])
                        refine wpAnyH_take (i := 19) (v := undef) rfl (by kernel_rfl) (by kernel_rfl) (by kernel_rfl) (fun _ _ _ h => h) (Or.inr ⟨by rfl, rfl⟩) (by assumption) ?_
                        (try simp only [Act.put, List.getElem_toArray, List.getElem_cons_zero, List.getElem_cons_succ, List.setIfInBounds_toArray, List.set_cons_zero, List.set_cons_succ])
                        refine wpAnyH_take (i := 20) (v := undef) rfl (by kernel_rfl) (by kernel_rfl) (by kernel_rfl) (fun _ _ _ h => h) (Or.inr ⟨by rfl, rfl⟩) (by assumption) ?_
                        (try simp only [Act.put, List.getElem_toArray, List.getElem_cons_zero, List.getElem_cons_succ, List.setIfInBounds_toArray, List.set_cons_zero, List.set_cons_succ])
                        refine wpAnyH_take (i := 21) (v := undef) rfl (by kernel_rfl) (by kernel_rfl) (by kernel_rfl) (fun _ _ _ h => h) (Or.inr ⟨by rfl, rfl⟩) (by assumption) ?_
                        (try simp only [Act.put, List.getElem_toArray, List.getElem_cons_zero, List.getElem_cons_succ, List.setIfInBounds_toArray, List.set_cons_zero, List.set_cons_succ])
                        refine wpAnyH_take (i := 22) (v := ?v95) rfl (by kernel_rfl) (by kernel_rfl) (by kernel_rfl) (fun _ _ _ h => h) (Or.inl ⟨by rfl, ?y95⟩) (by assumption) ?r95
                        case y95 => (intro w hSw; (try dsimp only at hSw); (try simp only [List.getElem_toArray, List.getElem_cons_zero, List.getElem_cons_succ]); go_simp; first | done | with_reducible rfl)
                        (try simp only [Act.put, List.getElem_toArray, List.getElem_cons_zero, List.getElem_cons_succ, List.setIfInBounds_toArray, List.set_cons_zero, List.set_cons_succ])
                        refine wpAnyH_take (i := 23) (v := ?v96) rfl (by kernel_rfl) (by kernel_rfl) (by kernel_rfl) (fun _ _ _ h => h) (Or.inl ⟨by rfl, ?y96⟩) (by assumption) ?r96
                        case y96 => (intro w hSw; (try dsimp only at hSw); (try simp only [List.getElem_toArray, List.getElem_cons_zero, List.getElem_cons_succ]); go_simp; first | done | with_reducible rfl)
                        (try simp only [Act.put, List.getElem_toArray, List.getElem_cons_zero, List.getElem_cons_succ, List.setIfInBounds_toArray, List.set_cons_zero, List.set_cons_succ])
                        refine wpAnyH_take (i := 24) (v := undef) rfl (by kernel_rfl) (by kernel_rfl) (by kernel_rfl) (fun _ _ _ h => h) (Or.inr ⟨by rfl, rfl⟩) (by assumption) ?_
                        (try simp only [Act.put, List.getElem_toArray, List.getElem_cons_zero, List.getElem_cons_succ, List.setIfInBounds_toArray, List.set_cons_zero, List.set_cons_succ])
                        refine wpAnyH_take (i := 25) (v := undef) rfl (by kernel_rfl) (by kernel_rfl) (by kernel_rfl) (fun _ _ _ h => h) (Or.inr ⟨by rfl, rfl⟩) (by assumption) ?_
                        (try simp only [Act.put, List.getElem_toArray, List.getElem_cons_zero, List.getElem_cons_succ, List.setIfInBounds_toArray, List.set_cons_zero, List.set_cons_succ])
                        refine wpAnyH_take (i := 26) (v := ?v99) rfl (by kernel_rfl) (by kernel_rfl) (by kernel_rfl) (fun _ _ _ h => h) (Or.inl ⟨by rfl, ?y99⟩) (by assumption) ?r99
                        case y99 => (intro w hSw; (try dsimp only at hSw); (try simp only [List.getElem_toArray, List.getElem_cons_zero, List.getElem_cons_succ]); go_simp; first | done | with_reducible rfl)
                        (try simp only [Act.put, List.getElem_toArray, List.getElem_cons_zero, List.getElem_cons_succ, List.setIfInBounds_toArray, List.set_cons_zero, List.set_cons_succ])
                        refine wpAnyH_done (by kernel_rfl) ?_ _
                        have HBA := Lib.hid (Kp.trans HKV.out hx2)
                        go_wp2_with fail
                        refine (HAW.out _).mono ?_
                        rintro e x9 ⟨rfl, hb9⟩
                        have HB9 := Lib.hid (Kp.trans HBA.out hb9)
                        clear hb9
                        go_wp2
                        go_ret
                        exact ⟨rfl, HB9.out⟩
                      exact AllReadyH.nil
                    exact AllReadyH.nil
                  exact AllReadyH.nil
                refine AllReadyH.cons rfl (fun K hK => ?_) ?_
                · (try simp only [List.getElem_toArray, List.getElem_cons_zero, List.getElem_cons_succ])
                  go_simp
                  refine hK.out _ _ ?k100 (fun hHeld100 => ?n100)
                  case k100 => ((try dsimp only); (first | (with_reducible refine HS.out _ ?_; with_reducible assumption) | (with_reducible refine HS.out _ (Kp.drew ?_); with_reducible assumption) | (with_reducible refine' HS.out _ (Kp.drew (And.right ?_)); rotate_left; with_reducible assumption)))
                  clear hK K
                  (try simp only [Act.put, List.getElem_toArray, List.getElem_cons_zero, List.getElem_cons_succ, List.setIfInBounds_toArray, List.set_cons_zero, List.set_cons_succ])
                  refine wpAnyH_ready (rs := [11]) (by kernel_rfl) (by simp) ?_
                  refine AllReadyH.cons rfl (fun K hK => ?_) ?_
                  · refine step_append_my (base := V.heap.size) (e := 39) (size := 9) (bytes := 88) (by rfl) (.tmp 35) (.tmp 36) 22 rfl Tryz.underlying22 HJ.out JZ0.out JZ1.out JZ2.out rfl (by decide) (xs := []) (news := Lu) rfl (by first | exact o1 | exact o12 | exact o21) rfl (by first | exact HSU.out _ c1 | exact HSU.out _ (Kp.drew c1) | exact HSU.out _ c12 | exact HSU.out _ (Kp.drew c12) | exact HSU.out _ c21 | exact HSU.out _ (Kp.drew c21)) (by simp only [maxLen]; omega) (by omega) (by first | exact Below.size c1 | exact Below.size (Kp.drew c1) | exact Below.size c12 | exact Below.size (Kp.drew c12) | exact Below.size c21 | exact Below.size (Kp.drew c21)) ?_
                    intro y1B y1c y1 hO1 hbA hkA
                    simp only [Nat.zero_add, List.nil_append] at hO1
                    (try simp only [Nat.zero_add])
                    have d1 : Kp V y1 := Below.trans (by first | exact c1 | exact Kp.drew c1 | exact c12 | exact Kp.drew c12 | exact c21 | exact Kp.drew c21) hbA
                    have dM := Kp.trans d1 ((Kp.refl y1).alloc (.cells #[.int .i64 bus, .int .i64 mn, .slice A' n' c', .int .i64 up, .int .i64 dn, .int .i64 start, .int .i64 idle, .int .i64 spin, .int .i64 on2] 39))
                    have oM := hO1.keep ((Kp.refl y1).alloc (.cells #[.int .i64 bus, .int .i64 mn, .slice A' n' c', .int .i64 up, .int .i64 dn, .int .i64 start, .int .i64 idle, .int .i64 spin, .int .i64 on2] 39))
                    have mM := Blk.new y1 39 #[.int .i64 bus, .int .i64 mn, .slice A' n' c', .int .i64 up, .int .i64 dn, .int .i64 start, .int .i64 idle, .int .i64 spin, .int .i64 on2]
                    (first | have hM := Kept.blk hkA mb (by simp) | have hM := Kept.blk hkA (Blk.drew mb) (by simp) | have hM := Kept.blk hkA mc (by simp) | have hM := Kept.blk hkA (Blk.drew mc) (by simp) | skip)
                    clear hbA hkA
                    refine hK.out _ _ ?k102 (fun hHeld102 => ?n102)
                    case k102 => ((try dsimp only); (first | (with_reducible refine HS.out _ ?_; with_reducible assumption) | (with_reducible refine HS.out _ (Kp.drew ?_); with_reducible assumption) | (with_reducible refine' HS.out _ (Kp.drew (And.right ?_)); rotate_left; with_reducible assumption)))
                    clear hK K
                    (try simp only [Act.put, List.getElem_toArray, List.getElem_cons_zero, List.getElem_cons_succ, List.setIfInBounds_toArray, List.set_cons_zero, List.set_cons_succ])
                    refine wpAnyH_ready (rs := [14]) (by kernel_rfl) (by simp) ?_
                    refine AllReadyH.cons rfl (fun K hK => ?_) ?_
                    · refine step_append_my (base := V.heap.size) (e := 39) (size := 9) (bytes := 88) (by rfl) (.tmp 37) (.tmp 39) 22 rfl Tryz.underlying22 HJ.out JZ0.out JZ1.out JZ2.out rfl (by decide) (xs := Lu) (news := [.int .i64 bus, .int .i64 mn, .slice A' n' c', .int .i64 up, .int .i64 dn, .int .i64 start, .int .i64 idle, .int .i64 spin, .int .i64 on2]) rfl (by first | exact hO1 | exact oM) rfl (by first | exact Blk.src hM rfl munit_one | exact Blk.src mM rfl munit_one) (by simp only [maxLen]; omega) (by omega) (by first | exact Below.size d1 | exact Below.size dM) ?_
                      intro y2B y2c y2 hO2 hbB hkB
                      have d2 : Kp V y2 := Below.trans (by first | exact d1 | exact dM) hbB
                      have HUS := Lib.hid (hO2.units ((UL.app HLU.out HLM.out).below (Kp.trans HVL.out d2)) (by simp [HNL.out]))
                      clear hbB hkB hO2
                      refine hK.out _ _ ?k104 (fun hHeld104 => ?n104)
                      case k104 => ((try dsimp only); (first | (with_reducible refine HS.out _ ?_; with_reducible assumption) | (with_reducible refine HS.out _ (Kp.drew ?_); with_reducible assumption) | (with_reducible refine' HS.out _ (Kp.drew (And.right ?_)); rotate_left; with_reducible assumption)))
                      clear hK K
                      (try simp only [Act.put, List.getElem_toArray, List.getElem_cons_zero, List.getElem_cons_succ, List.setIfInBounds_toArray, List.set_cons_zero, List.set_cons_succ])
                      refine wpAnyH_ready (rs := [16]) (by kernel_rfl) (by simp) ?_
                      refine AllReadyH.cons rfl (fun K hK => ?_) ?_
                      · (try simp only [List.getElem_toArray, List.getElem_cons_zero, List.getElem_cons_succ])
                        go_simp
                        have hk := And.right ‹_ ∧ Kp V _›
                        refine (HT19.out _ _ _ (by first | exact HUS.out | exact HUS.out.below (Kp.drew (Kp.refl _))) hk).mono ?_
                        rintro e x2 ⟨rfl, hb2⟩
                        have hx2 := Kp.trans hk hb2
                        clear hk hb2
                        (try (go_wp2_with fail))
                        refine hK.out _ _ ?k106 (fun hHeld106 => ?n106)
                        case k106 => ((try dsimp only); (first | (with_reducible refine HS.out _ ?_; with_reducible assumption) | (with_reducible refine HS.out _ (Kp.drew ?_); with_reducible assumption) | (with_reducible refine' HS.out _ (Kp.drew (And.right ?_)); rotate_left; with_reducible assumption)))
                        clear hK K
                        (try simp only [Act.put, List.getElem_toArray, List.getElem_cons_zero, List.getElem_cons_succ, List.setIfInBounds_toArray, List.set_cons_zero, List.set_cons_succ])
                        refine wpAnyH_take (i := 17) (v := ?v107) rfl (by kernel_rfl) (by kernel_rfl) (by kernel_rfl) (fun _ _ _ h => h) (Or.inl ⟨by rfl, ?y107⟩) (by assumption) ?r107
                        case y107 => (intro w hSw; (try dsimp only at hSw); (try simp only [List.getElem_toArray, List.getElem_cons_zero, List.getElem_cons_succ]); go_simp; first | done | with_reducible rfl)
                        (try simp only [Act.put, List.getElem_toArray, List.getElem_cons_zero, List.getElem_cons_succ, List.setIfInBounds_toArray, List.set_cons_zero, List.set_cons_succ])
                        refine wpAnyH_take (i := 18) (v := ?v108) rfl (by kernel_rfl) (by kernel_rfl) (by kernel_rfl) (fun _ _ _ h => h) (Or.inl ⟨by rfl, ?y108⟩) (by assumption) ?r108
                        case y108 => (intro w hSw; (try dsimp only at hSw); (try simp only [List.getElem_toArray, List.getElem_cons_zero, List.getElem_cons_succ]); go_simp; first | done | with_reducible rfl)
                        (try simp only [Act.put, List.getElem_toArray, List.getElem_cons_zero, List.getElem_cons_succ, List.setIfInBounds_toArray, List.set_cons_zero, List.set_cons_succ])
                        refine wpAnyH_take (i := 19) (v := undef) rfl (by kernel_rfl) (by kernel_rfl) (by kernel_rfl) (fun _ _ _ h => h) (Or.inr ⟨by rfl, rfl⟩) (by assumption) ?_
                        (try simp only [Act.put, List.getElem_toArray, List.getElem_cons_zero, List.getElem_cons_succ, List.setIfInBounds_toArray, List.set_cons_zero, List.set_cons_succ])
                        refine wpAnyH_take (i := 20) (v := undef) rfl (by kernel_rfl) (by kernel_rfl) (by kernel_rfl) (fun _ _ _ h => h) (Or.inr ⟨by rfl, rfl⟩) (by assumption) ?_
                        (try simp only [Act.put, List.getElem_toArray, List.getElem_cons_zero, List.getElem_cons_succ, List.setIfInBounds_toArray, List.set_cons_zero, List.set_cons_succ])
                        refine wpAnyH_take (i := 21) (v := undef) rfl (by kernel_rfl) (by kernel_rfl) (by kernel_rfl) (fun _ _ _ h => h) (Or.inr ⟨by rfl, rfl⟩) (by assumption) ?_
                        (try simp only [Act.put, List.getElem_toArray, List.getElem_cons_zero, List.getElem_cons_succ, List.setIfInBounds_toArray, List.set_cons_zero, List.set_cons_succ])
                        refine wpAnyH_take (i := 22) (v := ?v112) rfl (by kernel_rfl) (by kernel_rfl) (by kernel_rfl) (fun _ _ _ h => h) (Or.inl ⟨by rfl, ?y112⟩) (by assumption) ?r112
                        case y112 => (intro w hSw; (try dsimp only at hSw); (try simp only [List.getElem_toArray, List.getElem_cons_zero, List.getElem_cons_succ]); go_simp; first | done | with_reducible rfl)
                        (try simp only [Act.put, List.getElem_toArray, List.getElem_cons_zero, List.getElem_cons_succ, List.setIfInBounds_toArray, List.set_cons_zero, List.set_cons_succ])
                        refine wpAnyH_take (i := 23) (v := ?v113) rfl (by kernel_rfl) (by kernel_rfl) (by kernel_rfl) (fun _ _ _ h => h) (Or.inl ⟨by rfl, ?y113⟩) (by assumption) ?r113
                        case y113 => (intro w hSw; (try dsimp only at hSw); (try simp only [List.getElem_toArray, List.getElem_cons_zero, List.getElem_cons_succ]); go_simp; first | done | with_reducible rfl)
                        (try simp only [Act.put, List.getElem_toArray, List.getElem_cons_zero, List.getElem_cons_succ, List.setIfInBounds_toArray, List.set_cons_zero, List.set_cons_succ])
                        refine wpAnyH_take (i := 24) (v := undef) rfl (by kernel_rfl) (by kernel_rfl) (by kernel_rfl) (fun _ _ _ h => h) (Or.inr ⟨by rfl, rfl⟩) (by assumption) ?_
                        (try simp only [Act.put, List.getElem_toArray, List.getElem_cons_zero, List.getElem_cons_succ, List.setIfInBounds_toArray, List.set_cons_zero, List.set_cons_succ])
                        refine wpAnyH_take (i := 25) (v := undef) rfl (by kernel_rfl) (by kernel_rfl) (by kernel_rfl) (fun _ _ _ h => h) (Or.inr ⟨by rfl, rfl⟩) (by assumption) ?_
                        (try simp only [Act.put, List.getElem_toArray, List.getElem_cons_zero, List.getElem_cons_succ, List.setIfInBounds_toArray, List.set_cons_zero, List.set_cons_succ])
                        refine wpAnyH_take (i := 26) (v := ?v116) rfl (by kernel_rfl) (by kernel_rfl) (by kernel_rfl) (fun _ _ _ h => h) (Or.inl ⟨by rfl, ?y116⟩) (by assumption) ?r116
                        case y116 => (intro w hSw; (try dsimp only at hSw); (try simp only [List.getElem_toArray, List.getElem_cons_zero, List.getElem_cons_succ]); go_simp; first | done | with_reducible rfl)
                        (try simp only [Act.put, List.getElem_toArray, List.getElem_cons_zero, List.getElem_cons_succ, List.setIfInBounds_toArray, List.set_cons_zero, List.set_cons_succ])
                        refine wpAnyH_done (by kernel_rfl) ?_ _
                        have HBA := Lib.hid (Kp.trans HKV.out hx2)
                        go_wp2_with fail
                        refine (HAW.out _).mono ?_
                        rintro e x9 ⟨rfl, hb9⟩
                        have HB9 := Lib.hid (Kp.trans HBA.out hb9)
                        clear hb9
                        go_wp2
                        go_ret
                        exact ⟨rfl, HB9.out⟩
                      exact AllReadyH.nil
                    exact AllReadyH.nil
                  exact AllReadyH.nil
                exact AllReadyH.nil
              refine AllReadyH.cons rfl (fun K hK => ?_) ?_
              · (try simp only [List.getElem_toArray, List.getElem_cons_zero, List.getElem_cons_succ])
                go_simp
                refine hK.out _ _ ?k117 (fun hHeld117 => ?n117)
                case k117 => ((try dsimp only); (first | (with_reducible refine HS.out _ ?_; with_reducible assumption) | (with_reducible refine HS.out _ (Kp.drew ?_); with_reducible assumption) | (with_reducible refine' HS.out _ (Kp.drew (And.right ?_)); rotate_left; with_reducible assumption)))
                clear hK K
                (try simp only [Act.put, List.getElem_toArray, List.getElem_cons_zero, List.getElem_cons_succ, List.setIfInBounds_toArray, List.set_cons_zero, List.set_cons_succ])
                refine wpAnyH_ready (rs := [9]) (by kernel_rfl) (by simp) ?_
                refine AllReadyH.cons rfl (fun K hK => ?_) ?_
                · (try simp only [List.getElem_toArray, List.getElem_cons_zero, List.getElem_cons_succ])
                  go_simp
                  refine hK.out _ _ ?k119 (fun hHeld119 => ?n119)
                  case k119 => ((try dsimp only); (first | (with_reducible refine HS.out _ ?_; with_reducible assumption) | (with_reducible refine HS.out _ (Kp.drew ?_); with_reducible assumption) | (with_reducible refine' HS.out _ (Kp.drew (And.right ?_)); rotate_left; with_reducible assumption)))
                  clear hK K
                  (try simp only [Act.put, List.getElem_toArray, List.getElem_cons_zero, List.getElem_cons_succ, List.setIfInBounds_toArray, List.set_cons_zero, List.set_cons_succ])
                  refine wpAnyH_ready (rs := [11]) (by kernel_rfl) (by simp) ?_
                  refine AllReadyH.cons rfl (fun K hK => ?_) ?_
                  · refine step_append_my (base := V.heap.size) (e := 39) (size := 9) (bytes := 88) (by rfl) (.tmp 35) (.tmp 36) 22 rfl Tryz.underlying22 HJ.out JZ0.out JZ1.out JZ2.out rfl (by decide) (xs := []) (news := Lu) rfl (by first | exact o1 | exact o12 | exact o21) rfl (by first | exact HSU.out _ c1 | exact HSU.out _ (Kp.drew c1) | exact HSU.out _ c12 | exact HSU.out _ (Kp.drew c12) | exact HSU.out _ c21 | exact HSU.out _ (Kp.drew c21)) (by simp only [maxLen]; omega) (by omega) (by first | exact Below.size c1 | exact Below.size (Kp.drew c1) | exact Below.size c12 | exact Below.size (Kp.drew c12) | exact Below.size c21 | exact Below.size (Kp.drew c21)) ?_
                    intro y1B y1c y1 hO1 hbA hkA
                    simp only [Nat.zero_add, List.nil_append] at hO1
                    (try simp only [Nat.zero_add])
                    have d1 : Kp V y1 := Below.trans (by first | exact c1 | exact Kp.drew c1 | exact c12 | exact Kp.drew c12 | exact c21 | exact Kp.drew c21) hbA
                    have dM := Kp.trans d1 ((Kp.refl y1).alloc (.cells #[.int .i64 bus, .int .i64 mn, .slice A' n' c', .int .i64 up, .int .i64 dn, .int .i64 start, .int .i64 idle, .int .i64 spin, .int .i64 on2] 39))
                    have oM := hO1.keep ((Kp.refl y1).alloc (.cells #[.int .i64 bus, .int .i64 mn, .slice A' n' c', .int .i64 up, .int .i64 dn, .int .i64 start, .int .i64 idle, .int .i64 spin, .int .i64 on2] 39))
                    have mM := Blk.new y1 39 #[.int .i64 bus, .int .i64 mn, .slice A' n' c', .int .i64 up, .int .i64 dn, .int .i64 start, .int .i64 idle, .int .i64 spin, .int .i64 on2]
                    (first | have hM := Kept.blk hkA mb (by simp) | have hM := Kept.blk hkA (Blk.drew mb) (by simp) | have hM := Kept.blk hkA mc (by simp) | have hM := Kept.blk hkA (Blk.drew mc) (by simp) | skip)
                    clear hbA hkA
                    refine hK.out _ _ ?k121 (fun hHeld121 => ?n121)
                    case k121 => ((try dsimp only); (first | (with_reducible refine HS.out _ ?_; with_reducible assumption) | (with_reducible refine HS.out _ (Kp.drew ?_); with_reducible assumption) | (with_reducible refine' HS.out _ (Kp.drew (And.right ?_)); rotate_left; with_reducible assumption)))
                    clear hK K
                    (try simp only [Act.put, List.getElem_toArray, List.getElem_cons_zero, List.getElem_cons_succ, List.setIfInBounds_toArray, List.set_cons_zero, List.set_cons_succ])
                    refine wpAnyH_ready (rs := [14]) (by kernel_rfl) (by simp) ?_
                    refine AllReadyH.cons rfl (fun K hK => ?_) ?_
                    · refine step_append_my (base := V.heap.size) (e := 39) (size := 9) (bytes := 88) (by rfl) (.tmp 37) (.tmp 39) 22 rfl Tryz.underlying22 HJ.out JZ0.out JZ1.out JZ2.out rfl (by decide) (xs := Lu) (news := [.int .i64 bus, .int .i64 mn, .slice A' n' c', .int .i64 up, .int .i64 dn, .int .i64 start, .int .i64 idle, .int .i64 spin, .int .i64 on2]) rfl (by first | exact hO1 | exact oM) rfl (by first | exact Blk.src hM rfl munit_one | exact Blk.src mM rfl munit_one) (by simp only [maxLen]; omega) (by omega) (by first | exact Below.size d1 | exact Below.size dM) ?_
                      intro y2B y2c y2 hO2 hbB hkB
                      have d2 : Kp V y2 := Below.trans (by first | exact d1 | exact dM) hbB
                      have HUS := Lib.hid (hO2.units ((UL.app HLU.out HLM.out).below (Kp.trans HVL.out d2)) (by simp [HNL.out]))
                      clear hbB hkB hO2
                      refine hK.out _ _ ?k123 (fun hHeld123 => ?n123)
                      case k123 => ((try dsimp only); (first | (with_reducible refine HS.out _ ?_; with_reducible assumption) | (with_reducible refine HS.out _ (Kp.drew ?_); with_reducible assumption) | (with_reducible refine' HS.out _ (Kp.drew (And.right ?_)); rotate_left; with_reducible assumption)))
                      clear hK K
                      (try simp only [Act.put, List.getElem_toArray, List.getElem_cons_zero, List.getElem_cons_succ, List.setIfInBounds_toArray, List.set_cons_zero, List.set_cons_succ])
                      refine wpAnyH_ready (rs := [16]) (by kernel_rfl) (by simp) ?_
                      refine AllReadyH.cons rfl (fun K hK => ?_) ?_
                      · (try simp only [List.getElem_toArray, List.getElem_cons_zero, List.getElem_cons_succ])
                        go_simp
                        have hk := And.right ‹_ ∧ Kp V _›
                        refine (HT19.out _ _ _ (by first | exact HUS.out | exact HUS.out.below (Kp.drew (Kp.refl _))) hk).mono ?_
                        rintro e x2 ⟨rfl, hb2⟩
                        have hx2 := Kp.trans hk hb2
                        clear hk hb2
                        (try (go_wp2_with fail))
                        refine hK.out _ _ ?k125 (fun hHeld125 => ?n125)
                        case k125 => ((try dsimp only); (first | (with_reducible refine HS.out _ ?_; with_reducible assumption) | (with_reducible refine HS.out _ (Kp.drew ?_); with_reducible assumption) | (with_reducible refine' HS.out _ (Kp.drew (And.right ?_)); rotate_left; with_reducible assumption)))
                        clear hK K
                        (try simp only [Act.put, List.getElem_toArray, List.getElem_cons_zero, List.getElem_cons_succ, List.setIfInBounds_toArray, List.set_cons_zero, List.set_cons_succ])
                        refine wpAnyH_take (i := 17) (v := ?v126) rfl (by kernel_rfl) (by kernel_rfl) (by kernel_rfl) (fun _ _ _ h => h) (Or.inl ⟨by rfl, ?y126⟩) (by assumption) ?r126
                        case y126 => (intro w hSw; (try dsimp only at hSw); (try simp only [List.getElem_toArray, List.getElem_cons_zero, List.getElem_cons_succ]); go_simp; first | done | with_reducible rfl)
                        (try simp only [Act.put, List.getElem_toArray, List.getElem_cons_zero, List.getElem_cons_succ, List.setIfInBounds_toArray, List.set_cons_zero, List.set_cons_succ])
                        refine wpAnyH_take (i := 18) (v := ?v127) rfl (by kernel_rfl) (by kernel_rfl) (by kernel_rfl) (fun _ _ _ h => h) (Or.inl ⟨by rfl, ?y127⟩) (by assumption) ?r127
                        case y127 => (intro w hSw; (try dsimp only at hSw); (try simp only [List.getElem_toArray, List.getElem_cons_zero, List.getElem_cons_succ]); go_simp; first | done | with_reducible rfl)
                        (try simp only [Act.put, List.getElem_toArray, List.getElem_cons_zero, List.getElem_cons_succ, List.setIfInBounds_toArray, List.set_cons_zero, List.set_cons_succ])
                        refine wpAnyH_take (i := 19) (v := undef) rfl (by kernel_rfl) (by kernel_rfl) (by kernel_rfl) (fun _ _ _ h => h) (Or.inr ⟨by rfl, rfl⟩) (by assumption) ?_
                        (try simp only [Act.put, List.getElem_toArray, List.getElem_cons_zero, List.getElem_cons_succ, List.setIfInBounds_toArray, List.set_cons_zero, List.set_cons_succ])
                        refine wpAnyH_take (i := 20) (v := undef) rfl (by kernel_rfl) (by kernel_rfl) (by kernel_rfl) (fun _ _ _ h => h) (Or.inr ⟨by rfl, rfl⟩) (by assumption) ?_
                        (try simp only [Act.put, List.getElem_toArray, List.getElem_cons_zero, List.getElem_cons_succ, List.setIfInBounds_toArray, List.set_cons_zero, List.set_cons_succ])
                        refine wpAnyH_take (i := 21) (v := undef) rfl (by kernel_rfl) (by kernel_rfl) (by kernel_rfl) (fun _ _ _ h => h) (Or.inr ⟨by rfl, rfl⟩) (by assumption) ?_
                        (try simp only [Act.put, List.getElem_toArray, List.getElem_cons_zero, List.getElem_cons_succ, List.setIfInBounds_toArray, List.set_cons_zero, List.set_cons_succ])
                        refine wpAnyH_take (i := 22) (v := ?v131) rfl (by kernel_rfl) (by kernel_rfl) (by kernel_rfl) (fun _ _ _ h => h) (Or.inl ⟨by rfl, ?y131⟩) (by assumption) ?r131
                        case y131 => (intro w hSw; (try dsimp only at hSw); (try simp only [List.getElem_toArray, List.getElem_cons_zero, List.getElem_cons_succ]); go_simp; first | done | with_reducible rfl)
                        (try simp only [Act.put, List.getElem_toArray, List.getElem_cons_zero, List.getElem_cons_succ, List.setIfInBounds_toArray, List.set_cons_zero, List.set_cons_succ])
                        refine wpAnyH_take (i := 23) (v := ?v132) rfl (by kernel_rfl) (by kernel_rfl) (by kernel_rfl) (fun _ _ _ h => h) (Or.inl ⟨by rfl, ?y132⟩) (by assumption) ?r132
                        case y132 => (intro w hSw; (try dsimp only at hSw); (try simp only [List.getElem_toArray, List.getElem_cons_zero, List.getElem_cons_succ]); go_simp; first | done | with_reducible rfl)
                        (try simp only [Act.put, List.getElem_toArray, List.getElem_cons_zero, List.getElem_cons_succ, List.setIfInBounds_toArray, List.set_cons_zero, List.set_cons_succ])
                        refine wpAnyH_take (i := 24) (v := undef) rfl (by kernel_rfl) (by kernel_rfl) (by kernel_rfl) (fun _ _ _ h => h) (Or.inr ⟨by rfl, rfl⟩) (by assumption) ?_
                        (try simp only [Act.put, List.getElem_toArray, List.getElem_cons_zero, List.getElem_cons_succ, List.setIfInBounds_toArray, List.set_cons_zero, List.set_cons_succ])
                        refine wpAnyH_take (i := 25) (v := undef) rfl (by kernel_rfl) (by kernel_rfl) (by kernel_rfl) (fun _ _ _ h => h) (Or.inr ⟨by rfl, rfl⟩) (by assumption) ?_
                        (try simp only [Act.put, List.getElem_toArray, List.getElem_cons_zero, List.getElem_cons_succ, List.setIfInBounds_toArray, List.set_cons_zero, List.set_cons_succ])
                        refine wpAnyH_take (i := 26) (v := ?v135) rfl (by kernel_rfl) (by kernel_rfl) (by kernel_rfl) (fun _ _ _ h => h) (Or.inl ⟨by rfl, ?y135⟩) (by assumption) ?r135
                        case y135 => (intro w hSw; (try dsimp only at hSw); (try simp only [List.getElem_toArray, List.getElem_cons_zero, List.getElem_cons_succ]); go_simp; first | done | with_reducible rfl)
                        (try simp only [Act.put, List.getElem_toArray, List.getElem_cons_zero, List.getElem_cons_succ, List.setIfInBounds_toArray, List.set_cons_zero, List.set_cons_succ])
                        refine wpAnyH_done (by kernel_rfl) ?_ _
                        have HBA := Lib.hid (Kp.trans HKV.out hx2)
                        go_wp2_with fail
                        refine (HAW.out _).mono ?_
                        rintro e x9 ⟨rfl, hb9⟩
                        have HB9 := Lib.hid (Kp.trans HBA.out hb9)
                        clear hb9
                        go_wp2
                        go_ret
                        exact ⟨rfl, HB9.out⟩
                      exact AllReadyH.nil
                    exact AllReadyH.nil
                  exact AllReadyH.nil
                exact AllReadyH.nil
              exact AllReadyH.nil
            exact AllReadyH.nil
          exact AllReadyH.nil
        exact AllReadyH.nil
      | false =>
        rw [hW] at T19
        have HT19 := Lib.hid T19.out
        have HWN := Lib.hid (wideB_no hW)
        by_cases hcc : uchk (⟨bus, mn, l, up, dn, start, idle, spin, on2⟩ : Un) = 0
        · rw [hcc] at T23
          have HT23 := Lib.hid T23.out
          have HCC := Lib.hid hcc
          have hnt : (!true) = false := rfl
          clear T19 T23 hcc
          go_region_held3 (fun w' => (w'.cell? ⟨w.heap.size, 0, none⟩ = some (.int .i64 bus) ∧ w'.cell? ⟨w.heap.size, 1, none⟩ = some (.int .i64 mn) ∧ w'.cell? ⟨w.heap.size, 2, none⟩ = some (.slice A' n' c') ∧ w'.cell? ⟨w.heap.size, 3, none⟩ = some (.int .i64 up) ∧ w'.cell? ⟨w.heap.size, 4, none⟩ = some (.int .i64 dn) ∧ w'.cell? ⟨w.heap.size, 5, none⟩ = some (.int .i64 start) ∧ w'.cell? ⟨w.heap.size, 6, none⟩ = some (.int .i64 idle) ∧ w'.cell? ⟨w.heap.size, 7, none⟩ = some (.int .i64 spin) ∧ w'.cell? ⟨w.heap.size, 8, none⟩ = some (.int .i64 on2)) ∧ Kp V w')
            (first | (with_reducible refine HS.out _ ?_; with_reducible assumption) | (with_reducible refine HS.out _ (Kp.drew ?_); with_reducible assumption) | (with_reducible refine' HS.out _ (Kp.drew (And.right ?_)); rotate_left; with_reducible assumption))
            (first
              | (go_at_call 10; have hk := And.right ‹_ ∧ Kp V _›; refine (HT10.out _ hk).mono ?_; rintro e x0 ⟨rfl, hb0⟩; have hx0 := Kp.trans hk hb0; have cM := Kp.trans hx0 ((Kp.refl x0).alloc (.cells #[.int .i64 bus, .int .i64 mn, .slice A' n' c', .int .i64 up, .int .i64 dn, .int .i64 start, .int .i64 idle, .int .i64 spin, .int .i64 on2] 39)); have m31 := Blk.new x0 39 #[.int .i64 bus, .int .i64 mn, .slice A' n' c', .int .i64 up, .int .i64 dn, .int .i64 start, .int .i64 idle, .int .i64 spin, .int .i64 on2]; clear hk hb0)
              | (go_at_call 22; have hk := And.right ‹_ ∧ Kp V _›; refine (HT22.out _ _ hk (by first | exact m31 | exact Blk.drew m31)).mono ?_; rintro e x1 ⟨rfl, hb1⟩; have hx1 := Kp.trans hk hb1; clear hk hb1; have k1 := (Kp.refl x1).alloc (.cells #[] 39); have k2 := (Kp.refl x1).alloc (.cells #[.int .i64 bus, .int .i64 mn, .slice A' n' c', .int .i64 up, .int .i64 dn, .int .i64 start, .int .i64 idle, .int .i64 spin, .int .i64 on2] 39); have k12 := k1.alloc (.cells #[.int .i64 bus, .int .i64 mn, .slice A' n' c', .int .i64 up, .int .i64 dn, .int .i64 start, .int .i64 idle, .int .i64 spin, .int .i64 on2] 39); have k21 := k2.alloc (.cells #[] 39); have c1 := Kp.trans hx1 k1; have c2 := Kp.trans hx1 k2; have c12 := Kp.trans hx1 k12; have c21 := Kp.trans hx1 k21; have o1 : Own V.heap.size 39 9 (x1.alloc (.cells #[] 39)) (some ⟨x1.heap.size, 0, none⟩) 0 0 [] := Own.made x1 (Below.size hx1); have o12 := o1.keep ((Kp.refl _).alloc (.cells #[.int .i64 bus, .int .i64 mn, .slice A' n' c', .int .i64 up, .int .i64 dn, .int .i64 start, .int .i64 idle, .int .i64 spin, .int .i64 on2] 39)); have o21 : Own V.heap.size 39 9 ((x1.alloc (.cells #[.int .i64 bus, .int .i64 mn, .slice A' n' c', .int .i64 up, .int .i64 dn, .int .i64 start, .int .i64 idle, .int .i64 spin, .int .i64 on2] 39)).alloc (.cells #[] 39)) (some ⟨x1.heap.size + 1, 0, none⟩) 0 0 [] := own_made1 x1 (.cells #[.int .i64 bus, .int .i64 mn, .slice A' n' c', .int .i64 up, .int .i64 dn, .int .i64 start, .int .i64 idle, .int .i64 spin, .int .i64 on2] 39) (Below.size hx1); have mb := Blk.new1 x1 (.cells #[] 39) 39 #[.int .i64 bus, .int .i64 mn, .slice A' n' c', .int .i64 up, .int .i64 dn, .int .i64 start, .int .i64 idle, .int .i64 spin, .int .i64 on2]; have mc := (Blk.new x1 39 #[.int .i64 bus, .int .i64 mn, .slice A' n' c', .int .i64 up, .int .i64 dn, .int .i64 start, .int .i64 idle, .int .i64 spin, .int .i64 on2]).alloc (.cells #[] 39); clear k1 k2 k12 k21)
              | (refine step_append_my (base := V.heap.size) (e := 39) (size := 9) (bytes := 88) (by rfl) (.tmp 35) (.tmp 36) 22 rfl Tryz.underlying22 HJ.out JZ0.out JZ1.out JZ2.out rfl (by decide) (xs := []) (news := Lu) rfl (by first | exact o1 | exact o12 | exact o21) rfl (by first | exact HSU.out _ c1 | exact HSU.out _ (Kp.drew c1) | exact HSU.out _ c12 | exact HSU.out _ (Kp.drew c12) | exact HSU.out _ c21 | exact HSU.out _ (Kp.drew c21)) (by simp only [maxLen]; omega) (by omega) (by first | exact Below.size c1 | exact Below.size (Kp.drew c1) | exact Below.size c12 | exact Below.size (Kp.drew c12) | exact Below.size c21 | exact Below.size (Kp.drew c21)) ?_
                 intro y1B y1c y1 hO1 hbA hkA
                 simp only [Nat.zero_add, List.nil_append] at hO1
                 (try simp only [Nat.zero_add])
                 have d1 : Kp V y1 := Below.trans (by first | exact c1 | exact Kp.drew c1 | exact c12 | exact Kp.drew c12 | exact c21 | exact Kp.drew c21) hbA
                 have dM := Kp.trans d1 ((Kp.refl y1).alloc (.cells #[.int .i64 bus, .int .i64 mn, .slice A' n' c', .int .i64 up, .int .i64 dn, .int .i64 start, .int .i64 idle, .int .i64 spin, .int .i64 on2] 39))
                 have oM := hO1.keep ((Kp.refl y1).alloc (.cells #[.int .i64 bus, .int .i64 mn, .slice A' n' c', .int .i64 up, .int .i64 dn, .int .i64 start, .int .i64 idle, .int .i64 spin, .int .i64 on2] 39))
                 have mM := Blk.new y1 39 #[.int .i64 bus, .int .i64 mn, .slice A' n' c', .int .i64 up, .int .i64 dn, .int .i64 start, .int .i64 idle, .int .i64 spin, .int .i64 on2]
                 (first | have hM := Kept.blk hkA mb (by simp) | have hM := Kept.blk hkA (Blk.drew mb) (by simp) | have hM := Kept.blk hkA mc (by simp) | have hM := Kept.blk hkA (Blk.drew mc) (by simp) | skip)
                 clear hbA hkA)
              | (refine step_append_my (base := V.heap.size) (e := 39) (size := 9) (bytes := 88) (by rfl) (.tmp 37) (.tmp 39) 22 rfl Tryz.underlying22 HJ.out JZ0.out JZ1.out JZ2.out rfl (by decide) (xs := Lu) (news := [.int .i64 bus, .int .i64 mn, .slice A' n' c', .int .i64 up, .int .i64 dn, .int .i64 start, .int .i64 idle, .int .i64 spin, .int .i64 on2]) rfl (by first | exact hO1 | exact oM) rfl (by first | exact Blk.src hM rfl munit_one | exact Blk.src mM rfl munit_one) (by simp only [maxLen]; omega) (by omega) (by first | exact Below.size d1 | exact Below.size dM) ?_
                 intro y2B y2c y2 hO2 hbB hkB
                 have d2 : Kp V y2 := Below.trans (by first | exact d1 | exact dM) hbB
                 have HUS := Lib.hid (hO2.units ((UL.app HLU.out HLM.out).below (Kp.trans HVL.out d2)) (by simp [HNL.out]))
                 clear hbB hkB hO2)
              | (go_at_call 19; have hk := And.right ‹_ ∧ Kp V _›; refine (HT19.out _ _ _ (by first | exact HUS.out | exact HUS.out.below (Kp.drew (Kp.refl _))) hk).mono ?_; rintro e x2 ⟨rfl, hb2⟩; have hx2 := Kp.trans hk hb2; clear hk hb2)
              | (go_at_call 23; have hk := And.right ‹_ ∧ Kp V _›; refine (HT23.out _ hk).mono ?_; rintro e x3 ⟨rfl, hb3⟩; have hx3 := Kp.trans hk hb3; clear hk hb3)
              | (go_at_call 11; have hk := And.right ‹_ ∧ Kp V _›; refine (HAW.out _).mono ?_; rintro e x4 ⟨rfl, hb4⟩; have hx4 := Kp.trans hk hb4; clear hk hb4))
          all_goals (
            have HX4 := Lib.hid hx4
            clear hx0 cM m31 hk0 HS HT10 HT22 HT19 HT23 hx1 c1 c2 c12 c21 o1 o12 o21 mb mc d1 dM oM mM d2 hx2 hx3 hx4
            have HKX := Lib.hid (Kp.trans HKV.out HX4.out)
            have HT1 := Lib.hid (plan_raw A B n c m d us hs x4 (HU.out.below HKX.out) (HH.out.below HKX.out) HO.out (by omega) (by omega))
            go_wp2_with fail
            refine HT1.out.mono ?_
            rintro e w4 ⟨hb4, h4⟩
            have HB4 := Lib.hid (Kp.trans HKX.out (show Kp x4 w4 from hb4))
            have HV4 := Lib.hid (Kp.trans HX4.out (show Kp x4 w4 from hb4))
            clear HT1
            rcases h4 with ⟨h4, he⟩ | ⟨_, _, he⟩ | ⟨hck, ⟨c1, v1, hbv⟩, g, he, hown⟩
            · have hcb : (cchk us hs != 0) = true := by simp [h4]
              generalize cchk us hs = e0 at *
              subst he
              clear hb4 h4
              go_wp2
              go_ret
              exact ⟨rfl, HB4.out⟩
            · subst he
              clear hb4
              go_wp2
              go_ret
              exact ⟨rfl, HB4.out⟩
            · rw [HML.out] at he
              subst he
              have HCK := Lib.hid hck
              have HBV := Lib.hid hbv
              have HG := Lib.hid (hown.at (show (planB us hs).length = m by rw [(planB_shape hbv).1]; exact HML.out))
              have HT2 := ccost_raw A B (some ⟨g, 0, none⟩) n c m d m m us hs (planB us hs) w4 (HU.out.below HB4.out) (HH.out.below HB4.out) HG.out HO.out (by omega) (by omega)
              rw [costV_plan hck hbv] at HT2
              have HT3 := Lib.hid HT2
              clear hb4 hown hck hbv HT2
              go_wp2_with fail
              refine HT3.out.mono ?_
              rintro e w5 ⟨rfl, hb5⟩
              have HB5 := Lib.hid (Kp.trans HB4.out (show Kp w4 w5 from hb5))
              have HV5 := Lib.hid (Kp.trans HV4.out (show Kp w4 w5 from hb5))
              clear HT3 hb5 HVL
              have HVL := HV5
              have HSU5 := Lib.hid (fun W (hk : Kp w5 W) => HSU.out W (Kp.trans HV5.out hk))
              have HS := Lib.hid (show ∀ w', Kp w5 w' → (w'.cell? ⟨w.heap.size, 0, none⟩ = some (.int .i64 bus) ∧ w'.cell? ⟨w.heap.size, 1, none⟩ = some (.int .i64 mn) ∧ w'.cell? ⟨w.heap.size, 2, none⟩ = some (.slice A' n' c') ∧ w'.cell? ⟨w.heap.size, 3, none⟩ = some (.int .i64 up) ∧ w'.cell? ⟨w.heap.size, 4, none⟩ = some (.int .i64 dn) ∧ w'.cell? ⟨w.heap.size, 5, none⟩ = some (.int .i64 start) ∧ w'.cell? ⟨w.heap.size, 6, none⟩ = some (.int .i64 idle) ∧ w'.cell? ⟨w.heap.size, 7, none⟩ = some (.int .i64 spin) ∧ w'.cell? ⟨w.heap.size, 8, none⟩ = some (.int .i64 on2)) ∧ Kp w5 w' from fun w' hk => ⟨(HS0.out w' (Kp.trans HV5.out hk)).1, hk⟩)
              have hk0 := Kp.refl w5
              have k1 := (Kp.refl w5).alloc (.cells #[] 39)
              have k2 := (Kp.refl w5).alloc (.cells #[.int .i64 bus, .int .i64 mn, .slice A' n' c', .int .i64 up, .int .i64 dn, .int .i64 start, .int .i64 idle, .int .i64 spin, .int .i64 on2] 39)
              have k12 := k1.alloc (.cells #[.int .i64 bus, .int .i64 mn, .slice A' n' c', .int .i64 up, .int .i64 dn, .int .i64 start, .int .i64 idle, .int .i64 spin, .int .i64 on2] 39)
              have k21 := k2.alloc (.cells #[] 39)
              have c1 := Kp.trans (Kp.refl w5) k1
              have c2 := Kp.trans (Kp.refl w5) k2
              have c12 := Kp.trans (Kp.refl w5) k12
              have c21 := Kp.trans (Kp.refl w5) k21
              have o1 : Own w5.heap.size 39 9 (w5.alloc (.cells #[] 39)) (some ⟨w5.heap.size, 0, none⟩) 0 0 [] := Own.made w5 (Below.size (Kp.refl w5))
              have o12 := o1.keep ((Kp.refl _).alloc (.cells #[.int .i64 bus, .int .i64 mn, .slice A' n' c', .int .i64 up, .int .i64 dn, .int .i64 start, .int .i64 idle, .int .i64 spin, .int .i64 on2] 39))
              have o21 : Own w5.heap.size 39 9 ((w5.alloc (.cells #[.int .i64 bus, .int .i64 mn, .slice A' n' c', .int .i64 up, .int .i64 dn, .int .i64 start, .int .i64 idle, .int .i64 spin, .int .i64 on2] 39)).alloc (.cells #[] 39)) (some ⟨w5.heap.size + 1, 0, none⟩) 0 0 [] := own_made1 w5 (.cells #[.int .i64 bus, .int .i64 mn, .slice A' n' c', .int .i64 up, .int .i64 dn, .int .i64 start, .int .i64 idle, .int .i64 spin, .int .i64 on2] 39) (Below.size (Kp.refl w5))
              have mb := Blk.new1 w5 (.cells #[] 39) 39 #[.int .i64 bus, .int .i64 mn, .slice A' n' c', .int .i64 up, .int .i64 dn, .int .i64 start, .int .i64 idle, .int .i64 spin, .int .i64 on2]
              have mc := (Blk.new w5 39 #[.int .i64 bus, .int .i64 mn, .slice A' n' c', .int .i64 up, .int .i64 dn, .int .i64 start, .int .i64 idle, .int .i64 spin, .int .i64 on2]).alloc (.cells #[] 39)
              clear k1 k2 k12 k21
              go_wp2_with fail
              go_region_held3 (fun w' => (w'.cell? ⟨w.heap.size, 0, none⟩ = some (.int .i64 bus) ∧ w'.cell? ⟨w.heap.size, 1, none⟩ = some (.int .i64 mn) ∧ w'.cell? ⟨w.heap.size, 2, none⟩ = some (.slice A' n' c') ∧ w'.cell? ⟨w.heap.size, 3, none⟩ = some (.int .i64 up) ∧ w'.cell? ⟨w.heap.size, 4, none⟩ = some (.int .i64 dn) ∧ w'.cell? ⟨w.heap.size, 5, none⟩ = some (.int .i64 start) ∧ w'.cell? ⟨w.heap.size, 6, none⟩ = some (.int .i64 idle) ∧ w'.cell? ⟨w.heap.size, 7, none⟩ = some (.int .i64 spin) ∧ w'.cell? ⟨w.heap.size, 8, none⟩ = some (.int .i64 on2)) ∧ Kp w5 w')
(first | (with_reducible refine HS.out _ ?_; with_reducible assumption) | (with_reducible refine HS.out _ (Kp.drew ?_); with_reducible assumption) | (with_reducible refine' HS.out _ (Kp.drew (And.right ?_)); rotate_left; with_reducible assumption))
                (first
                  | (refine step_append_my (base := w5.heap.size) (e := 39) (size := 9) (bytes := 88) (by rfl) (.tmp 72) (.tmp 73) 22 rfl Tryz.underlying22 HJ.out JZ0.out JZ1.out JZ2.out rfl (by decide) (xs := []) (news := Lu) rfl (by first | exact o1 | exact o12 | exact o21) rfl (by first | exact HSU5.out _ c1 | exact HSU5.out _ (Kp.drew c1) | exact HSU5.out _ c12 | exact HSU5.out _ (Kp.drew c12) | exact HSU5.out _ c21 | exact HSU5.out _ (Kp.drew c21)) (by simp only [maxLen]; omega) (by omega) (by first | exact Below.size c1 | exact Below.size (Kp.drew c1) | exact Below.size c12 | exact Below.size (Kp.drew c12) | exact Below.size c21 | exact Below.size (Kp.drew c21)) ?_
                     intro y1B y1c y1 hO1 hbA hkA
                     simp only [Nat.zero_add, List.nil_append] at hO1
                     (try simp only [Nat.zero_add])
                     have d1 : Kp w5 y1 := Below.trans (by first | exact c1 | exact Kp.drew c1 | exact c12 | exact Kp.drew c12 | exact c21 | exact Kp.drew c21) hbA
                     have dM := Kp.trans d1 ((Kp.refl y1).alloc (.cells #[.int .i64 bus, .int .i64 mn, .slice A' n' c', .int .i64 up, .int .i64 dn, .int .i64 start, .int .i64 idle, .int .i64 spin, .int .i64 on2] 39))
                     have oM := hO1.keep ((Kp.refl y1).alloc (.cells #[.int .i64 bus, .int .i64 mn, .slice A' n' c', .int .i64 up, .int .i64 dn, .int .i64 start, .int .i64 idle, .int .i64 spin, .int .i64 on2] 39))
                     have mM := Blk.new y1 39 #[.int .i64 bus, .int .i64 mn, .slice A' n' c', .int .i64 up, .int .i64 dn, .int .i64 start, .int .i64 idle, .int .i64 spin, .int .i64 on2]
                     (first | have hM := Kept.blk hkA mb (by simp) | have hM := Kept.blk hkA (Blk.drew mb) (by simp) | have hM := Kept.blk hkA mc (by simp) | have hM := Kept.blk hkA (Blk.drew mc) (by simp) | skip)
                     clear hbA hkA)
                  | (refine step_append_my (base := w5.heap.size) (e := 39) (size := 9) (bytes := 88) (by rfl) (.tmp 74) (.tmp 76) 22 rfl Tryz.underlying22 HJ.out JZ0.out JZ1.out JZ2.out rfl (by decide) (xs := Lu) (news := [.int .i64 bus, .int .i64 mn, .slice A' n' c', .int .i64 up, .int .i64 dn, .int .i64 start, .int .i64 idle, .int .i64 spin, .int .i64 on2]) rfl (by first | exact hO1 | exact oM) rfl (by first | exact Blk.src hM rfl munit_one | exact Blk.src mM rfl munit_one) (by simp only [maxLen]; omega) (by omega) (by first | exact Below.size d1 | exact Below.size dM) ?_
                     intro y2B y2c y2 hO2 hbB hkB
                     have d2 : Kp w5 y2 := Below.trans (by first | exact d1 | exact dM) hbB
                     have HUS5 := Lib.hid (hO2.units ((UL.app HLU.out HLM.out).below (Kp.trans HVL.out d2)) (by simp [HNL.out]))
                     clear hbB hkB hO2))
              all_goals (
                have HB6 := Lib.hid (Kp.trans HB5.out d2)
                clear c1 c2 c12 c21 o1 o12 o21 mb mc d1 dM oM mM d2 hk0 HS
                obtain ⟨f1, c2, v2, f2, f3⟩ := add_plan (more := (⟨bus, mn, l, up, dn, start, idle, spin, on2⟩ : Un)) HCK.out HCC.out (by simp only; omega) HWN.out HBV.out
                have hlev : decide (v2 ≤ v1) = true := decide_eq_true f3
                have HF := Lib.hid (And.intro f1 f2)
                have HT4 := Lib.hid (plan_raw y2B B (n + 1) y2c m d (us ++ [(⟨bus, mn, l, up, dn, start, idle, spin, on2⟩ : Un)]) hs y2 HUS5.out (HH.out.below HB6.out) HO.out (by omega) (by omega))
                clear f1 f2
                go_wp2_with fail
                refine HT4.out.mono ?_
                rintro e w8 ⟨hb8, h8⟩
                rcases h8 with ⟨h8, he⟩ | ⟨_, h8, he⟩ | ⟨_, _, g3, he, hown⟩
                · exact absurd HF.out.1 h8
                · rw [HF.out.2] at h8
                  simp at h8
                · rw [HML.out] at he
                  subst he
                  have HB8 := Lib.hid (Kp.trans HB6.out (show Kp y2 w8 from hb8))
                  have HT5 := ccost_raw y2B B (some ⟨g3, 0, none⟩) (n + 1) y2c m d m m (us ++ [(⟨bus, mn, l, up, dn, start, idle, spin, on2⟩ : Un)]) hs (planB (us ++ [(⟨bus, mn, l, up, dn, start, idle, spin, on2⟩ : Un)]) hs) w8 (HUS5.out.below hb8) (HH.out.below HB8.out) (hown.at (by rw [(planB_shape HF.out.2).1]; exact HML.out)) HO.out (by omega) (by omega)
                  rw [costV_plan HF.out.1 HF.out.2] at HT5
                  have HT6 := Lib.hid HT5
                  clear hb8 hown HT5 HT4
                  go_wp2_with fail
                  refine HT6.out.mono ?_
                  rintro e w9 ⟨rfl, hb9⟩
                  have HB9 := Lib.hid (Kp.trans HB8.out hb9)
                  clear HT6 hb9
                  go_wp2
                  go_ret
                  exact ⟨rfl, HB9.out⟩))
        · have hcn : (uchk (⟨bus, mn, l, up, dn, start, idle, spin, on2⟩ : Un) != 0) = true := by simp [hcc]
          generalize uchk (⟨bus, mn, l, up, dn, start, idle, spin, on2⟩ : Un) = cc at *
          have HT23 := Lib.hid T23.out
          clear T19 T23 hcc
          refine wp_region_held_drew (S := fun w' => (w'.cell? ⟨w.heap.size, 0, none⟩ = some (.int .i64 bus) ∧ w'.cell? ⟨w.heap.size, 1, none⟩ = some (.int .i64 mn) ∧ w'.cell? ⟨w.heap.size, 2, none⟩ = some (.slice A' n' c') ∧ w'.cell? ⟨w.heap.size, 3, none⟩ = some (.int .i64 up) ∧ w'.cell? ⟨w.heap.size, 4, none⟩ = some (.int .i64 dn) ∧ w'.cell? ⟨w.heap.size, 5, none⟩ = some (.int .i64 start) ∧ w'.cell? ⟨w.heap.size, 6, none⟩ = some (.int .i64 idle) ∧ w'.cell? ⟨w.heap.size, 7, none⟩ = some (.int .i64 spin) ∧ w'.cell? ⟨w.heap.size, 8, none⟩ = some (.int .i64 on2)) ∧ Kp V w') (by kernel_rfl) (HS.out _ (Kp.drew hk0)) (fun hHeld => ?_)
          refine wpAnyH_take (i := 0) (v := ?v136) rfl (by kernel_rfl) (by kernel_rfl) (by kernel_rfl) (fun _ _ _ h => h) (Or.inl ⟨by rfl, ?y136⟩) (by assumption) ?r136
          case y136 => (intro w hSw; (try dsimp only at hSw); (try simp only [List.getElem_toArray, List.getElem_cons_zero, List.getElem_cons_succ]); go_simp; first | done | with_reducible rfl)
          (try simp only [Act.put, List.getElem_toArray, List.getElem_cons_zero, List.getElem_cons_succ, List.setIfInBounds_toArray, List.set_cons_zero, List.set_cons_succ])
          refine wpAnyH_take (i := 1) (v := ?v137) rfl (by kernel_rfl) (by kernel_rfl) (by kernel_rfl) (fun _ _ _ h => h) (Or.inl ⟨by rfl, ?y137⟩) (by assumption) ?r137
          case y137 => (intro w hSw; (try dsimp only at hSw); (try simp only [List.getElem_toArray, List.getElem_cons_zero, List.getElem_cons_succ]); go_simp; first | done | with_reducible rfl)
          (try simp only [Act.put, List.getElem_toArray, List.getElem_cons_zero, List.getElem_cons_succ, List.setIfInBounds_toArray, List.set_cons_zero, List.set_cons_succ])
          refine wpAnyH_ready (rs := [2]) (by kernel_rfl) (by simp) ?_
          refine AllReadyH.cons rfl (fun K hK => ?_) ?_
          · (try simp only [List.getElem_toArray, List.getElem_cons_zero, List.getElem_cons_succ])
            go_simp
            have hk := And.right ‹_ ∧ Kp V _›
            refine (HT10.out _ hk).mono ?_
            rintro e x0 ⟨rfl, hb0⟩
            have hx0 := Kp.trans hk hb0
            have cM := Kp.trans hx0 ((Kp.refl x0).alloc (.cells #[.int .i64 bus, .int .i64 mn, .slice A' n' c', .int .i64 up, .int .i64 dn, .int .i64 start, .int .i64 idle, .int .i64 spin, .int .i64 on2] 39))
            have m31 := Blk.new x0 39 #[.int .i64 bus, .int .i64 mn, .slice A' n' c', .int .i64 up, .int .i64 dn, .int .i64 start, .int .i64 idle, .int .i64 spin, .int .i64 on2]
            clear hk hb0
            (try (go_wp2_with fail))
            refine hK.out _ _ ?k139 (fun hHeld139 => ?n139)
            case k139 => ((try dsimp only); (first | (with_reducible refine HS.out _ ?_; with_reducible assumption) | (with_reducible refine HS.out _ (Kp.drew ?_); with_reducible assumption) | (with_reducible refine' HS.out _ (Kp.drew (And.right ?_)); rotate_left; with_reducible assumption)))
            clear hK K
            (try simp only [Act.put, List.getElem_toArray, List.getElem_cons_zero, List.getElem_cons_succ, List.setIfInBounds_toArray, List.set_cons_zero, List.set_cons_succ])
            refine wpAnyH_take (i := 3) (v := ?v140) rfl (by kernel_rfl) (by kernel_rfl) (by kernel_rfl) (fun _ _ _ h => h) (Or.inl ⟨by rfl, ?y140⟩) (by assumption) ?r140
            case y140 => (intro w hSw; (try dsimp only at hSw); (try simp only [List.getElem_toArray, List.getElem_cons_zero, List.getElem_cons_succ]); go_simp; first | done | with_reducible rfl)
            (try simp only [Act.put, List.getElem_toArray, List.getElem_cons_zero, List.getElem_cons_succ, List.setIfInBounds_toArray, List.set_cons_zero, List.set_cons_succ])
            refine wpAnyH_take (i := 4) (v := ?v141) rfl (by kernel_rfl) (by kernel_rfl) (by kernel_rfl) (fun _ _ _ h => h) (Or.inl ⟨by rfl, ?y141⟩) (by assumption) ?r141
            case y141 => (intro w hSw; (try dsimp only at hSw); (try simp only [List.getElem_toArray, List.getElem_cons_zero, List.getElem_cons_succ]); go_simp; first | done | with_reducible rfl)
            (try simp only [Act.put, List.getElem_toArray, List.getElem_cons_zero, List.getElem_cons_succ, List.setIfInBounds_toArray, List.set_cons_zero, List.set_cons_succ])
            refine wpAnyH_ready (rs := [5]) (by kernel_rfl) (by simp) ?_
            refine AllReadyH.cons rfl (fun K hK => ?_) ?_
            · (try simp only [List.getElem_toArray, List.getElem_cons_zero, List.getElem_cons_succ])
              go_simp
              refine hK.out _ _ ?k143 (fun hHeld143 => ?n143)
              case k143 => ((try dsimp only); (first | (with_reducible refine HS.out _ ?_; with_reducible assumption) | (with_reducible refine HS.out _ (Kp.drew ?_); with_reducible assumption) | (with_reducible refine' HS.out _ (Kp.drew (And.right ?_)); rotate_left; with_reducible assumption)))
              clear hK K
              (try simp only [Act.put, List.getElem_toArray, List.getElem_cons_zero, List.getElem_cons_succ, List.setIfInBounds_toArray, List.set_cons_zero, List.set_cons_succ])
              refine wpAnyH_ready (rs := [6]) (by kernel_rfl) (by simp) ?_
              refine AllReadyH.cons rfl (fun K hK => ?_) ?_
              · (try simp only [List.getElem_toArray, List.getElem_cons_zero, List.getElem_cons_succ])
                go_simp
                have hk := And.right ‹_ ∧ Kp V _›
                refine (HT22.out _ _ hk (by first | exact m31 | exact Blk.drew m31)).mono ?_
                rintro e x1 ⟨rfl, hb1⟩
                have hx1 := Kp.trans hk hb1
                clear hk hb1
                have k1 := (Kp.refl x1).alloc (.cells #[] 39)
                have k2 := (Kp.refl x1).alloc (.cells #[.int .i64 bus, .int .i64 mn, .slice A' n' c', .int .i64 up, .int .i64 dn, .int .i64 start, .int .i64 idle, .int .i64 spin, .int .i64 on2] 39)
                have k12 := k1.alloc (.cells #[.int .i64 bus, .int .i64 mn, .slice A' n' c', .int .i64 up, .int .i64 dn, .int .i64 start, .int .i64 idle, .int .i64 spin, .int .i64 on2] 39)
                have k21 := k2.alloc (.cells #[] 39)
                have c1 := Kp.trans hx1 k1
                have c2 := Kp.trans hx1 k2
                have c12 := Kp.trans hx1 k12
                have c21 := Kp.trans hx1 k21
                have o1 : Own V.heap.size 39 9 (x1.alloc (.cells #[] 39)) (some ⟨x1.heap.size, 0, none⟩) 0 0 [] := Own.made x1 (Below.size hx1)
                have o12 := o1.keep ((Kp.refl _).alloc (.cells #[.int .i64 bus, .int .i64 mn, .slice A' n' c', .int .i64 up, .int .i64 dn, .int .i64 start, .int .i64 idle, .int .i64 spin, .int .i64 on2] 39))
                have o21 : Own V.heap.size 39 9 ((x1.alloc (.cells #[.int .i64 bus, .int .i64 mn, .slice A' n' c', .int .i64 up, .int .i64 dn, .int .i64 start, .int .i64 idle, .int .i64 spin, .int .i64 on2] 39)).alloc (.cells #[] 39)) (some ⟨x1.heap.size + 1, 0, none⟩) 0 0 [] := own_made1 x1 (.cells #[.int .i64 bus, .int .i64 mn, .slice A' n' c', .int .i64 up, .int .i64 dn, .int .i64 start, .int .i64 idle, .int .i64 spin, .int .i64 on2] 39) (Below.size hx1)
                have mb := Blk.new1 x1 (.cells #[] 39) 39 #[.int .i64 bus, .int .i64 mn, .slice A' n' c', .int .i64 up, .int .i64 dn, .int .i64 start, .int .i64 idle, .int .i64 spin, .int .i64 on2]
                have mc := (Blk.new x1 39 #[.int .i64 bus, .int .i64 mn, .slice A' n' c', .int .i64 up, .int .i64 dn, .int .i64 start, .int .i64 idle, .int .i64 spin, .int .i64 on2]).alloc (.cells #[] 39)
                clear k1 k2 k12 k21
                (try (go_wp2_with fail))
                refine hK.out _ _ ?k145 (fun hHeld145 => ?n145)
                case k145 => ((try dsimp only); (first | (with_reducible refine HS.out _ ?_; with_reducible assumption) | (with_reducible refine HS.out _ (Kp.drew ?_); with_reducible assumption) | (with_reducible refine' HS.out _ (Kp.drew (And.right ?_)); rotate_left; with_reducible assumption)))
                clear hK K
                (try simp only [Act.put, List.getElem_toArray, List.getElem_cons_zero, List.getElem_cons_succ, List.setIfInBounds_toArray, List.set_cons_zero, List.set_cons_succ])
                refine wpAnyH_take (i := 7) (v := ?v146) rfl (by kernel_rfl) (by kernel_rfl) (by kernel_rfl) (fun _ _ _ h => h) (Or.inl ⟨by rfl, ?y146⟩) (by assumption) ?r146
                case y146 => (intro w hSw; (try dsimp only at hSw); (try simp only [List.getElem_toArray, List.getElem_cons_zero, List.getElem_cons_succ]); go_simp; first | done | with_reducible rfl)
                (try simp only [Act.put, List.getElem_toArray, List.getElem_cons_zero, List.getElem_cons_succ, List.setIfInBounds_toArray, List.set_cons_zero, List.set_cons_succ])
                refine wpAnyH_take (i := 8) (v := ?v147) rfl (by kernel_rfl) (by kernel_rfl) (by kernel_rfl) (fun _ _ _ h => h) (Or.inl ⟨by rfl, ?y147⟩) (by assumption) ?r147
                case y147 => (intro w hSw; (try dsimp only at hSw); (try simp only [List.getElem_toArray, List.getElem_cons_zero, List.getElem_cons_succ]); go_simp; first | done | with_reducible rfl)
                (try simp only [Act.put, List.getElem_toArray, List.getElem_cons_zero, List.getElem_cons_succ, List.setIfInBounds_toArray, List.set_cons_zero, List.set_cons_succ])
                refine wpAnyH_take (i := 10) (v := ?v149) rfl (by kernel_rfl) (by kernel_rfl) (by kernel_rfl) (fun _ _ _ h => h) (Or.inl ⟨by rfl, ?y149⟩) (by assumption) ?r149
                case y149 => (intro w hSw; (try dsimp only at hSw); (try simp only [List.getElem_toArray, List.getElem_cons_zero, List.getElem_cons_succ]); go_simp; first | done | with_reducible rfl)
                (try simp only [Act.put, List.getElem_toArray, List.getElem_cons_zero, List.getElem_cons_succ, List.setIfInBounds_toArray, List.set_cons_zero, List.set_cons_succ])
                refine wpAnyH_take (i := 12) (v := ?v151) rfl (by kernel_rfl) (by kernel_rfl) (by kernel_rfl) (fun _ _ _ h => h) (Or.inl ⟨by rfl, ?y151⟩) (by assumption) ?r151
                case y151 => (intro w hSw; (try dsimp only at hSw); (try simp only [List.getElem_toArray, List.getElem_cons_zero, List.getElem_cons_succ]); go_simp; first | done | with_reducible rfl)
                (try simp only [Act.put, List.getElem_toArray, List.getElem_cons_zero, List.getElem_cons_succ, List.setIfInBounds_toArray, List.set_cons_zero, List.set_cons_succ])
                refine wpAnyH_take (i := 15) (v := ?v154) rfl (by kernel_rfl) (by kernel_rfl) (by kernel_rfl) (fun _ _ _ h => h) (Or.inl ⟨by rfl, ?y154⟩) (by assumption) ?r154
                case y154 => (intro w hSw; (try dsimp only at hSw); (try simp only [List.getElem_toArray, List.getElem_cons_zero, List.getElem_cons_succ]); go_simp; first | done | with_reducible rfl)
                (try simp only [Act.put, List.getElem_toArray, List.getElem_cons_zero, List.getElem_cons_succ, List.setIfInBounds_toArray, List.set_cons_zero, List.set_cons_succ])
                refine wpAnyH_ready (rs := [9, 13]) (by kernel_rfl) (by simp) ?_
                refine AllReadyH.cons rfl (fun K hK => ?_) ?_
                · (try simp only [List.getElem_toArray, List.getElem_cons_zero, List.getElem_cons_succ])
                  go_simp
                  refine hK.out _ _ ?k157 (fun hHeld157 => ?n157)
                  case k157 => ((try dsimp only); (first | (with_reducible refine HS.out _ ?_; with_reducible assumption) | (with_reducible refine HS.out _ (Kp.drew ?_); with_reducible assumption) | (with_reducible refine' HS.out _ (Kp.drew (And.right ?_)); rotate_left; with_reducible assumption)))
                  clear hK K
                  (try simp only [Act.put, List.getElem_toArray, List.getElem_cons_zero, List.getElem_cons_succ, List.setIfInBounds_toArray, List.set_cons_zero, List.set_cons_succ])
                  refine wpAnyH_ready (rs := [11, 13]) (by kernel_rfl) (by simp) ?_
                  refine AllReadyH.cons rfl (fun K hK => ?_) ?_
                  · refine step_append_my (base := V.heap.size) (e := 39) (size := 9) (bytes := 88) (by rfl) (.tmp 35) (.tmp 36) 22 rfl Tryz.underlying22 HJ.out JZ0.out JZ1.out JZ2.out rfl (by decide) (xs := []) (news := Lu) rfl (by first | exact o1 | exact o12 | exact o21) rfl (by first | exact HSU.out _ c1 | exact HSU.out _ (Kp.drew c1) | exact HSU.out _ c12 | exact HSU.out _ (Kp.drew c12) | exact HSU.out _ c21 | exact HSU.out _ (Kp.drew c21)) (by simp only [maxLen]; omega) (by omega) (by first | exact Below.size c1 | exact Below.size (Kp.drew c1) | exact Below.size c12 | exact Below.size (Kp.drew c12) | exact Below.size c21 | exact Below.size (Kp.drew c21)) ?_
                    intro y1B y1c y1 hO1 hbA hkA
                    simp only [Nat.zero_add, List.nil_append] at hO1
                    (try simp only [Nat.zero_add])
                    have d1 : Kp V y1 := Below.trans (by first | exact c1 | exact Kp.drew c1 | exact c12 | exact Kp.drew c12 | exact c21 | exact Kp.drew c21) hbA
                    have dM := Kp.trans d1 ((Kp.refl y1).alloc (.cells #[.int .i64 bus, .int .i64 mn, .slice A' n' c', .int .i64 up, .int .i64 dn, .int .i64 start, .int .i64 idle, .int .i64 spin, .int .i64 on2] 39))
                    have oM := hO1.keep ((Kp.refl y1).alloc (.cells #[.int .i64 bus, .int .i64 mn, .slice A' n' c', .int .i64 up, .int .i64 dn, .int .i64 start, .int .i64 idle, .int .i64 spin, .int .i64 on2] 39))
                    have mM := Blk.new y1 39 #[.int .i64 bus, .int .i64 mn, .slice A' n' c', .int .i64 up, .int .i64 dn, .int .i64 start, .int .i64 idle, .int .i64 spin, .int .i64 on2]
                    (first | have hM := Kept.blk hkA mb (by simp) | have hM := Kept.blk hkA (Blk.drew mb) (by simp) | have hM := Kept.blk hkA mc (by simp) | have hM := Kept.blk hkA (Blk.drew mc) (by simp) | skip)
                    clear hbA hkA
                    refine hK.out _ _ ?k160 (fun hHeld160 => ?n160)
                    case k160 => ((try dsimp only); (first | (with_reducible refine HS.out _ ?_; with_reducible assumption) | (with_reducible refine HS.out _ (Kp.drew ?_); with_reducible assumption) | (with_reducible refine' HS.out _ (Kp.drew (And.right ?_)); rotate_left; with_reducible assumption)))
                    clear hK K
                    (try simp only [Act.put, List.getElem_toArray, List.getElem_cons_zero, List.getElem_cons_succ, List.setIfInBounds_toArray, List.set_cons_zero, List.set_cons_succ])
                    refine wpAnyH_ready (rs := [13]) (by kernel_rfl) (by simp) ?_
                    refine AllReadyH.cons rfl (fun K hK => ?_) ?_
                    · (try simp only [List.getElem_toArray, List.getElem_cons_zero, List.getElem_cons_succ])
                      go_simp
                      refine hK.out _ _ ?k162 (fun hHeld162 => ?n162)
                      case k162 => ((try dsimp only); (first | (with_reducible refine HS.out _ ?_; with_reducible assumption) | (with_reducible refine HS.out _ (Kp.drew ?_); with_reducible assumption) | (with_reducible refine' HS.out _ (Kp.drew (And.right ?_)); rotate_left; with_reducible assumption)))
                      clear hK K
                      (try simp only [Act.put, List.getElem_toArray, List.getElem_cons_zero, List.getElem_cons_succ, List.setIfInBounds_toArray, List.set_cons_zero, List.set_cons_succ])
                      refine wpAnyH_ready (rs := [14]) (by kernel_rfl) (by simp) ?_
                      refine AllReadyH.cons rfl (fun K hK => ?_) ?_
                      · refine step_append_my (base := V.heap.size) (e := 39) (size := 9) (bytes := 88) (by rfl) (.tmp 37) (.tmp 39) 22 rfl Tryz.underlying22 HJ.out JZ0.out JZ1.out JZ2.out rfl (by decide) (xs := Lu) (news := [.int .i64 bus, .int .i64 mn, .slice A' n' c', .int .i64 up, .int .i64 dn, .int .i64 start, .int .i64 idle, .int .i64 spin, .int .i64 on2]) rfl (by first | exact hO1 | exact oM) rfl (by first | exact Blk.src hM rfl munit_one | exact Blk.src mM rfl munit_one) (by simp only [maxLen]; omega) (by omega) (by first | exact Below.size d1 | exact Below.size dM) ?_
                        intro y2B y2c y2 hO2 hbB hkB
                        have d2 : Kp V y2 := Below.trans (by first | exact d1 | exact dM) hbB
                        have HUS := Lib.hid (hO2.units ((UL.app HLU.out HLM.out).below (Kp.trans HVL.out d2)) (by simp [HNL.out]))
                        clear hbB hkB hO2
                        refine hK.out _ _ ?k164 (fun hHeld164 => ?n164)
                        case k164 => ((try dsimp only); (first | (with_reducible refine HS.out _ ?_; with_reducible assumption) | (with_reducible refine HS.out _ (Kp.drew ?_); with_reducible assumption) | (with_reducible refine' HS.out _ (Kp.drew (And.right ?_)); rotate_left; with_reducible assumption)))
                        clear hK K
                        (try simp only [Act.put, List.getElem_toArray, List.getElem_cons_zero, List.getElem_cons_succ, List.setIfInBounds_toArray, List.set_cons_zero, List.set_cons_succ])
                        refine wpAnyH_ready (rs := [16]) (by kernel_rfl) (by simp) ?_
                        refine AllReadyH.cons rfl (fun K hK => ?_) ?_
                        · (try simp only [List.getElem_toArray, List.getElem_cons_zero, List.getElem_cons_succ])
                          go_simp
                          have hk := And.right ‹_ ∧ Kp V _›
                          refine (HT19.out _ _ _ (by first | exact HUS.out | exact HUS.out.below (Kp.drew (Kp.refl _))) hk).mono ?_
                          rintro e x2 ⟨rfl, hb2⟩
                          have hx2 := Kp.trans hk hb2
                          clear hk hb2
                          (try (go_wp2_with fail))
                          refine hK.out _ _ ?k166 (fun hHeld166 => ?n166)
                          case k166 => ((try dsimp only); (first | (with_reducible refine HS.out _ ?_; with_reducible assumption) | (with_reducible refine HS.out _ (Kp.drew ?_); with_reducible assumption) | (with_reducible refine' HS.out _ (Kp.drew (And.right ?_)); rotate_left; with_reducible assumption)))
                          clear hK K
                          (try simp only [Act.put, List.getElem_toArray, List.getElem_cons_zero, List.getElem_cons_succ, List.setIfInBounds_toArray, List.set_cons_zero, List.set_cons_succ])
                          refine wpAnyH_take (i := 17) (v := ?v167) rfl (by kernel_rfl) (by kernel_rfl) (by kernel_rfl) (fun _ _ _ h => h) (Or.inl ⟨by rfl, ?y167⟩) (by assumption) ?r167
                          case y167 => (intro w hSw; (try dsimp only at hSw); (try simp only [List.getElem_toArray, List.getElem_cons_zero, List.getElem_cons_succ]); go_simp; first | done | with_reducible rfl)
                          (try simp only [Act.put, List.getElem_toArray, List.getElem_cons_zero, List.getElem_cons_succ, List.setIfInBounds_toArray, List.set_cons_zero, List.set_cons_succ])
                          refine wpAnyH_take (i := 18) (v := ?v168) rfl (by kernel_rfl) (by kernel_rfl) (by kernel_rfl) (fun _ _ _ h => h) (Or.inl ⟨by rfl, ?y168⟩) (by assumption) ?r168
                          case y168 => (intro w hSw; (try dsimp only at hSw); (try simp only [List.getElem_toArray, List.getElem_cons_zero, List.getElem_cons_succ]); go_simp; first | done | with_reducible rfl)
                          (try simp only [Act.put, List.getElem_toArray, List.getElem_cons_zero, List.getElem_cons_succ, List.setIfInBounds_toArray, List.set_cons_zero, List.set_cons_succ])
                          refine wpAnyH_take (i := 19) (v := ?v169) rfl (by kernel_rfl) (by kernel_rfl) (by kernel_rfl) (fun _ _ _ h => h) (Or.inl ⟨by rfl, ?y169⟩) (by assumption) ?r169
                          case y169 => (intro w hSw; (try dsimp only at hSw); (try simp only [List.getElem_toArray, List.getElem_cons_zero, List.getElem_cons_succ]); go_simp; first | done | with_reducible rfl)
                          (try simp only [Act.put, List.getElem_toArray, List.getElem_cons_zero, List.getElem_cons_succ, List.setIfInBounds_toArray, List.set_cons_zero, List.set_cons_succ])
                          refine wpAnyH_ready (rs := [20]) (by kernel_rfl) (by simp) ?_
                          refine AllReadyH.cons rfl (fun K hK => ?_) ?_
                          · (try simp only [List.getElem_toArray, List.getElem_cons_zero, List.getElem_cons_succ])
                            go_simp
                            have hk := And.right ‹_ ∧ Kp V _›
                            refine (HT23.out _ hk).mono ?_
                            rintro e x3 ⟨rfl, hb3⟩
                            have hx3 := Kp.trans hk hb3
                            clear hk hb3
                            (try (go_wp2_with fail))
                            refine hK.out _ _ ?k171 (fun hHeld171 => ?n171)
                            case k171 => ((try dsimp only); (first | (with_reducible refine HS.out _ ?_; with_reducible assumption) | (with_reducible refine HS.out _ (Kp.drew ?_); with_reducible assumption) | (with_reducible refine' HS.out _ (Kp.drew (And.right ?_)); rotate_left; with_reducible assumption)))
                            clear hK K
                            (try simp only [Act.put, List.getElem_toArray, List.getElem_cons_zero, List.getElem_cons_succ, List.setIfInBounds_toArray, List.set_cons_zero, List.set_cons_succ])
                            refine wpAnyH_take (i := 21) (v := ?v172) rfl (by kernel_rfl) (by kernel_rfl) (by kernel_rfl) (fun _ _ _ h => h) (Or.inl ⟨by rfl, ?y172⟩) (by assumption) ?r172
                            case y172 => (intro w hSw; (try dsimp only at hSw); (try simp only [List.getElem_toArray, List.getElem_cons_zero, List.getElem_cons_succ]); go_simp; first | done | with_reducible rfl)
                            (try simp only [Act.put, List.getElem_toArray, List.getElem_cons_zero, List.getElem_cons_succ, List.setIfInBounds_toArray, List.set_cons_zero, List.set_cons_succ])
                            refine wpAnyH_take (i := 22) (v := ?v173) rfl (by kernel_rfl) (by kernel_rfl) (by kernel_rfl) (fun _ _ _ h => h) (Or.inl ⟨by rfl, ?y173⟩) (by assumption) ?r173
                            case y173 => (intro w hSw; (try dsimp only at hSw); (try simp only [List.getElem_toArray, List.getElem_cons_zero, List.getElem_cons_succ]); go_simp; first | done | with_reducible rfl)
                            (try simp only [Act.put, List.getElem_toArray, List.getElem_cons_zero, List.getElem_cons_succ, List.setIfInBounds_toArray, List.set_cons_zero, List.set_cons_succ])
                            refine wpAnyH_take (i := 23) (v := ?v174) rfl (by kernel_rfl) (by kernel_rfl) (by kernel_rfl) (fun _ _ _ h => h) (Or.inl ⟨by rfl, ?y174⟩) (by assumption) ?r174
                            case y174 => (intro w hSw; (try dsimp only at hSw); (try simp only [List.getElem_toArray, List.getElem_cons_zero, List.getElem_cons_succ]); go_simp; first | done | with_reducible rfl)
                            (try simp only [Act.put, List.getElem_toArray, List.getElem_cons_zero, List.getElem_cons_succ, List.setIfInBounds_toArray, List.set_cons_zero, List.set_cons_succ])
                            refine wpAnyH_take (i := 24) (v := undef) rfl (by kernel_rfl) (by kernel_rfl) (by kernel_rfl) (fun _ _ _ h => h) (Or.inr ⟨by rfl, rfl⟩) (by assumption) ?_
                            (try simp only [Act.put, List.getElem_toArray, List.getElem_cons_zero, List.getElem_cons_succ, List.setIfInBounds_toArray, List.set_cons_zero, List.set_cons_succ])
                            refine wpAnyH_take (i := 25) (v := undef) rfl (by kernel_rfl) (by kernel_rfl) (by kernel_rfl) (fun _ _ _ h => h) (Or.inr ⟨by rfl, rfl⟩) (by assumption) ?_
                            (try simp only [Act.put, List.getElem_toArray, List.getElem_cons_zero, List.getElem_cons_succ, List.setIfInBounds_toArray, List.set_cons_zero, List.set_cons_succ])
                            refine wpAnyH_take (i := 26) (v := ?v177) rfl (by kernel_rfl) (by kernel_rfl) (by kernel_rfl) (fun _ _ _ h => h) (Or.inl ⟨by rfl, ?y177⟩) (by assumption) ?r177
                            case y177 => (intro w hSw; (try dsimp only at hSw); (try simp only [List.getElem_toArray, List.getElem_cons_zero, List.getElem_cons_succ]); go_simp; first | done | with_reducible rfl)
                            (try simp only [Act.put, List.getElem_toArray, List.getElem_cons_zero, List.getElem_cons_succ, List.setIfInBounds_toArray, List.set_cons_zero, List.set_cons_succ])
                            refine wpAnyH_done (by kernel_rfl) ?_ _
                            have HBA := Lib.hid (Kp.trans HKV.out hx3)
                            go_wp2_with fail
                            refine (HAW.out _).mono ?_
                            rintro e x9 ⟨rfl, hb9⟩
                            have HB9 := Lib.hid (Kp.trans HBA.out hb9)
                            clear hb9
                            go_wp2
                            go_ret
                            exact ⟨rfl, HB9.out⟩
                          exact AllReadyH.nil
                        exact AllReadyH.nil
                      exact AllReadyH.nil
                    exact AllReadyH.nil
                  refine AllReadyH.cons rfl (fun K hK => ?_) ?_
                  · (try simp only [List.getElem_toArray, List.getElem_cons_zero, List.getElem_cons_succ])
                    go_simp
                    refine hK.out _ _ ?k178 (fun hHeld178 => ?n178)
                    case k178 => ((try dsimp only); (first | (with_reducible refine HS.out _ ?_; with_reducible assumption) | (with_reducible refine HS.out _ (Kp.drew ?_); with_reducible assumption) | (with_reducible refine' HS.out _ (Kp.drew (And.right ?_)); rotate_left; with_reducible assumption)))
                    clear hK K
                    (try simp only [Act.put, List.getElem_toArray, List.getElem_cons_zero, List.getElem_cons_succ, List.setIfInBounds_toArray, List.set_cons_zero, List.set_cons_succ])
                    refine wpAnyH_ready (rs := [11]) (by kernel_rfl) (by simp) ?_
                    refine AllReadyH.cons rfl (fun K hK => ?_) ?_
                    · refine step_append_my (base := V.heap.size) (e := 39) (size := 9) (bytes := 88) (by rfl) (.tmp 35) (.tmp 36) 22 rfl Tryz.underlying22 HJ.out JZ0.out JZ1.out JZ2.out rfl (by decide) (xs := []) (news := Lu) rfl (by first | exact o1 | exact o12 | exact o21) rfl (by first | exact HSU.out _ c1 | exact HSU.out _ (Kp.drew c1) | exact HSU.out _ c12 | exact HSU.out _ (Kp.drew c12) | exact HSU.out _ c21 | exact HSU.out _ (Kp.drew c21)) (by simp only [maxLen]; omega) (by omega) (by first | exact Below.size c1 | exact Below.size (Kp.drew c1) | exact Below.size c12 | exact Below.size (Kp.drew c12) | exact Below.size c21 | exact Below.size (Kp.drew c21)) ?_
                      intro y1B y1c y1 hO1 hbA hkA
                      simp only [Nat.zero_add, List.nil_append] at hO1
                      (try simp only [Nat.zero_add])
                      have d1 : Kp V y1 := Below.trans (by first | exact c1 | exact Kp.drew c1 | exact c12 | exact Kp.drew c12 | exact c21 | exact Kp.drew c21) hbA
                      have dM := Kp.trans d1 ((Kp.refl y1).alloc (.cells #[.int .i64 bus, .int .i64 mn, .slice A' n' c', .int .i64 up, .int .i64 dn, .int .i64 start, .int .i64 idle, .int .i64 spin, .int .i64 on2] 39))
                      have oM := hO1.keep ((Kp.refl y1).alloc (.cells #[.int .i64 bus, .int .i64 mn, .slice A' n' c', .int .i64 up, .int .i64 dn, .int .i64 start, .int .i64 idle, .int .i64 spin, .int .i64 on2] 39))
                      have mM := Blk.new y1 39 #[.int .i64 bus, .int .i64 mn, .slice A' n' c', .int .i64 up, .int .i64 dn, .int .i64 start, .int .i64 idle, .int .i64 spin, .int .i64 on2]
                      (first | have hM := Kept.blk hkA mb (by simp) | have hM := Kept.blk hkA (Blk.drew mb) (by simp) | have hM := Kept.blk hkA mc (by simp) | have hM := Kept.blk hkA (Blk.drew mc) (by simp) | skip)
                      clear hbA hkA
                      refine hK.out _ _ ?k180 (fun hHeld180 => ?n180)
                      case k180 => ((try dsimp only); (first | (with_reducible refine HS.out _ ?_; with_reducible assumption) | (with_reducible refine HS.out _ (Kp.drew ?_); with_reducible assumption) | (with_reducible refine' HS.out _ (Kp.drew (And.right ?_)); rotate_left; with_reducible assumption)))
                      clear hK K
                      (try simp only [Act.put, List.getElem_toArray, List.getElem_cons_zero, List.getElem_cons_succ, List.setIfInBounds_toArray, List.set_cons_zero, List.set_cons_succ])
                      refine wpAnyH_ready (rs := [14]) (by kernel_rfl) (by simp) ?_
                      refine AllReadyH.cons rfl (fun K hK => ?_) ?_
                      · refine step_append_my (base := V.heap.size) (e := 39) (size := 9) (bytes := 88) (by rfl) (.tmp 37) (.tmp 39) 22 rfl Tryz.underlying22 HJ.out JZ0.out JZ1.out JZ2.out rfl (by decide) (xs := Lu) (news := [.int .i64 bus, .int .i64 mn, .slice A' n' c', .int .i64 up, .int .i64 dn, .int .i64 start, .int .i64 idle, .int .i64 spin, .int .i64 on2]) rfl (by first | exact hO1 | exact oM) rfl (by first | exact Blk.src hM rfl munit_one | exact Blk.src mM rfl munit_one) (by simp only [maxLen]; omega) (by omega) (by first | exact Below.size d1 | exact Below.size dM) ?_
                        intro y2B y2c y2 hO2 hbB hkB
                        have d2 : Kp V y2 := Below.trans (by first | exact d1 | exact dM) hbB
                        have HUS := Lib.hid (hO2.units ((UL.app HLU.out HLM.out).below (Kp.trans HVL.out d2)) (by simp [HNL.out]))
                        clear hbB hkB hO2
                        refine hK.out _ _ ?k182 (fun hHeld182 => ?n182)
                        case k182 => ((try dsimp only); (first | (with_reducible refine HS.out _ ?_; with_reducible assumption) | (with_reducible refine HS.out _ (Kp.drew ?_); with_reducible assumption) | (with_reducible refine' HS.out _ (Kp.drew (And.right ?_)); rotate_left; with_reducible assumption)))
                        clear hK K
                        (try simp only [Act.put, List.getElem_toArray, List.getElem_cons_zero, List.getElem_cons_succ, List.setIfInBounds_toArray, List.set_cons_zero, List.set_cons_succ])
                        refine wpAnyH_ready (rs := [16]) (by kernel_rfl) (by simp) ?_
                        refine AllReadyH.cons rfl (fun K hK => ?_) ?_
                        · (try simp only [List.getElem_toArray, List.getElem_cons_zero, List.getElem_cons_succ])
                          go_simp
                          have hk := And.right ‹_ ∧ Kp V _›
                          refine (HT19.out _ _ _ (by first | exact HUS.out | exact HUS.out.below (Kp.drew (Kp.refl _))) hk).mono ?_
                          rintro e x2 ⟨rfl, hb2⟩
                          have hx2 := Kp.trans hk hb2
                          clear hk hb2
                          (try (go_wp2_with fail))
                          refine hK.out _ _ ?k184 (fun hHeld184 => ?n184)
                          case k184 => ((try dsimp only); (first | (with_reducible refine HS.out _ ?_; with_reducible assumption) | (with_reducible refine HS.out _ (Kp.drew ?_); with_reducible assumption) | (with_reducible refine' HS.out _ (Kp.drew (And.right ?_)); rotate_left; with_reducible assumption)))
                          clear hK K
                          (try simp only [Act.put, List.getElem_toArray, List.getElem_cons_zero, List.getElem_cons_succ, List.setIfInBounds_toArray, List.set_cons_zero, List.set_cons_succ])
                          refine wpAnyH_take (i := 17) (v := ?v185) rfl (by kernel_rfl) (by kernel_rfl) (by kernel_rfl) (fun _ _ _ h => h) (Or.inl ⟨by rfl, ?y185⟩) (by assumption) ?r185
                          case y185 => (intro w hSw; (try dsimp only at hSw); (try simp only [List.getElem_toArray, List.getElem_cons_zero, List.getElem_cons_succ]); go_simp; first | done | with_reducible rfl)
                          (try simp only [Act.put, List.getElem_toArray, List.getElem_cons_zero, List.getElem_cons_succ, List.setIfInBounds_toArray, List.set_cons_zero, List.set_cons_succ])
                          refine wpAnyH_take (i := 18) (v := ?v186) rfl (by kernel_rfl) (by kernel_rfl) (by kernel_rfl) (fun _ _ _ h => h) (Or.inl ⟨by rfl, ?y186⟩) (by assumption) ?r186
                          case y186 => (intro w hSw; (try dsimp only at hSw); (try simp only [List.getElem_toArray, List.getElem_cons_zero, List.getElem_cons_succ]); go_simp; first | done | with_reducible rfl)
                          (try simp only [Act.put, List.getElem_toArray, List.getElem_cons_zero, List.getElem_cons_succ, List.setIfInBounds_toArray, List.set_cons_zero, List.set_cons_succ])
                          refine wpAnyH_take (i := 19) (v := ?v187) rfl (by kernel_rfl) (by kernel_rfl) (by kernel_rfl) (fun _ _ _ h => h) (Or.inl ⟨by rfl, ?y187⟩) (by assumption) ?r187
                          case y187 => (intro w hSw; (try dsimp only at hSw); (try simp only [List.getElem_toArray, List.getElem_cons_zero, List.getElem_cons_succ]); go_simp; first | done | with_reducible rfl)
                          (try simp only [Act.put, List.getElem_toArray, List.getElem_cons_zero, List.getElem_cons_succ, List.setIfInBounds_toArray, List.set_cons_zero, List.set_cons_succ])
                          refine wpAnyH_ready (rs := [20]) (by kernel_rfl) (by simp) ?_
                          refine AllReadyH.cons rfl (fun K hK => ?_) ?_
                          · (try simp only [List.getElem_toArray, List.getElem_cons_zero, List.getElem_cons_succ])
                            go_simp
                            have hk := And.right ‹_ ∧ Kp V _›
                            refine (HT23.out _ hk).mono ?_
                            rintro e x3 ⟨rfl, hb3⟩
                            have hx3 := Kp.trans hk hb3
                            clear hk hb3
                            (try (go_wp2_with fail))
                            refine hK.out _ _ ?k189 (fun hHeld189 => ?n189)
                            case k189 => ((try dsimp only); (first | (with_reducible refine HS.out _ ?_; with_reducible assumption) | (with_reducible refine HS.out _ (Kp.drew ?_); with_reducible assumption) | (with_reducible refine' HS.out _ (Kp.drew (And.right ?_)); rotate_left; with_reducible assumption)))
                            clear hK K
                            (try simp only [Act.put, List.getElem_toArray, List.getElem_cons_zero, List.getElem_cons_succ, List.setIfInBounds_toArray, List.set_cons_zero, List.set_cons_succ])
                            refine wpAnyH_take (i := 21) (v := ?v190) rfl (by kernel_rfl) (by kernel_rfl) (by kernel_rfl) (fun _ _ _ h => h) (Or.inl ⟨by rfl, ?y190⟩) (by assumption) ?r190
                            case y190 => (intro w hSw; (try dsimp only at hSw); (try simp only [List.getElem_toArray, List.getElem_cons_zero, List.getElem_cons_succ]); go_simp; first | done | with_reducible rfl)
                            (try simp only [Act.put, List.getElem_toArray, List.getElem_cons_zero, List.getElem_cons_succ, List.setIfInBounds_toArray, List.set_cons_zero, List.set_cons_succ])
                            refine wpAnyH_take (i := 22) (v := ?v191) rfl (by kernel_rfl) (by kernel_rfl) (by kernel_rfl) (fun _ _ _ h => h) (Or.inl ⟨by rfl, ?y191⟩) (by assumption) ?r191
                            case y191 => (intro w hSw; (try dsimp only at hSw); (try simp only [List.getElem_toArray, List.getElem_cons_zero, List.getElem_cons_succ]); go_simp; first | done | with_reducible rfl)
                            (try simp only [Act.put, List.getElem_toArray, List.getElem_cons_zero, List.getElem_cons_succ, List.setIfInBounds_toArray, List.set_cons_zero, List.set_cons_succ])
                            refine wpAnyH_take (i := 23) (v := ?v192) rfl (by kernel_rfl) (by kernel_rfl) (by kernel_rfl) (fun _ _ _ h => h) (Or.inl ⟨by rfl, ?y192⟩) (by assumption) ?r192
                            case y192 => (intro w hSw; (try dsimp only at hSw); (try simp only [List.getElem_toArray, List.getElem_cons_zero, List.getElem_cons_succ]); go_simp; first | done | with_reducible rfl)
                            (try simp only [Act.put, List.getElem_toArray, List.getElem_cons_zero, List.getElem_cons_succ, List.setIfInBounds_toArray, List.set_cons_zero, List.set_cons_succ])
                            refine wpAnyH_take (i := 24) (v := undef) rfl (by kernel_rfl) (by kernel_rfl) (by kernel_rfl) (fun _ _ _ h => h) (Or.inr ⟨by rfl, rfl⟩) (by assumption) ?_
                            (try simp only [Act.put, List.getElem_toArray, List.getElem_cons_zero, List.getElem_cons_succ, List.setIfInBounds_toArray, List.set_cons_zero, List.set_cons_succ])
                            refine wpAnyH_take (i := 25) (v := undef) rfl (by kernel_rfl) (by kernel_rfl) (by kernel_rfl) (fun _ _ _ h => h) (Or.inr ⟨by rfl, rfl⟩) (by assumption) ?_
                            (try simp only [Act.put, List.getElem_toArray, List.getElem_cons_zero, List.getElem_cons_succ, List.setIfInBounds_toArray, List.set_cons_zero, List.set_cons_succ])
                            refine wpAnyH_take (i := 26) (v := ?v195) rfl (by kernel_rfl) (by kernel_rfl) (by kernel_rfl) (fun _ _ _ h => h) (Or.inl ⟨by rfl, ?y195⟩) (by assumption) ?r195
                            case y195 => (intro w hSw; (try dsimp only at hSw); (try simp only [List.getElem_toArray, List.getElem_cons_zero, List.getElem_cons_succ]); go_simp; first | done | with_reducible rfl)
                            (try simp only [Act.put, List.getElem_toArray, List.getElem_cons_zero, List.getElem_cons_succ, List.setIfInBounds_toArray, List.set_cons_zero, List.set_cons_succ])
                            refine wpAnyH_done (by kernel_rfl) ?_ _
                            have HBA := Lib.hid (Kp.trans HKV.out hx3)
                            go_wp2_with fail
                            refine (HAW.out _).mono ?_
                            rintro e x9 ⟨rfl, hb9⟩
                            have HB9 := Lib.hid (Kp.trans HBA.out hb9)
                            clear hb9
                            go_wp2
                            go_ret
                            exact ⟨rfl, HB9.out⟩
                          exact AllReadyH.nil
                        exact AllReadyH.nil
                      exact AllReadyH.nil
                    exact AllReadyH.nil
                  exact AllReadyH.nil
                refine AllReadyH.cons rfl (fun K hK => ?_) ?_
                · (try simp only [List.getElem_toArray, List.getElem_cons_zero, List.getElem_cons_succ])
                  go_simp
                  refine hK.out _ _ ?k196 (fun hHeld196 => ?n196)
                  case k196 => ((try dsimp only); (first | (with_reducible refine HS.out _ ?_; with_reducible assumption) | (with_reducible refine HS.out _ (Kp.drew ?_); with_reducible assumption) | (with_reducible refine' HS.out _ (Kp.drew (And.right ?_)); rotate_left; with_reducible assumption)))
                  clear hK K
                  (try simp only [Act.put, List.getElem_toArray, List.getElem_cons_zero, List.getElem_cons_succ, List.setIfInBounds_toArray, List.set_cons_zero, List.set_cons_succ])
                  refine wpAnyH_ready (rs := [9]) (by kernel_rfl) (by simp) ?_
                  refine AllReadyH.cons rfl (fun K hK => ?_) ?_
                  · (try simp only [List.getElem_toArray, List.getElem_cons_zero, List.getElem_cons_succ])
                    go_simp
                    refine hK.out _ _ ?k198 (fun hHeld198 => ?n198)
                    case k198 => ((try dsimp only); (first | (with_reducible refine HS.out _ ?_; with_reducible assumption) | (with_reducible refine HS.out _ (Kp.drew ?_); with_reducible assumption) | (with_reducible refine' HS.out _ (Kp.drew (And.right ?_)); rotate_left; with_reducible assumption)))
                    clear hK K
                    (try simp only [Act.put, List.getElem_toArray, List.getElem_cons_zero, List.getElem_cons_succ, List.setIfInBounds_toArray, List.set_cons_zero, List.set_cons_succ])
                    refine wpAnyH_ready (rs := [11]) (by kernel_rfl) (by simp) ?_
                    refine AllReadyH.cons rfl (fun K hK => ?_) ?_
                    · refine step_append_my (base := V.heap.size) (e := 39) (size := 9) (bytes := 88) (by rfl) (.tmp 35) (.tmp 36) 22 rfl Tryz.underlying22 HJ.out JZ0.out JZ1.out JZ2.out rfl (by decide) (xs := []) (news := Lu) rfl (by first | exact o1 | exact o12 | exact o21) rfl (by first | exact HSU.out _ c1 | exact HSU.out _ (Kp.drew c1) | exact HSU.out _ c12 | exact HSU.out _ (Kp.drew c12) | exact HSU.out _ c21 | exact HSU.out _ (Kp.drew c21)) (by simp only [maxLen]; omega) (by omega) (by first | exact Below.size c1 | exact Below.size (Kp.drew c1) | exact Below.size c12 | exact Below.size (Kp.drew c12) | exact Below.size c21 | exact Below.size (Kp.drew c21)) ?_
                      intro y1B y1c y1 hO1 hbA hkA
                      simp only [Nat.zero_add, List.nil_append] at hO1
                      (try simp only [Nat.zero_add])
                      have d1 : Kp V y1 := Below.trans (by first | exact c1 | exact Kp.drew c1 | exact c12 | exact Kp.drew c12 | exact c21 | exact Kp.drew c21) hbA
                      have dM := Kp.trans d1 ((Kp.refl y1).alloc (.cells #[.int .i64 bus, .int .i64 mn, .slice A' n' c', .int .i64 up, .int .i64 dn, .int .i64 start, .int .i64 idle, .int .i64 spin, .int .i64 on2] 39))
                      have oM := hO1.keep ((Kp.refl y1).alloc (.cells #[.int .i64 bus, .int .i64 mn, .slice A' n' c', .int .i64 up, .int .i64 dn, .int .i64 start, .int .i64 idle, .int .i64 spin, .int .i64 on2] 39))
                      have mM := Blk.new y1 39 #[.int .i64 bus, .int .i64 mn, .slice A' n' c', .int .i64 up, .int .i64 dn, .int .i64 start, .int .i64 idle, .int .i64 spin, .int .i64 on2]
                      (first | have hM := Kept.blk hkA mb (by simp) | have hM := Kept.blk hkA (Blk.drew mb) (by simp) | have hM := Kept.blk hkA mc (by simp) | have hM := Kept.blk hkA (Blk.drew mc) (by simp) | skip)
                      clear hbA hkA
                      refine hK.out _ _ ?k200 (fun hHeld200 => ?n200)
                      case k200 => ((try dsimp only); (first | (with_reducible refine HS.out _ ?_; with_reducible assumption) | (with_reducible refine HS.out _ (Kp.drew ?_); with_reducible assumption) | (with_reducible refine' HS.out _ (Kp.drew (And.right ?_)); rotate_left; with_reducible assumption)))
                      clear hK K
                      (try simp only [Act.put, List.getElem_toArray, List.getElem_cons_zero, List.getElem_cons_succ, List.setIfInBounds_toArray, List.set_cons_zero, List.set_cons_succ])
                      refine wpAnyH_ready (rs := [14]) (by kernel_rfl) (by simp) ?_
                      refine AllReadyH.cons rfl (fun K hK => ?_) ?_
                      · refine step_append_my (base := V.heap.size) (e := 39) (size := 9) (bytes := 88) (by rfl) (.tmp 37) (.tmp 39) 22 rfl Tryz.underlying22 HJ.out JZ0.out JZ1.out JZ2.out rfl (by decide) (xs := Lu) (news := [.int .i64 bus, .int .i64 mn, .slice A' n' c', .int .i64 up, .int .i64 dn, .int .i64 start, .int .i64 idle, .int .i64 spin, .int .i64 on2]) rfl (by first | exact hO1 | exact oM) rfl (by first | exact Blk.src hM rfl munit_one | exact Blk.src mM rfl munit_one) (by simp only [maxLen]; omega) (by omega) (by first | exact Below.size d1 | exact Below.size dM) ?_
                        intro y2B y2c y2 hO2 hbB hkB
                        have d2 : Kp V y2 := Below.trans (by first | exact d1 | exact dM) hbB
                        have HUS := Lib.hid (hO2.units ((UL.app HLU.out HLM.out).below (Kp.trans HVL.out d2)) (by simp [HNL.out]))
                        clear hbB hkB hO2
                        refine hK.out _ _ ?k202 (fun hHeld202 => ?n202)
                        case k202 => ((try dsimp only); (first | (with_reducible refine HS.out _ ?_; with_reducible assumption) | (with_reducible refine HS.out _ (Kp.drew ?_); with_reducible assumption) | (with_reducible refine' HS.out _ (Kp.drew (And.right ?_)); rotate_left; with_reducible assumption)))
                        clear hK K
                        (try simp only [Act.put, List.getElem_toArray, List.getElem_cons_zero, List.getElem_cons_succ, List.setIfInBounds_toArray, List.set_cons_zero, List.set_cons_succ])
                        refine wpAnyH_ready (rs := [16]) (by kernel_rfl) (by simp) ?_
                        refine AllReadyH.cons rfl (fun K hK => ?_) ?_
                        · (try simp only [List.getElem_toArray, List.getElem_cons_zero, List.getElem_cons_succ])
                          go_simp
                          have hk := And.right ‹_ ∧ Kp V _›
                          refine (HT19.out _ _ _ (by first | exact HUS.out | exact HUS.out.below (Kp.drew (Kp.refl _))) hk).mono ?_
                          rintro e x2 ⟨rfl, hb2⟩
                          have hx2 := Kp.trans hk hb2
                          clear hk hb2
                          (try (go_wp2_with fail))
                          refine hK.out _ _ ?k204 (fun hHeld204 => ?n204)
                          case k204 => ((try dsimp only); (first | (with_reducible refine HS.out _ ?_; with_reducible assumption) | (with_reducible refine HS.out _ (Kp.drew ?_); with_reducible assumption) | (with_reducible refine' HS.out _ (Kp.drew (And.right ?_)); rotate_left; with_reducible assumption)))
                          clear hK K
                          (try simp only [Act.put, List.getElem_toArray, List.getElem_cons_zero, List.getElem_cons_succ, List.setIfInBounds_toArray, List.set_cons_zero, List.set_cons_succ])
                          refine wpAnyH_take (i := 17) (v := ?v205) rfl (by kernel_rfl) (by kernel_rfl) (by kernel_rfl) (fun _ _ _ h => h) (Or.inl ⟨by rfl, ?y205⟩) (by assumption) ?r205
                          case y205 => (intro w hSw; (try dsimp only at hSw); (try simp only [List.getElem_toArray, List.getElem_cons_zero, List.getElem_cons_succ]); go_simp; first | done | with_reducible rfl)
                          (try simp only [Act.put, List.getElem_toArray, List.getElem_cons_zero, List.getElem_cons_succ, List.setIfInBounds_toArray, List.set_cons_zero, List.set_cons_succ])
                          refine wpAnyH_take (i := 18) (v := ?v206) rfl (by kernel_rfl) (by kernel_rfl) (by kernel_rfl) (fun _ _ _ h => h) (Or.inl ⟨by rfl, ?y206⟩) (by assumption) ?r206
                          case y206 => (intro w hSw; (try dsimp only at hSw); (try simp only [List.getElem_toArray, List.getElem_cons_zero, List.getElem_cons_succ]); go_simp; first | done | with_reducible rfl)
                          (try simp only [Act.put, List.getElem_toArray, List.getElem_cons_zero, List.getElem_cons_succ, List.setIfInBounds_toArray, List.set_cons_zero, List.set_cons_succ])
                          refine wpAnyH_take (i := 19) (v := ?v207) rfl (by kernel_rfl) (by kernel_rfl) (by kernel_rfl) (fun _ _ _ h => h) (Or.inl ⟨by rfl, ?y207⟩) (by assumption) ?r207
                          case y207 => (intro w hSw; (try dsimp only at hSw); (try simp only [List.getElem_toArray, List.getElem_cons_zero, List.getElem_cons_succ]); go_simp; first | done | with_reducible rfl)
                          (try simp only [Act.put, List.getElem_toArray, List.getElem_cons_zero, List.getElem_cons_succ, List.setIfInBounds_toArray, List.set_cons_zero, List.set_cons_succ])
                          refine wpAnyH_ready (rs := [20]) (by kernel_rfl) (by simp) ?_
                          refine AllReadyH.cons rfl (fun K hK => ?_) ?_
                          · (try simp only [List.getElem_toArray, List.getElem_cons_zero, List.getElem_cons_succ])
                            go_simp
                            have hk := And.right ‹_ ∧ Kp V _›
                            refine (HT23.out _ hk).mono ?_
                            rintro e x3 ⟨rfl, hb3⟩
                            have hx3 := Kp.trans hk hb3
                            clear hk hb3
                            (try (go_wp2_with fail))
                            refine hK.out _ _ ?k209 (fun hHeld209 => ?n209)
                            case k209 => ((try dsimp only); (first | (with_reducible refine HS.out _ ?_; with_reducible assumption) | (with_reducible refine HS.out _ (Kp.drew ?_); with_reducible assumption) | (with_reducible refine' HS.out _ (Kp.drew (And.right ?_)); rotate_left; with_reducible assumption)))
                            clear hK K
                            (try simp only [Act.put, List.getElem_toArray, List.getElem_cons_zero, List.getElem_cons_succ, List.setIfInBounds_toArray, List.set_cons_zero, List.set_cons_succ])
                            refine wpAnyH_take (i := 21) (v := ?v210) rfl (by kernel_rfl) (by kernel_rfl) (by kernel_rfl) (fun _ _ _ h => h) (Or.inl ⟨by rfl, ?y210⟩) (by assumption) ?r210
                            case y210 => (intro w hSw; (try dsimp only at hSw); (try simp only [List.getElem_toArray, List.getElem_cons_zero, List.getElem_cons_succ]); go_simp; first | done | with_reducible rfl)
                            (try simp only [Act.put, List.getElem_toArray, List.getElem_cons_zero, List.getElem_cons_succ, List.setIfInBounds_toArray, List.set_cons_zero, List.set_cons_succ])
                            refine wpAnyH_take (i := 22) (v := ?v211) rfl (by kernel_rfl) (by kernel_rfl) (by kernel_rfl) (fun _ _ _ h => h) (Or.inl ⟨by rfl, ?y211⟩) (by assumption) ?r211
                            case y211 => (intro w hSw; (try dsimp only at hSw); (try simp only [List.getElem_toArray, List.getElem_cons_zero, List.getElem_cons_succ]); go_simp; first | done | with_reducible rfl)
                            (try simp only [Act.put, List.getElem_toArray, List.getElem_cons_zero, List.getElem_cons_succ, List.setIfInBounds_toArray, List.set_cons_zero, List.set_cons_succ])
                            refine wpAnyH_take (i := 23) (v := ?v212) rfl (by kernel_rfl) (by kernel_rfl) (by kernel_rfl) (fun _ _ _ h => h) (Or.inl ⟨by rfl, ?y212⟩) (by assumption) ?r212
                            case y212 => (intro w hSw; (try dsimp only at hSw); (try simp only [List.getElem_toArray, List.getElem_cons_zero, List.getElem_cons_succ]); go_simp; first | done | with_reducible rfl)
                            (try simp only [Act.put, List.getElem_toArray, List.getElem_cons_zero, List.getElem_cons_succ, List.setIfInBounds_toArray, List.set_cons_zero, List.set_cons_succ])
                            refine wpAnyH_take (i := 24) (v := undef) rfl (by kernel_rfl) (by kernel_rfl) (by kernel_rfl) (fun _ _ _ h => h) (Or.inr ⟨by rfl, rfl⟩) (by assumption) ?_
                            (try simp only [Act.put, List.getElem_toArray, List.getElem_cons_zero, List.getElem_cons_succ, List.setIfInBounds_toArray, List.set_cons_zero, List.set_cons_succ])
                            refine wpAnyH_take (i := 25) (v := undef) rfl (by kernel_rfl) (by kernel_rfl) (by kernel_rfl) (fun _ _ _ h => h) (Or.inr ⟨by rfl, rfl⟩) (by assumption) ?_
                            (try simp only [Act.put, List.getElem_toArray, List.getElem_cons_zero, List.getElem_cons_succ, List.setIfInBounds_toArray, List.set_cons_zero, List.set_cons_succ])
                            refine wpAnyH_take (i := 26) (v := ?v215) rfl (by kernel_rfl) (by kernel_rfl) (by kernel_rfl) (fun _ _ _ h => h) (Or.inl ⟨by rfl, ?y215⟩) (by assumption) ?r215
                            case y215 => (intro w hSw; (try dsimp only at hSw); (try simp only [List.getElem_toArray, List.getElem_cons_zero, List.getElem_cons_succ]); go_simp; first | done | with_reducible rfl)
                            (try simp only [Act.put, List.getElem_toArray, List.getElem_cons_zero, List.getElem_cons_succ, List.setIfInBounds_toArray, List.set_cons_zero, List.set_cons_succ])
                            refine wpAnyH_done (by kernel_rfl) ?_ _
                            have HBA := Lib.hid (Kp.trans HKV.out hx3)
                            go_wp2_with fail
                            refine (HAW.out _).mono ?_
                            rintro e x9 ⟨rfl, hb9⟩
                            have HB9 := Lib.hid (Kp.trans HBA.out hb9)
                            clear hb9
                            go_wp2
                            go_ret
                            exact ⟨rfl, HB9.out⟩
                          exact AllReadyH.nil
                        exact AllReadyH.nil
                      exact AllReadyH.nil
                    exact AllReadyH.nil
                  exact AllReadyH.nil
                exact AllReadyH.nil
              exact AllReadyH.nil
            exact AllReadyH.nil
          exact AllReadyH.nil

end Go.Proofs.YtdoeejcmaeefcaaGreat
