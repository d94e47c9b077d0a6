/-
Package commit: best at a point that is not known yet. Package commit: best. No statement of the seat is proved here; no conditions beyond those of each theorem.
-/
import Derived.Test.YtdoeejcmaeefcaaGreatHW
namespace Go.Proofs.YtdoeejcmaeefcaaGreat
set_option linter.unusedVariables false
set_option linter.unusedSimpArgs false
open Go.RowKit
open Wd
open Cm

/-- The cells of an outcome. -/
def outC (o : Option (Nat × Int)) : Array Value := #[.bool o.isSome, .int .i64 (((o.getD (0, 0)).1 : Nat) : Int), .int .i64 (o.getD (0, 0)).2]
/-- The state of the loop over the choices. -/
def BN (us : List Un) (R : List Row) (n mb : Nat) (V w : World) (o : Option (Nat × Int)) : Prop := Bm mb V.heap.size V w ∧ KnR (bsV us R n) n w mb ∧ Blk w V.heap.size 73 (outC o)
theorem BN.go {us : List Un} {R : List Row} {n mb : Nat} {V w w' : World} {o : Option (Nat × Int)} (h : BN us R n mb V w o) (hb : Bm mb w.heap.size w w') (hk : KnR (bsV us R n) n w' mb) : BN us R n mb V w' o := by
  obtain ⟨es, c, hm, _⟩ := id h.2.1
  exact ⟨h.1.trans (hb.mono (Nat.le_of_lt h.2.2.lt)), hk, hb.blk hm h.2.2⟩
theorem BN.al {us : List Un} {R : List Row} {n mb : Nat} {V w : World} {o : Option (Nat × Int)} (h : BN us R n mb V w o) (x : Obj) : BN us R n mb V (w.alloc x) o := h.go (Bm.of ((Kp.refl w).alloc x)) (h.2.1.bm ((Kp.refl w).alloc x))
theorem BN.set {us : List Un} {R : List Row} {n mb : Nat} {V w : World} {o : Option (Nat × Int)} (h : BN us R n mb V w o) (a b c : Value) (o' : Option (Nat × Int)) (he : outC o' = #[a, b, c]) : BN us R n mb V (st3 w V.heap.size a b c) o' := by
  obtain ⟨es, ck, hm, _⟩ := id h.2.1
  exact ⟨bm_set3 h.1 (Nat.le_refl _) _ _ _, knr_set3 h.2.1 (Ne.symm (Bm.neB hm h.2.2)) _ _ _, he ▸ Blk.set3 (show Blk w V.heap.size 73 #[_, _, _] from h.2.2)⟩
theorem SrAt.bm2 {us : List Un} {R : List Row} {gs : Nat} {A : Option Addr} {n cu m : Nat} {As : Option Addr} {ca mb : Nat} {w w' : World} {V : Nat → List Int → Option (Nat × Int)} (hS : SrAt us R gs A n cu m As ca mb w) (hk : KnR V n w mb) (h : Bm mb w.heap.size w w') : SrAt us R gs A n cu m As ca mb w' := by
  obtain ⟨es, c, hm, _⟩ := id hk
  exact hS.bm h hm
theorem val1_no {us : List Un} {r : List Int → Option (Nat × Int)} {h : Row} {s : List Int} {c : Nat} (e : mv us h s c = none) : val1 (mv us) r h s c = none := by
  unfold val1
  rw [e]
theorem val1_no2 {us : List Un} {r : List Int → Option (Nat × Int)} {h : Row} {s s' : List Int} {x : Int} {c : Nat} (e : mv us h s c = some (s', x)) (e2 : r s' = none) : val1 (mv us) r h s c = none := by
  unfold val1
  rw [e]
  simp only [e2]
theorem val1_yes {us : List Un} {r : List Int → Option (Nat × Int)} {h : Row} {s s' : List Int} {x v : Int} {c c' : Nat} (e : mv us h s c = some (s', x)) (e2 : r s' = some (c', v)) : val1 (mv us) r h s c = some (x + v) := by
  unfold val1
  rw [e]
  simp only [e2]
theorem scan_no {f : Nat → Option Int} {c : Nat} (e : f c = none) : scan f (c + 1) = scan f c := by rw [scan_step, e]
theorem scan_yes {f : Nat → Option Int} {c : Nat} {x : Int} (e : f c = some x) : scan f (c + 1) = match scan f c with
    | none => some (c, x)
    | some (c0, y) => if x < y then some (c, x) else some (c0, y) := by
  rw [scan_step, e]
  cases scan f c <;> rfl

set_option maxRecDepth 100000 in
set_option maxHeartbeats 4000000 in
theorem best_new (us : List Un) (R : List Row) (gs : Nat) (A : Option Addr) (n cu m : Nat) (As : Option Addr) (ca mb h : Nat) (ss : List Int) (w : World) (hS : SrAt us R gs A n cu m As ca mb w) (hk : KnR (bsV us R n) n w mb) (hh : h < m) (hp : PtOk n ss) (hst : ∀ i, i < n → StOk (us[i]?.getD U0) (ss[i]?.getD 0))
    (ih : ∀ (r : List Int) (W : World), SrAt us R gs A n cu m As ca mb W → KnR (bsV us R n) n W mb → PtOk n r → (∀ i, i < n → StOk (us[i]?.getD U0) (r[i]?.getD 0)) → Calls Tryz.prog 38 #[.pointer (some ⟨gs, 0, none⟩), ptV ((h + 1 : Nat) : Int) r] W fun e w' => e = .returned (outV (bsV us R n (h + 1) r)) ∧ Bm mb W.heap.size W w' ∧ KnR (bsV us R n) n w' mb)
    (hl : ∀ w' : World, w'.heap[mb]? = w.heap[mb]? → (Instr.lookup 90 (.map (some mb)) (ptV h ss) true).run Tryz.prog w' = .ok (.tuple #[outV none, .bool false]) w') :
    Calls Tryz.prog 38 #[.pointer (some ⟨gs, 0, none⟩), ptV (h : Int) ss] w fun e w' => e = .returned (outV (bsV us R n h ss)) ∧ Bm mb w.heap.size w w' ∧ KnR (bsV us R n) n w' mb := by
  obtain ⟨cs, hblk, hsr⟩ := hS.blk
  have hgs := hblk.lt
  have e1 := (hblk.cell 1).trans hsr.hours
  have e2 := (hblk.cell 263).trans hsr.known
  have HT := Lib.hid (fun c W (hS : SrAt us R gs A n cu m As ca mb W) (hc : c < 2 ^ n) => move_raw us R gs A n cu m As ca mb h ss c W hS hh hc hp hst)
  have hn5 := hS.n5
  have HSR := Lib.hid hS
  have HKN := Lib.hid hk
  have HIH := Lib.hid ih
  have HPUT := Lib.hid (fun (w' : World) (hk : KnR (bsV us R n) n w' mb) => KnR.put (h := h) (ss := ss) hn5 hk (by have := hS.m8; omega) hp)
  have HPO := Lib.hid (And.intro hp hst)
  have hRm : R.length = m := hS.sup.1
  have HV := Lib.hid (bsV_step (us := us) (R := R) (n := n) (h := h) (ss := ss) (by omega))
  generalize hbo : bsV us R n h ss = o at *
  have HBO := Lib.hid hbo
  clear ih hp hst hbo
  unfold ptV ptC outV at hl
  unfold ptV ptC outV at HPUT
  unfold ptV ptC at HT
  unfold ptV ptC
  generalize ss[0]?.getD 0 = s0 at *
  generalize ss[1]?.getD 0 = s1 at *
  generalize ss[2]?.getD 0 = s2 at *
  generalize ss[3]?.getD 0 = s3 at *
  generalize ss[4]?.getD 0 = s4 at *
  have k1 := (Kp.refl w).alloc (.cells #[.int .i64 (h : Int), .int .i64 s0, .int .i64 s1, .int .i64 s2, .int .i64 s3, .int .i64 s4] 71)
  have k2 := k1.alloc (.cells #[.bool false, .int .i64 0, .int .i64 0] 73)
  have hB3 := (Blk.new w 71 #[.int .i64 (h : Int), .int .i64 s0, .int .i64 s1, .int .i64 s2, .int .i64 s3, .int .i64 s4]).alloc (.cells #[.bool false, .int .i64 0, .int .i64 0] 73)
  have hB4 := Blk.new (w.alloc (.cells #[.int .i64 (h : Int), .int .i64 s0, .int .i64 s1, .int .i64 s2, .int .i64 s3, .int .i64 s4] 71)) 73 #[.bool false, .int .i64 0, .int .i64 0]
  simp only [World.size_alloc] at hB4
  have c1 := (Below.cell k2 (p := ⟨gs, 1, none⟩) hgs).trans e1
  have c2 := (Below.cell k2 (p := ⟨gs, 263, none⟩) hgs).trans e2
  have hlt := hk.lt
  have HK := Lib.hid (hk.bm k2)
  have HK2 := Lib.hid k2
  have hl2 : ∀ w', Kp ((w.alloc (.cells #[.int .i64 (h : Int), .int .i64 s0, .int .i64 s1, .int .i64 s2, .int .i64 s3, .int .i64 s4] 71)).alloc (.cells #[.bool false, .int .i64 0, .int .i64 0] 73)) w' → (Instr.lookup 90 (.map (some mb)) (.agg #[.int .i64 (h : Int), .int .i64 s0, .int .i64 s1, .int .i64 s2, .int .i64 s3, .int .i64 s4]) true).run Tryz.prog w' = .ok (.tuple #[.agg #[.bool false, .int .i64 0, .int .i64 0], .bool false]) w' := fun w' hk' => hl w' ((Kp.trans k2 hk').block mb hlt)
  clear hS hk hsr hblk k1 e1 e2 k2 hl
  go_enter Tryz.func38, Tryz.ntmps38
  go_wp2_with fail
  generalize (w.alloc (.cells #[.int .i64 (h : Int), .int .i64 s0, .int .i64 s1, .int .i64 s2, .int .i64 s3, .int .i64 s4] 71)).alloc (.cells #[.bool false, .int .i64 0, .int .i64 0] 73) = W at *
  have hee : ((h : Int) == (m : Int)) = false := by simp; omega
  have HS := Lib.hid (show ∀ w', Kp W w' → (w'.cell? ⟨w.heap.size, 0, none⟩ = some (.int .i64 (h : Int)) ∧ w'.cell? ⟨gs, 1, none⟩ = some (.int .i64 (m : Int))) ∧ Kp W w' from fun w' hk => ⟨⟨(hk.blk hB3).cell 0, (Below.cell hk (p := ⟨gs, 1, none⟩) (Nat.lt_of_lt_of_le hgs HK2.out.size)).trans c1⟩, hk⟩)
  have HS2 := Lib.hid (show ∀ w', Kp W w' → (w'.cell? ⟨gs, 263, none⟩ = some (.map (some mb)) ∧ w'.cell? ⟨w.heap.size, 0, none⟩ = some (.int .i64 (h : Int)) ∧ w'.cell? ⟨w.heap.size, 1, none⟩ = some (.int .i64 s0) ∧ w'.cell? ⟨w.heap.size, 2, none⟩ = some (.int .i64 s1) ∧ w'.cell? ⟨w.heap.size, 3, none⟩ = some (.int .i64 s2) ∧ w'.cell? ⟨w.heap.size, 4, none⟩ = some (.int .i64 s3) ∧ w'.cell? ⟨w.heap.size, 5, none⟩ = some (.int .i64 s4) ∧ (Instr.lookup 90 (.map (some mb)) (.agg #[.int .i64 (h : Int), .int .i64 s0, .int .i64 s1, .int .i64 s2, .int .i64 s3, .int .i64 s4]) true).run Tryz.prog w' = .ok (.tuple #[.agg #[.bool false, .int .i64 0, .int .i64 0], .bool false]) w') ∧ Kp W w' from fun w' hk => ⟨⟨(Below.cell hk (p := ⟨gs, 263, none⟩) (Nat.lt_of_lt_of_le hgs HK2.out.size)).trans c2, (hk.blk hB3).cell 0, (hk.blk hB3).cell 1, (hk.blk hB3).cell 2, (hk.blk hB3).cell 3, (hk.blk hB3).cell 4, (hk.blk hB3).cell 5, hl2 w' hk⟩, hk⟩)
  have hk0 := Kp.refl W
  have HB4 := Lib.hid hB4
  have HLT := Lib.hid hlt
  clear hB3 hB4 c1 c2 hlt hl2 hh
  go_region_held3 (fun w' => (w'.cell? ⟨w.heap.size, 0, none⟩ = some (.int .i64 (h : Int)) ∧ w'.cell? ⟨gs, 1, none⟩ = some (.int .i64 (m : Int))) ∧ Kp W w')
    (first | (with_reducible refine HS.out _ ?_; with_reducible assumption) | (with_reducible refine HS.out _ (Kp.drew ?_); with_reducible assumption) | (with_reducible refine' HS.out _ (Kp.drew (And.right ?_)); rotate_left; with_reducible assumption))
    (fail)
  rename_i hHeld
  have hk1 := Kp.drew (Kp.refl W)
  generalize W.drew = W1 at *
  have HS3 := Lib.hid (show ∀ w', Kp W1 w' → (w'.cell? ⟨gs, 263, none⟩ = some (.map (some mb)) ∧ w'.cell? ⟨w.heap.size, 0, none⟩ = some (.int .i64 (h : Int)) ∧ w'.cell? ⟨w.heap.size, 1, none⟩ = some (.int .i64 s0) ∧ w'.cell? ⟨w.heap.size, 2, none⟩ = some (.int .i64 s1) ∧ w'.cell? ⟨w.heap.size, 3, none⟩ = some (.int .i64 s2) ∧ w'.cell? ⟨w.heap.size, 4, none⟩ = some (.int .i64 s3) ∧ w'.cell? ⟨w.heap.size, 5, none⟩ = some (.int .i64 s4) ∧ (Instr.lookup 90 (.map (some mb)) (.agg #[.int .i64 (h : Int), .int .i64 s0, .int .i64 s1, .int .i64 s2, .int .i64 s3, .int .i64 s4]) true).run Tryz.prog w' = .ok (.tuple #[.agg #[.bool false, .int .i64 0, .int .i64 0], .bool false]) w') ∧ Kp W1 w' from fun w' hk => ⟨(HS2.out w' (Kp.trans hk1 hk)).1, hk⟩)
  have HK1 := Lib.hid hk1
  have hk0 := Kp.refl W1
  clear hHeld HS HS2 hk1
  go_wp2_with fail
  go_region_held3 (fun w' => (w'.cell? ⟨gs, 263, none⟩ = some (.map (some mb)) ∧ w'.cell? ⟨w.heap.size, 0, none⟩ = some (.int .i64 (h : Int)) ∧ w'.cell? ⟨w.heap.size, 1, none⟩ = some (.int .i64 s0) ∧ w'.cell? ⟨w.heap.size, 2, none⟩ = some (.int .i64 s1) ∧ w'.cell? ⟨w.heap.size, 3, none⟩ = some (.int .i64 s2) ∧ w'.cell? ⟨w.heap.size, 4, none⟩ = some (.int .i64 s3) ∧ w'.cell? ⟨w.heap.size, 5, none⟩ = some (.int .i64 s4) ∧ (Instr.lookup 90 (.map (some mb)) (.agg #[.int .i64 (h : Int), .int .i64 s0, .int .i64 s1, .int .i64 s2, .int .i64 s3, .int .i64 s4]) true).run Tryz.prog w' = .ok (.tuple #[.agg #[.bool false, .int .i64 0, .int .i64 0], .bool false]) w') ∧ Kp W1 w')
    (first | (with_reducible refine HS3.out _ ?_; with_reducible assumption) | (with_reducible refine HS3.out _ (Kp.drew ?_); with_reducible assumption) | (with_reducible refine' HS3.out _ (Kp.drew (And.right ?_)); rotate_left; with_reducible assumption) | (with_reducible refine' HS3.out _ (Kp.alloc (And.right ?_) _); rotate_left; with_reducible assumption) | (with_reducible refine' HS3.out _ (Kp.alloc ?_ _); rotate_left; with_reducible assumption) | (with_reducible refine HS3.out _ (Kp.drew (Kp.alloc ?_ _)); with_reducible assumption) | (with_reducible refine' HS3.out _ (Kp.set3 (And.right ?_) ?_ _ _ _); rotate_left; (with_reducible assumption); exact Nat.le_refl _))
    (fail)
  all_goals (
    rename_i hHeld
    have hZ : Kp W1 (W1.alloc (.cells #[.bool false, .int .i64 0, .int .i64 0] 73)).drew := Kp.drew ((Kp.refl W1).alloc _)
    have hB5 : Blk (W1.alloc (.cells #[.bool false, .int .i64 0, .int .i64 0] 73)).drew W1.heap.size 73 #[.bool false, .int .i64 0, .int .i64 0] := Blk.drew (Blk.new W1 73 _)
    have hkW := Kp.trans HK1.out hZ
    have hB4 := Kp.blk hkW HB4.out
    have hKd := HK.out.bm hkW
    have hk2 := Kp.trans HK2.out hkW
    have hp0 : (((W1.alloc (.cells #[.bool false, .int .i64 0, .int .i64 0] 73)).drew).cell? ⟨w.heap.size, 0, none⟩ = some (.int .i64 (h : Int))) := hHeld.1.2.1
    generalize (W1.alloc (.cells #[.bool false, .int .i64 0, .int .i64 0] 73)).drew = V at *
    have u0 : V.cell? ⟨gs, 0, none⟩ = some (.slice A n cu) := (Below.cell hk2 (p := ⟨gs, 0, none⟩) hgs).trans (by obtain ⟨cs, h1, h2⟩ := HSR.out.blk; exact (h1.cell 0).trans h2.units)
    have hk7 := (Kp.refl V).alloc (.cells #[.bool false, .int .i64 0, .int .i64 0] 73)
    have u1 := (Below.cell hk7 (p := ⟨gs, 0, none⟩) (Nat.lt_of_lt_of_le hgs hk2.size)).trans u0
    have HALL := Lib.hid (And.intro hB4 (And.intro hKd (And.intro hk2 hHeld)))
    have hN : 2 ^ n ≤ 32 := Nat.le_trans (Nat.pow_le_pow_right (by decide) hn5) (by decide)
    have w9 : wrap64 ((2 : Int) ^ n) = ((2 ^ n : Nat) : Int) := by
      have h9 : ((2 : Int) ^ n) = ((2 ^ n : Nat) : Int) := by push_cast; rfl
      rw [h9]
      revert hN
      generalize 2 ^ n = M
      intro hN
      exact (wrap_in (M : Int) (by omega) (by omega)).2
    clear hk0 HS3 hZ hB4 hB5 hkW hKd HK HK2 HK1 hHeld hk2 u0 HB4
    go_wp2_with fail
    simp only [w9]
    generalize hNe : 2 ^ n = N at *
    have HNE := Lib.hid hNe
    have HST := Lib.hid (And.intro hk7 (Blk.new V 73 #[.bool false, .int .i64 0, .int .i64 0]))
    clear hNe w9 u1 hk7
    go_loopw [38] (fun t wr => ∃ (c : Nat), c ≤ N ∧ t = .int .i64 c ∧ Hid (BN us R n mb V wr (scan (val1 (mv us) (bsV us R n (h + 1)) (R[h]?.getD []) ss) c))) (fun t _ => N - (intOf t).toNat)
    case atStart => exact ⟨0, Nat.zero_le _, rfl, Bm.of HST.out.1, HALL.out.2.1.bm HST.out.1, HST.out.2⟩
    case round =>
      clear HST
      obtain ⟨c, hc, rfl, hR⟩ := hrel
      obtain ⟨wu, rfl⟩ : ∃ v, v = wr := ⟨_, rfl⟩
      obtain ⟨es, ck, hmw, _⟩ := id HKN.out
      obtain ⟨es2, ck2, hmV, _⟩ := id HALL.out.2.1
      have hck : Ck V wu := hR.out.1.ck hmV
      have hSV := HSR.out.bm (Bm.of HALL.out.2.2.1) hmw
      have hSu := hSV.bm hR.out.1 hmV
      obtain ⟨⟨_, z0, z1, z2, z3, z4, z5, _⟩, _⟩ := HALL.out.2.2.2
      have p0 := hck.cell _ _ z0
      have p1 := hck.cell _ _ z1
      have p2 := hck.cell _ _ z2
      have p3 := hck.cell _ _ z3
      have p4 := hck.cell _ _ z4
      have p5 := hck.cell _ _ z5
      clear hck z0 z1 z2 z3 z4 z5 hmw hmV hp0
      by_cases hlt : c < N
      · obtain ⟨res, hmv⟩ : ∃ res, mv us (R[h]?.getD []) ss c = res := ⟨_, rfl⟩
        have TM := HT.out c wu hSu hlt
        rw [hmv] at TM
        have HSU := Lib.hid hSu
        have hc32 : (c : Int) < 32 := by omega
        clear hSu hSV
        cases res with
        | none =>
          have HN := Lib.hid (fun (w3 : World) (hb3 : Below wu.heap.size wu w3) => (show BN us R n mb V (w3.alloc (.cells #[.int .i64 0, .int .i64 0, .int .i64 0, .int .i64 0, .int .i64 0, .int .i64 0] 71)) (scan (val1 (mv us) (bsV us R n (h + 1)) (R[h]?.getD []) ss) (c + 1)) from by rw [scan_no (val1_no hmv)]; exact (hR.out.go (Bm.of hb3) (hR.out.2.1.bm hb3)).al _))
          have T := Lib.hid (show Calls Tryz.prog 40 #[.pointer (some ⟨gs, 0, none⟩), .agg #[.int .i64 (h : Int), .int .i64 s0, .int .i64 s1, .int .i64 s2, .int .i64 s3, .int .i64 s4], .int .i64 (c : Int)] wu fun e w' => e = .returned (.tuple #[.agg #[.int .i64 0, .int .i64 0, .int .i64 0, .int .i64 0, .int .i64 0, .int .i64 0], .int .i64 0, .bool false]) ∧ Below wu.heap.size wu w' from TM)
          clear TM hmv hR
          go_wp2_with fail
          refine T.out.mono ?_
          rintro e w3 ⟨rfl, hb3⟩
          have HN2 := Lib.hid (HN.out w3 hb3)
          have hnf : (!false) = true := rfl
          clear HN p0 p1 p2 p3 p4 p5 hb3 T
          go_wp2
          go_roundw
          case rel => exact ⟨c + 1, by omega, by go_num, HN2.out⟩
          case measure => simp [intOf]; omega
        | some rx =>
          obtain ⟨r, x⟩ := rx
          have nul : us.length = n := HSR.out.units.1
          have g12 := mv_ok HSR.out.ok (fun i hi => HPO.out.2 i (by omega)) hmv
          rw [nul] at g12
          have hx := (mv_bd (by omega) HSR.out.ok (fun c x => HSR.out.rb h c x) hmv).2
          have hx1 : -50000000000000 ≤ x := by omega
          have hx2 : x ≤ 50000000000000 := by omega
          obtain ⟨b, hbv⟩ : ∃ b, bsV us R n (h + 1) r = b := ⟨_, rfl⟩
          have T9 := Lib.hid (fun (w3 : World) (hb3 : Below wu.heap.size wu w3) => HIH.out r (w3.alloc (.cells (ptC ((h + 1 : Nat) : Int) r) 71)) ((HSU.out.bm2 hR.out.2.1 (Bm.of hb3)).bm2 (hR.out.2.1.bm hb3) (Bm.of ((Kp.refl w3).alloc _))) ((hR.out.2.1.bm hb3).bm ((Kp.refl w3).alloc _)) g12.1 g12.2)
          rw [hbv] at T9
          unfold ptV ptC at T9
          have HMV := Lib.hid (And.intro hmv hbv)
          have TM2 := (show Calls Tryz.prog 40 #[.pointer (some ⟨gs, 0, none⟩), .agg #[.int .i64 (h : Int), .int .i64 s0, .int .i64 s1, .int .i64 s2, .int .i64 s3, .int .i64 s4], .int .i64 (c : Int)] wu fun e w' => e = .returned (.tuple #[.agg #[.int .i64 ((h + 1 : Nat) : Int), .int .i64 (r[0]?.getD 0), .int .i64 (r[1]?.getD 0), .int .i64 (r[2]?.getD 0), .int .i64 (r[3]?.getD 0), .int .i64 (r[4]?.getD 0)], .int .i64 x, .bool true]) ∧ Below wu.heap.size wu w' from TM)
          generalize ((h + 1 : Nat) : Int) = h1 at T9 TM2
          generalize r[0]?.getD 0 = r0 at T9 TM2
          generalize r[1]?.getD 0 = r1 at T9 TM2
          generalize r[2]?.getD 0 = r2 at T9 TM2
          generalize r[3]?.getD 0 = r3 at T9 TM2
          generalize r[4]?.getD 0 = r4 at T9 TM2
          have T := Lib.hid TM2
          clear TM TM2 hmv hbv g12 hx
          go_wp2_with fail
          refine T.out.mono ?_
          rintro e w3 ⟨rfl, hb3⟩
          have HR9 := Lib.hid ((hR.out.go (Bm.of hb3) (hR.out.2.1.bm hb3)).al (.cells #[.int .i64 h1, .int .i64 r0, .int .i64 r1, .int .i64 r2, .int .i64 r3, .int .i64 r4] 71))
          have hnt : (!true) = false := rfl
          have hnf : (!false) = true := rfl
          clear p0 p1 p2 p3 p4 p5 T hR
          cases b with
          | none =>
            have T12 := Lib.hid (show Calls Tryz.prog 38 #[.pointer (some ⟨gs, 0, none⟩), .agg #[.int .i64 h1, .int .i64 r0, .int .i64 r1, .int .i64 r2, .int .i64 r3, .int .i64 r4]] (w3.alloc (.cells #[.int .i64 h1, .int .i64 r0, .int .i64 r1, .int .i64 r2, .int .i64 r3, .int .i64 r4] 71)) fun e w' => e = .returned (.agg #[.bool false, .int .i64 0, .int .i64 0]) ∧ Bm mb (w3.alloc (.cells #[.int .i64 h1, .int .i64 r0, .int .i64 r1, .int .i64 r2, .int .i64 r3, .int .i64 r4] 71)).heap.size (w3.alloc (.cells #[.int .i64 h1, .int .i64 r0, .int .i64 r1, .int .i64 r2, .int .i64 r3, .int .i64 r4] 71)) w' ∧ KnR (bsV us R n) n w' mb from T9.out w3 hb3)
            clear T9 hb3
            go_wp2_with fail
            refine T12.out.mono ?_
            rintro e w5 ⟨rfl, hb5, hk5⟩
            have HN2 := Lib.hid (show BN us R n mb V (w5.alloc (.cells #[.bool false, .int .i64 0, .int .i64 0] 73)) (scan (val1 (mv us) (bsV us R n (h + 1)) (R[h]?.getD []) ss) (c + 1)) from by rw [scan_no (val1_no2 HMV.out.1 HMV.out.2)]; exact (HR9.out.go hb5 hk5).al _)
            clear HR9 T12 hb5 hk5
            go_wp2
            go_roundw
            case rel => exact ⟨c + 1, by omega, by go_num, HN2.out⟩
            case measure => simp [intOf]; omega
          | some cv =>
            obtain ⟨c', v⟩ := cv
            have hv := bsV_bd (by omega) HSR.out.ok (by rw [HSR.out.sup.1]; exact HSR.out.m8) HSR.out.rb HMV.out.2
            have hv1 : -400000000000000 ≤ v := by omega
            have hv2 : v ≤ 400000000000000 := by omega
            have HSC := Lib.hid (scan_yes (val1_yes HMV.out.1 HMV.out.2))
            have T12 := Lib.hid (show Calls Tryz.prog 38 #[.pointer (some ⟨gs, 0, none⟩), .agg #[.int .i64 h1, .int .i64 r0, .int .i64 r1, .int .i64 r2, .int .i64 r3, .int .i64 r4]] (w3.alloc (.cells #[.int .i64 h1, .int .i64 r0, .int .i64 r1, .int .i64 r2, .int .i64 r3, .int .i64 r4] 71)) fun e w' => e = .returned (.agg #[.bool true, .int .i64 (c' : Int), .int .i64 v]) ∧ Bm mb (w3.alloc (.cells #[.int .i64 h1, .int .i64 r0, .int .i64 r1, .int .i64 r2, .int .i64 r3, .int .i64 r4] 71)).heap.size (w3.alloc (.cells #[.int .i64 h1, .int .i64 r0, .int .i64 r1, .int .i64 r2, .int .i64 r3, .int .i64 r4] 71)) w' ∧ KnR (bsV us R n) n w' mb from T9.out w3 hb3)
            clear T9 hb3 hv
            go_wp2_with fail
            refine T12.out.mono ?_
            rintro e w5 ⟨rfl, hb5, hk5⟩
            have HR5 := Lib.hid (HR9.out.go hb5 hk5)
            have HR6 := Lib.hid (HR5.out.al (.cells #[.bool true, .int .i64 (c' : Int), .int .i64 v] 73))
            clear HR9 T12 hb5 hk5
            have hg6 : V.heap.size < w5.heap.size := HR5.out.2.2.lt
            obtain ⟨so, hso⟩ : ∃ so, scan (val1 (mv us) (bsV us R n (h + 1)) (R[h]?.getD []) ss) c = so := ⟨_, rfl⟩
            rw [hso] at HR5 HR6 HSC
            clear hso
            cases so with
            | none =>
              obtain ⟨y0, y1, y2, y3, y4, y5⟩ := Blk.three (show Blk w5 V.heap.size 73 #[.bool false, .int .i64 0, .int .i64 0] from HR5.out.2.2)
              obtain ⟨x0, x1, x2, x3, x4, x5⟩ := Blk.three (show Blk (w5.alloc (.cells #[.bool true, .int .i64 (c' : Int), .int .i64 v] 73)) V.heap.size 73 #[.bool false, .int .i64 0, .int .i64 0] from HR6.out.2.2)
              have HNa := Lib.hid (show BN us R n mb V (st3 (w5.alloc (.cells #[.bool true, .int .i64 (c' : Int), .int .i64 v] 73)) V.heap.size (.bool true) (.int .i64 (c : Int)) (.int .i64 (x + v))) (scan (val1 (mv us) (bsV us R n (h + 1)) (R[h]?.getD []) ss) (c + 1)) from by rw [HSC.out]; exact HR6.out.set _ _ _ (some (c, x + v)) rfl)
              have HNb := Lib.hid (show BN us R n mb V ((st3 w5 V.heap.size (.bool true) (.int .i64 (c : Int)) (.int .i64 (x + v))).alloc (.cells #[.bool true, .int .i64 (c' : Int), .int .i64 v] 73)) (scan (val1 (mv us) (bsV us R n (h + 1)) (R[h]?.getD []) ss) (c + 1)) from by rw [HSC.out]; exact (HR5.out.set _ _ _ (some (c, x + v)) rfl).al _)
              clear HR5 HR6 HSC
              go_wp2
              go_roundw
              case rel => exact ⟨c + 1, by omega, by go_num, by first | exact HNa.out | exact HNb.out⟩
              case measure => simp [intOf]; omega
            | some cy =>
              obtain ⟨c0, y⟩ := cy
              obtain ⟨y0, y1, y2, y3, y4, y5⟩ := Blk.three (show Blk w5 V.heap.size 73 #[.bool true, .int .i64 (c0 : Int), .int .i64 y] from HR5.out.2.2)
              obtain ⟨x0, x1, x2, x3, x4, x5⟩ := Blk.three (show Blk (w5.alloc (.cells #[.bool true, .int .i64 (c' : Int), .int .i64 v] 73)) V.heap.size 73 #[.bool true, .int .i64 (c0 : Int), .int .i64 y] from HR6.out.2.2)
              by_cases hxy : x + v < y
              · have HNa := Lib.hid (show BN us R n mb V (st3 (w5.alloc (.cells #[.bool true, .int .i64 (c' : Int), .int .i64 v] 73)) V.heap.size (.bool true) (.int .i64 (c : Int)) (.int .i64 (x + v))) (scan (val1 (mv us) (bsV us R n (h + 1)) (R[h]?.getD []) ss) (c + 1)) from by rw [HSC.out]; simp only [if_pos hxy]; exact HR6.out.set _ _ _ (some (c, x + v)) rfl)
                have HNb := Lib.hid (show BN us R n mb V ((st3 w5 V.heap.size (.bool true) (.int .i64 (c : Int)) (.int .i64 (x + v))).alloc (.cells #[.bool true, .int .i64 (c' : Int), .int .i64 v] 73)) (scan (val1 (mv us) (bsV us R n (h + 1)) (R[h]?.getD []) ss) (c + 1)) from by rw [HSC.out]; simp only [if_pos hxy]; exact (HR5.out.set _ _ _ (some (c, x + v)) rfl).al _)
                clear HR5 HR6 HSC
                go_wp2
                go_roundw
                case rel => exact ⟨c + 1, by omega, by go_num, by first | exact HNa.out | exact HNb.out⟩
                case measure => simp [intOf]; omega
              · have HNa := Lib.hid (show BN us R n mb V (w5.alloc (.cells #[.bool true, .int .i64 (c' : Int), .int .i64 v] 73)) (scan (val1 (mv us) (bsV us R n (h + 1)) (R[h]?.getD []) ss) (c + 1)) from by rw [HSC.out]; simp only [if_neg hxy]; exact HR6.out)
                clear HR5 HR6 HSC
                go_wp2
                go_roundw
                case rel => exact ⟨c + 1, by omega, by go_num, HNa.out⟩
                case measure => simp [intOf]; omega
      · obtain rfl : N = c := by omega
        have hEND : BN us R n mb V wu o := by rw [HV.out]; exact hR.out
        have hb7 : Blk wu V.heap.size 73 #[.bool o.isSome, .int .i64 (((o.getD (0, 0)).1 : Nat) : Int), .int .i64 (o.getD (0, 0)).2] := hEND.2.2
        have HOE := Lib.hid (show outV o = .agg #[.bool o.isSome, .int .i64 (((o.getD (0, 0)).1 : Nat) : Int), .int .i64 (o.getD (0, 0)).2] from rfl)
        have q0 : wu.cell? ⟨gs, 263, none⟩ = some (.map (some mb)) := by
          obtain ⟨cs, h1, h2⟩ := hSu.blk
          exact (h1.cell 263).trans h2.known
        obtain ⟨es3, ck3, hmV2, _⟩ := id HALL.out.2.1
        have hb4 : Blk wu (w.heap.size + 1) 73 #[.bool false, .int .i64 0, .int .i64 0] := hEND.1.blk hmV2 HALL.out.1
        obtain ⟨w8, u1, u2, u3, u4, u5, u6, u7⟩ := HPUT.out wu.drew (hEND.2.1.bm (Kp.drew (Kp.refl wu)))
        have hVz : w.heap.size ≤ V.heap.size := HALL.out.2.2.1.size
        have hmbw := HLT.out
        have hb7' : Blk w8 V.heap.size 73 #[.bool o.isSome, .int .i64 (((o.getD (0, 0)).1 : Nat) : Int), .int .i64 (o.getD (0, 0)).2] := (u7 V.heap.size (by omega)).trans hb7.drew
        have hb4' : Blk w8 (w.heap.size + 1) 73 #[.bool false, .int .i64 0, .int .i64 0] := (u7 (w.heap.size + 1) (by omega)).trans hb4.drew
        have hbm8 : Bm mb w.heap.size w w8 := ((Bm.of HALL.out.2.2.1).trans (hEND.1.mono hVz)).drew.trans ⟨u3, u4, u5, Nat.le_of_eq u6.symm, fun k _ hm => u7 k hm⟩
        generalize o.isSome = oa at *
        generalize (((o.getD (0, 0)).1 : Nat) : Int) = oc at *
        generalize (o.getD (0, 0)).2 = ox at *
        obtain ⟨y0, y1, y2, _, _, _⟩ := Blk.three hb7
        have HF := Lib.hid (show Bm mb w.heap.size w (st3 w8 (w.heap.size + 1) (.bool oa) (.int .i64 oc) (.int .i64 ox)) ∧ KnR (bsV us R n) n (st3 w8 (w.heap.size + 1) (.bool oa) (.int .i64 oc) (.int .i64 ox)) mb from ⟨bm_set3 hbm8 (by omega) _ _ _, knr_set3 u2 (by omega) _ _ _⟩)
        have HB47 := Lib.hid (And.intro hb4' hb7')
        clear hSu hSV hR hEND hb7 hb4 hmV2 u2 u3 u4 u5 u6 u7 hb4' hb7' hbm8
        go_wp2_with fail
        go_region
        obtain ⟨b4', b7'⟩ := id HB47.out
        obtain ⟨d0, d1, d2, _, _, _⟩ := (Blk.set3 b4' (a := .bool oa) (b := .int .i64 oc) (c := .int .i64 ox)).three
        obtain ⟨b0, b1, b2, b3, b4, b5⟩ := Blk.three b4'
        obtain ⟨x0, x1, x2, _, _, _⟩ := Blk.three b7'
        clear b4' b7' y0 y1 y2 p0 p1 p2 p3 p4 p5 q0 u1 HB47
        go_wp2
        refine bodyPost_ret (v := .agg #[.bool oa, .int .i64 oc, .int .i64 ox]) ?_ rfl ⟨by rw [HOE.out], HF.out.1, HF.out.2⟩
        unfold st3 at d0 d1 d2
        simp [results, Tryz.results38, go_sem, d0, d1, d2])

end Go.Proofs.YtdoeejcmaeefcaaGreat

namespace Go.Proofs.YtdoeejcmaeefcaaGreat
set_option linter.unusedVariables false
set_option linter.unusedSimpArgs false
open Go.RowKit
open Wd
open Cm

theorem best_raw (us : List Un) (R : List Row) (gs : Nat) (A : Option Addr) (n cu m : Nat) (As : Option Addr) (ca mb : Nat) : ∀ (d h : Nat), h + d = m → ∀ (ss : List Int) (w : World), SrAt us R gs A n cu m As ca mb w → KnR (bsV us R n) n w mb → PtOk n ss → (∀ i, i < n → StOk (us[i]?.getD U0) (ss[i]?.getD 0)) →
    Calls Tryz.prog 38 #[.pointer (some ⟨gs, 0, none⟩), ptV (h : Int) ss] w fun e w' => e = .returned (outV (bsV us R n h ss)) ∧ Bm mb w.heap.size w w' ∧ KnR (bsV us R n) n w' mb
  | 0, h, hd, ss, w, hS, hk, hp, hst => by
    obtain rfl : h = m := by omega
    exact best_end us R gs A n cu h As ca mb ss w hS hk
  | d + 1, h, hd, ss, w, hS, hk, hp, hst => by
    have hm := hS.m8
    rcases hk.look2 hS.n5 (show h ≤ 1000 by omega) hp with hl | hl
    · exact best_known us R gs A n cu m As ca mb h ss w hS hk (by omega) hl
    · exact best_new us R gs A n cu m As ca mb h ss w hS hk (by omega) hp hst (fun r W h1 h2 h3 h4 => best_raw us R gs A n cu m As ca mb d (h + 1) (by omega) r W h1 h2 h3 h4) hl

end Go.Proofs.YtdoeejcmaeefcaaGreat
