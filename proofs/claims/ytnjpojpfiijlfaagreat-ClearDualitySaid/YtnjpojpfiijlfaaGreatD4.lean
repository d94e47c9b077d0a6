/-
turned of pylonlaw25: all prices negated. No statement of the seat is proved here; no conditions beyond those of each theorem.
-/
import Derived.Test.YtnjpojpfiijlfaaGreatD2
import Derived.Test.YtnjpojpfiijlfaaGreatD3
namespace Go.Proofs.YtnjpojpfiijlfaaGreat
set_option linter.unusedVariables false
set_option linter.unusedSimpArgs false
open Go.RowKit
open Wd

/-- While the negated curves are joined. -/
def TuR (w : World) (ls : List (List (Int × Int))) (i : Nat) (gs : List Nat) (B : Option Addr) (cb : Nat) (wr : World) : Prop :=
  Below w.heap.size w wr ∧ gs.length = i ∧ Own w.heap.size 29 1 wr B i cb ((gs.zipIdx.map fun x => ((some (⟨x.1, 0, none⟩ : Addr), (ls[x.2]?.getD []).length, (ls[x.2]?.getD []).length) : Option Addr × Nat × Nat)).map slv) ∧ ∀ j, j < i → SRow wr (gs[j]?.getD 0) (negL (ls[j]?.getD []))

theorem zip_snoc {β : Type} (f : Nat × Nat → β) (gs : List Nat) (g : Nat) : (gs ++ [g]).zipIdx.map f = gs.zipIdx.map f ++ [f (g, gs.length)] := by
  rw [List.zipIdx_append, List.map_append]
  simp
theorem SRow.side {base size : Nat} {w w' : World} {A : Option Addr} {n c : Nat} {xs : List Value} {g : Nat} {l : List (Int × Int)} (h : SRow w g l) (hO : Own base 29 size w A n c xs) (hk : Kept w w' A) : SRow w' g l := by
  obtain ⟨cs, hb, hc⟩ := h
  exact ⟨cs, Kept.side hO hb (by decide) hk, hc⟩

set_option maxRecDepth 100000 in
set_option maxHeartbeats 8000000 in
theorem turned_any (A : Option Addr) (n c : Nat) (ls : List (List (Int × Int))) (w : World) (h : CsAt w A n ls) (hn : n ≤ 6) (hl : ∀ l ∈ ls, l.length ≤ 3) (hb : ∀ l ∈ ls, ∀ s ∈ l, ¬ Bad s.1 s.2) :
    Calls Tryz.prog 67 #[.slice A n c] w fun e w' => ∃ B cb, e = .returned (.slice B n cb) ∧ CsAt w' B n (negs ls) ∧ Below w.heap.size w w' := by
  have HX := Lib.hid h
  have HLN := Lib.hid h.1
  have HL := Lib.hid hl
  have HB := Lib.hid hb
  obtain ⟨ii, hii, hz0, hz1, hz2⟩ := info_parts info_steps
  have HI := Lib.hid hii
  have HZ0 := Lib.hid hz0
  have HZ1 := Lib.hid hz1
  have HZ2 := Lib.hid hz2
  clear h hl hb hii hz0 hz1 hz2
  go_enter Tryz.func67, Tryz.ntmps67
  go_wp2_with fail
  go_loopw [3, 4] (fun t3 t4 wr => ∃ (i : Nat) (B : Option Addr) (cb : Nat), i ≤ n ∧ t4 = .int .i64 i ∧ t3 = .slice B i cb ∧ Hid (∃ gs, TuR w ls i gs B cb wr)) (fun _ t _ => n - (intOf t).toNat)
  case atStart => exact ⟨0, none, 0, Nat.zero_le _, rfl, rfl, [], Below.refl _ _, rfl, Own.nil _ _ _ _, fun j hj => absurd hj (by omega)⟩
  case round =>
    obtain ⟨i, B, cb, hi, rfl, rfl, hR⟩ := hrel
    by_cases hlt : i < n
    · obtain ⟨gs, hBW, hgl, hO, hs⟩ := hR.out
      obtain ⟨b, o, rfl, hbs, hc⟩ := HX.out.2 (by omega)
      obtain ⟨A', n', c', y0, y1⟩ := hc i hlt
      have hkl : i < ls.length := by rw [HLN.out]; exact hlt
      have hm := getD_mem (d := ([] : List (Int × Int))) hkl
      have hll := HL.out _ hm
      have hbb := HB.out _ hm
      have y0' := y0
      replace y0 := (hBW.cell (p := ⟨b, o + i, none⟩) hbs).trans y0
      replace y1 := y1.below hBW
      have hnl := y1.1
      have HNG := Lib.hid (fun W (hW : Kp wr W) => negate_any A' n' c' _ W (y1.below (Below.mono hW (Nat.le_refl _))) (by omega) hbb)
      have HR := Lib.hid (And.intro hBW (And.intro hgl (And.intro hO (And.intro hs hnl))))
      have i1 : (0 : Int) ≤ (i : Int) := by omega
      have i2 : (i : Int) < (n : Int) := by omega
      have hS : ∀ w', Below w.heap.size w w' → w'.cell? ⟨b, o + i, none⟩ = some (.slice A' n' c') ∧ Below w.heap.size w w' := fun w' hk => ⟨(hk.cell (p := ⟨b, _, none⟩) hbs).trans y0', hk⟩
      have HS := Lib.hid hS
      have q0 := hBW
      have k0 := Kp.refl wr
      clear hR hBW hgl hO hs hc hkl hm hbb y1 hll hnl hS y0'
      go_wp2_with fail
      refine (HNG.out wr k0).mono ?_
      rintro e w1 ⟨g, rfl, hS1, hg1, hb1⟩
      have k1 : Kp wr w1 := hb1
      have g1 : Below w.heap.size w w1 := q0.trans (Below.mono k1 q0.size)
      have a2 : Kp w1 (w1.alloc (.cells #[.slice (some ⟨g, 0, none⟩) n' n'] 29)) := (Kp.refl w1).alloc _
      have g2 : Below w.heap.size w (w1.alloc (.cells #[.slice (some ⟨g, 0, none⟩) n' n'] 29)) := g1.trans (Below.mono a2 g1.size)
      have o2 := (HR.out.2.2.1.keep k1).keep a2
      have m2 := Blk.new w1 29 #[.slice (some ⟨g, 0, none⟩) n' n']
      clear hb1
      go_wp2_with (first
        | (at_builtin; refine wpList_append_my rfl (base := w.heap.size) (e := 29) (size := 1) (bytes := 24) (.tmp 11) (.tmp 17) 22 rfl Tryz.underlying22 HI.out HZ0.out HZ1.out HZ2.out rfl (by decide) (news := [.slice (some ⟨g, 0, none⟩) n' n']) rfl (by exact o2) rfl (by exact Blk.src m2 rfl (slv_one (some ⟨g, 0, none⟩, n', n'))) (by simp only [maxLen]; omega) (by omega) (by exact g2.size) ?_
           intro B2 cb2 w2 hO2 hb2 hk2
           have g3 : Below w.heap.size w w2 := Below.trans (by exact g2) hb2
           have hk2' : Kept (w1.alloc (.cells #[.slice (some ⟨g, 0, none⟩) n' n'] 29)) w2 B := hk2
           clear hb2 hk2))
      have hfin : TuR w ls (i + 1) (gs ++ [g]) B2 cb2 w2 := by
        obtain ⟨_, hgl, hO, hs, hnl⟩ := HR.out
        refine ⟨g3, by simp; exact hgl, ?_, fun j hj => ?_⟩
        · rw [zip_snoc, List.map_append, hgl]
          simp only [List.map_cons, List.map_nil, hnl]
          exact hO2
        · by_cases hji : j = i
          · subst hji
            rw [← hgl]
            simp only [List.getElem?_append_right (Nat.le_refl _), Nat.sub_self, List.getElem?_cons_zero, Option.getD_some]
            rw [hgl]
            exact (hS1.keep a2).side o2 hk2'
          · rw [List.getElem?_append_left (by omega)]
            exact (((hs j (by omega)).keep k1).keep a2).side o2 hk2'
      have HF := Lib.hid hfin
      clear hfin g3 hO2 hk2' o2 m2 g2 a2 k1 g1
      go_wp2
      go_roundw
      case rel => exact ⟨i + 1, B2, cb2, by omega, by go_num, rfl, _, HF.out⟩
      case measure => simp [intOf]; omega
    · obtain rfl : i = n := by omega
      obtain ⟨gs, hB, hgl, hO, hs⟩ := hR.out
      have hfin : CsAt wr B i (negs ls) := by
        refine hO.css (by simp [negs]; exact HLN.out) fun j hj => ?_
        have hjl : j < ls.length := by rw [HLN.out]; exact hj
        have e1 : (negs ls)[j]?.getD [] = negL (ls[j]?.getD []) := by
          unfold negs
          rw [List.getElem?_map, List.getElem?_eq_getElem hjl]
          rfl
        have e2 : (gs.zipIdx.map fun x => ((some (⟨x.1, 0, none⟩ : Addr), (ls[x.2]?.getD []).length, (ls[x.2]?.getD []).length) : Option Addr × Nat × Nat))[j]?.getD (none, 0, 0) = (some ⟨gs[j]?.getD 0, 0, none⟩, (ls[j]?.getD []).length, (ls[j]?.getD []).length) := by
          rw [List.getElem?_map, List.getElem?_zipIdx, List.getElem?_eq_getElem (by omega)]
          simp
        rw [e1, e2]
        have := (hs j hj).st (negL_fits (HB.out _ (getD_mem hjl)))
        rw [negL_len] at this
        exact this
      have HF := Lib.hid (And.intro hfin hB)
      clear hR hB hO hs hfin
      go_wp2
      go_ret
      exact ⟨B, cb, rfl, HF.out⟩

end Go.Proofs.YtnjpojpfiijlfaaGreat
