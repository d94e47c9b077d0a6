/-
The statements of layer 25: Long, may; plain law of rotated offers and bids. No statement of the seat is proved here; no conditions beyond those of each theorem.
-/
import Derived.Test.YtnjpojpfiijlfaaGreatC9
namespace Go.Proofs.YtnjpojpfiijlfaaGreat
set_option linter.unusedVariables false
set_option linter.unusedSimpArgs false
open Go.RowKit
open Wd

set_option maxRecDepth 100000 in
set_option maxHeartbeats 2000000 in
theorem long25_any (A B : Option Addr) (n c m d : Nat) (os bs : List (List (Int × Int))) (w : World) (h : CsAt w A n os) (h' : CsAt w B m bs) :
    Calls Tryz.prog 58 #[.slice A n c, .slice B m d] w fun e w' => e = .returned (.bool (longC os || longC bs)) ∧ Below w.heap.size w w' := by
  have H1 := Lib.hid (long24_any A n c os w h)
  have H2 := Lib.hid (fun W (hW : Below w.heap.size w W) => long24_any B m d bs W (h'.below hW))
  clear h h'
  generalize longC os = x at *
  generalize longC bs = y at *
  go_enter Tryz.func58, Tryz.ntmps58
  go_wp2_with fail
  refine H1.out.mono ?_
  rintro e w1 ⟨rfl, hb1⟩
  have HB1 := Lib.hid hb1
  clear hb1
  cases x
  · go_wp2_with fail
    refine (H2.out w1 HB1.out).mono ?_
    rintro e w2 ⟨rfl, hb2⟩
    have HB2 := Lib.hid (HB1.out.trans (hb2.mono HB1.out.size))
    clear hb2
    go_wp2
    go_ret
    exact ⟨rfl, HB2.out⟩
  · go_wp2
    go_ret
    exact ⟨rfl, HB1.out⟩

set_option maxRecDepth 100000 in
set_option maxHeartbeats 2000000 in
theorem may_any (A B : Option Addr) (n c m d : Nat) (os bs : List (List (Int × Int))) (w : World) (h : CsAt w A n os) (h' : CsAt w B m bs) (hs : ∀ l ∈ os, l.length ≤ 1000000000000) (ht : ∀ l ∈ bs, l.length ≤ 1000000000000) :
    Calls Tryz.prog 64 #[.slice A n c, .slice B m d] w fun e w' => e = .returned (.bool (decide (ckB os bs = 0))) ∧ Below w.heap.size w w' := by
  by_cases hc : ckB os bs = 0
  · rw [decide_eq_true hc]
    have HR := Lib.hid (run_ok A B n c m d os bs w h h' hc)
    clear h h' hs ht hc
    go_enter Tryz.func64, Tryz.ntmps64
    go_wp2_with fail
    refine HR.out.mono ?_
    rintro e w1 ⟨z, p, wf, xs, ys, S, D, g1, g2, rfl, -, -, -, -, -, hb1⟩
    have HB1 := Lib.hid (hb1.alloc hb1.size (.cells #[.int .i64 z, .int .i64 p, .int .i64 wf, .slice (some ⟨g1, 0, none⟩) os.length os.length, .slice (some ⟨g2, 0, none⟩) bs.length bs.length] 92))
    clear hb1 HR
    go_wp2
    go_ret
    exact ⟨rfl, HB1.out⟩
  · rw [decide_eq_false hc]
    have HR := Lib.hid (run_no A B n c m d os bs w h h' hs ht hc)
    generalize ckB os bs = x at *
    have dx : (x == 0) = false := beq_false_of_ne hc
    clear h h' hs ht hc
    go_enter Tryz.func64, Tryz.ntmps64
    go_wp2_with fail
    refine HR.out.mono ?_
    rintro e w1 ⟨rfl, hb1⟩
    have HB1 := Lib.hid (hb1.alloc hb1.size (.cells #[.int .i64 0, .int .i64 0, .int .i64 0, .slice none 0 0, .slice none 0 0] 92))
    clear hb1 HR
    go_wp2
    go_ret
    exact ⟨rfl, HB1.out⟩

theorem uP_same : ∀ {lv lv' : List St.Lv}, lvQ lv = lvQ lv' → ∀ u, uP lv u = uP lv' u
  | [], [], _, _ => rfl
  | [], _ :: _, h, _ => by simp [lvQ] at h
  | _ :: _, [], h, _ => by simp [lvQ] at h
  | x :: r, y :: r', h, u => by
    simp only [lvQ, List.map_cons, List.cons.injEq, Prod.mk.injEq] at h
    rw [uP, uP, h.1.1, h.1.2, uP_same (lv := r) (lv' := r') h.2]
theorem TrZ_same {S D S' D' : List St.Lv} {z : Int} (h1 : lvQ S = lvQ S') (h2 : lvQ D = lvQ D') (h : TrZ S D z) : TrZ S' D' z := by
  have e : ∀ u, okU S D u ↔ okU S' D' u := fun u => by unfold okU; rw [uP_same h1, uP_same h2]
  exact ⟨h.1, fun u h0 h9 => (e u).1 (h.2.1 u h0 h9), fun h9 => h.2.2 ((e z).2 h9)⟩
theorem rotL_mod_len {α : Type} (q : Nat) (l : List α) : (rotL (q % l.length) l).length = l.length := by
  by_cases h : l.length = 0
  · have : l = [] := List.eq_nil_of_length_eq_zero h
    subst this
    simp [rotL]
  · exact rotL_len _ _ (Nat.le_of_lt (Nat.mod_lt _ (by omega)))
theorem rot_lvQ {up : Bool} {q : Nat} {ls : List (List (Int × Int))} {lv lv' : List St.Lv} (h : St.IsLv up ls.length (St.tri 0 ls) lv) (h' : St.IsLv up (rotL (q % ls.length) ls).length (St.tri 0 (rotL (q % ls.length) ls)) lv') : lvQ lv = lvQ lv' := by
  rw [rotL_mod_len] at h'
  by_cases h0 : ls.length = 0
  · have : ls = [] := List.eq_nil_of_length_eq_zero h0
    subst this
    have e : rotL (q % ([] : List (List (Int × Int))).length) ([] : List (List (Int × Int))) = [] := by simp [rotL]
    rw [e] at h'
    rw [h.only h']
  · obtain ⟨e, hi⟩ := St.rot_levels rfl (Nat.le_of_lt (Nat.mod_lt q (by omega))) h h'
    apply List.ext_getElem (by simp [lvQ, e])
    intro i h1 h2
    have hl : i < lv.length := by simpa [lvQ] using h1
    obtain ⟨a, b, _⟩ := hi i hl
    rw [List.getElem?_eq_getElem hl, List.getElem?_eq_getElem (by omega)] at a b
    simp only [Option.getD_some] at a b
    simp only [lvQ, List.getElem_map, a, b]
theorem bal_rot (os bs : List (List (Int × Int))) (i j : Nat) (q : Rat) : balB (rotL i os) (rotL j bs) q = balB os bs q := by
  unfold balB wsL wsM
  rw [rotL_map, rotL_map, rotL_map, rotL_map, rotL_sum, rotL_sum, rotL_sum, rotL_sum]
theorem dists_rot {os bs : List (List (Int × Int))} {i j : Nat} {d : Int} : d ∈ dists (rotL i os) (rotL j bs) ↔ d ∈ dists os bs := by
  have e : ∀ (k : Nat) (ls : List (List (Int × Int))), d ∈ absS (rotL k ls) ↔ d ∈ absS ls := fun k ls => by
    unfold absS
    rw [List.mem_flatMap, List.mem_flatMap]
    exact ⟨fun ⟨l, hl, h⟩ => ⟨l, rotL_mem.1 hl, h⟩, fun ⟨l, hl, h⟩ => ⟨l, rotL_mem.2 hl, h⟩⟩
  unfold dists
  rw [List.mem_cons, List.mem_cons, List.mem_append, List.mem_append, e, e]
theorem PrZ_rot {os bs : List (List (Int × Int))} {i j : Nat} {p : Int} (h : PrZ (rotL i os) (rotL j bs) p) : PrZ os bs p := by
  unfold PrZ at *
  simp only [bal_rot, dists_rot] at h
  exact h
theorem run_rot {os bs : List (List (Int × Int))} {i j : Nat} {z p wf z' p' wf' : Int} {xs ys xs' ys' : List Int} {S D S' D' : List St.Lv} (h : RunV os bs z p wf xs ys S D) (h' : RunV (rotL (i % os.length) os) (rotL (j % bs.length) bs) z' p' wf' xs' ys' S' D') : z = z' ∧ p = p' ∧ wf = wf' := by
  have e1 := rot_lvQ h.isS h'.isS
  have e2 := rot_lvQ h.isD h'.isD
  have hz := (TrZ_same e1 e2 h.tr).only h'.tr
  subst hz
  have l1 : S.length = S'.length := by have := congrArg List.length e1; simpa [lvQ] using this
  have l2 : D.length = D'.length := by have := congrArg List.length e2; simpa [lvQ] using this
  exact ⟨rfl, h.pr.only (PrZ_rot h'.pr), by rw [h.w, h'.w, e1, e2, l1, l2]⟩
theorem ckB_rot {os bs : List (List (Int × Int))} (i j : Nat) (h : ckB os bs = 0) : ckB (rotL (i % os.length) os) (rotL (j % bs.length) bs) = 0 := by
  obtain ⟨h1, h2, h3, h4⟩ := ckB_iff.1 h
  exact ckB_iff.2 ⟨by rw [rotL_mod_len]; exact h1, by rw [rotL_mod_len]; exact h2, fun l hl => h3 l (rotL_mem.1 hl), fun l hl => h4 l (rotL_mem.1 hl)⟩
theorem CsAt.cellsF {w : World} {A : Option Addr} {n : Nat} {ls : List (List (Int × Int))} (h : CsAt w A n ls) :
    ∃ (F : Nat → Option Addr × Nat × Nat), ∀ j, j < n → (∃ b o, A = some ⟨b, o, none⟩ ∧ b < w.heap.size ∧ ∀ i, i < n → w.cell? ⟨b, o + i, none⟩ = some (.slice (F i).1 (F i).2.1 (F i).2.2)) ∧ StAt w (F j).1 (F j).2.1 (ls[j]?.getD []) := by
  by_cases hn : n = 0
  · exact ⟨fun _ => (none, 0, 0), fun j hj => by omega⟩
  · obtain ⟨b, o, F, rfl, hb, hF⟩ := h.cells hn
    exact ⟨F, fun j hj => ⟨⟨b, o, rfl, hb, fun i hi => (hF i hi).1⟩, (hF j hj).2⟩⟩

end Go.Proofs.YtnjpojpfiijlfaaGreat
