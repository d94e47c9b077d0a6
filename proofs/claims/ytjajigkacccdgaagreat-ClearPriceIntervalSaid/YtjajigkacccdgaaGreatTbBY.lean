/-
The walk of ClearPriceInterval, joined. From the arguments of a statement to what the walks ask of memory; arguments read as before. A rational among the arguments of a statement. No statement of the seat is proved here; no conditions beyond those of each theorem.
-/
import Derived.Test.YtjajigkacccdgaaGreatTbBX
import Derived.Test.YtjajigkacccdgaaGreatRows
import Derived.Test.YtjajigkacccdgaaGreatTbBD
import Derived.WalkKit
import Derived.ProofKit
import Derived.OpenShut
import Derived.Carry
import Derived.WideKeyArgs
import Derived.Deep.Slices
import Derived.Test.YtjajigkacccdgaaGreatTbBM
namespace Go.Proofs.YtjajigkacccdgaaGreat
set_option linter.unusedVariables false
set_option linter.unusedSimpArgs false
open Go.RowKit
open Wd

set_option maxRecDepth 100000 in
set_option maxHeartbeats 4000000 in
theorem pint_any (A B : Option Addr) (n c m d : Nat) (os bs : List (List (Int × Int))) (an an' bn bn' : Bool) (pA pB qA qB : Option Addr) (pk pc pj pd qk qc qj qd part : Nat) (w : World) (h : CsAt w A n os) (h' : CsAt w B m bs) (hp : QRaw w pA pk pc pB pj pd) (hq : QRaw w qA qk qc qB qj qd) (hpt : part ≤ 255) : Calls Tryz.prog 8 #[.slice A n c, .slice B m d, .agg #[.bool an, .slice pA pk pc, .bool an', .slice pB pj pd], .agg #[.bool bn, .slice qA qk qc, .bool bn', .slice qB qj qd], .int .u8 (part : Int)] w fun e w' => e = .returned (.bool true) ∧ Below w.heap.size w w' := by
 by_cases hlg : (longC os || longC bs) = true
 ·have HAW := Lib.hid (fun W => awake25_any W)
  have HL := Lib.hid (fun W (hW : Below w.heap.size w W) => long25_any A B n c m d os bs W (h.below hW) (h'.below hW))
  rw [hlg] at HL
  clear h h' hp hq hlg hpt
  go_enter Tryz.func8, Tryz.ntmps8
  go_wp2_with fail
  obtain ⟨hB0, hB1, hBW, hsz⟩ := pre2 w 42 #[.bool an, .slice pA pk pc, .bool an', .slice pB pj pd] 42 #[.bool bn, .slice qA qk qc, .bool bn', .slice qB qj qd]
  generalize (w.alloc (.cells #[.bool an, .slice pA pk pc, .bool an', .slice pB pj pd] 42)).alloc (.cells #[.bool bn, .slice qA qk qc, .bool bn', .slice qB qj qd] 42) = W at *
  have HSZ := Lib.hid hsz
  clear hsz

  refine (HL.out W hBW).mono ?_
  rintro e w1 ⟨rfl, hb1⟩
  obtain ⟨f0, f1, f2, f3, -, -, -, -⟩ := (hB0.below hb1 hB0.lt).four
  obtain ⟨g0, g1, g2, g3, -, -, -, -⟩ := (hB1.below hb1 hB1.lt).four
  have HB1 := Lib.hid (hBW.trans (hb1.mono hBW.size))
  have HBX := Lib.hid (And.intro (hB0.below hb1 hB0.lt) (hB1.below hb1 hB1.lt))
  clear hb1 HL hB0 hB1 hBW HSZ
  go_wp2_with fail
  refine (HAW.out _).mono ?_
  rintro e wz ⟨rfl, hbz⟩
  have HBZ := Lib.hid (HB1.out.trans (hbz.mono HB1.out.size))
  clear hbz
  go_wp2
  go_ret
  exact ⟨rfl, HBZ.out⟩
 ·rw [Bool.not_eq_true] at hlg
  obtain ⟨l1, l2⟩ : longC os = false ∧ longC bs = false := by simpa using hlg
  have hs := longC_small l1
  have ht := longC_small l2
  by_cases hbq : [(an, (pA, pk, pc), an', (pB, pj, pd)), (bn, (qA, qk, qc), bn', (qB, qj, qd))].any bigQ = true
  ·exact pint_short A B n c m d os bs an an' bn bn' pA pB qA qB pk pc pj pd qk qc qj qd part w h h' hs ht hp hq hpt (.inr (.inl hbq))
  ·rw [Bool.not_eq_true] at hbq
   by_cases hc : ckB os bs = 0
   ·exact pint_yes A B n c m d os bs an an' bn bn' pA pB qA qB pk pc pj pd qk qc qj qd part w h h' hs ht hp hq hpt hlg hbq hc
   ·exact pint_short A B n c m d os bs an an' bn bn' pA pB qA qB pk pc pj pd qk qc qj qd part w h h' hs ht hp hq hpt (.inr (.inr hc))

end Go.Proofs.YtjajigkacccdgaaGreat

namespace Go.Proofs.YtjajigkacccdgaaGreat
set_option linter.unusedVariables false
set_option linter.unusedSimpArgs false
open Go.ChangeShapes Go.WideShapes Go.ChangeAt Go.RowKit Go.Deep
open Wd

theorem own : ownKnob Tryz.prog.godebug = none := by kernel_rfl
theorem laidOut : laidOutB Tryz.prog = true := by kernel_rfl
theorem cells_int64 : Tryz.prog.cellsOf 2 = 1 := by kernel_rfl


theorem cells_steps : Tryz.prog.cellsOf 29 = 1 := by kernel_rfl
theorem cells_step : Tryz.prog.cellsOf 107 = 2 := by kernel_rfl

theorem fits_of {z : Int} (h : (Lit.int .i64 z).wf = true) : Fits z := by
 simp [Lit.wf, IntKind.min, IntKind.max, IntKind.signed, IntKind.bits] at h
 unfold Fits
 omega
theorem drop_one {α : Type} {l : List α} {o : Nat} {v : α} (h : (l.drop o).take 1 = [v]) : l[o]? = some v := by
 have h0 : ((l.drop o).take 1)[0]? = some v := by rw [h]; rfl
 simpa using h0

theorem addr_plus (b o k : Nat) : (⟨b, o, none⟩ : Addr).add k = ⟨b, o + k, none⟩ := by
 unfold Addr.add
 split
 ·rename_i h; rw [h]; rfl
 ·rfl

section
variable {H : Type} {enc : TypeId × Value → H} {W : World}

theorem plain_addr {a : Addr} {v : Value} (h : W.cell? a = some v) : a = ⟨a.block, a.off, none⟩ ∧ a.block < W.heap.size := by
 have h1 := World.cell?_spot h
 have h2 := World.block_lt_of_cell? W a h
 obtain ⟨b, o, s⟩ := a
 simp only at h1 h2 ⊢
 exact ⟨by rw [h1], h2⟩

/-- A field of one cell that is an integer. -/
theorem field_int {cs : List Value} {xs : List (DataW H × List MemPlace)} {n : Nat} {t : TypeId} {o j : Nat} (hu : Tryz.prog.underlying t = some (.int .i64)) (hc : Tryz.prog.cellsOf t = 1) (hj : j < xs.length)
  (h : DataW.trod enc Tryz.prog W 0 (fun _ => true) true n t ((cs.drop o).take (Tryz.prog.cellsOf t)) = xs[j]?) : ∃ z, cs[o]? = some (.int .i64 z) ∧ Fits z := by
 rw [hc, List.getElem?_eq_getElem hj] at h
 obtain ⟨z, hz, _, hw⟩ := DataW.trod_int hu h
 exact ⟨z, drop_one hz, fits_of hw⟩

theorem st_of {fuel : Nat} {cs : List Value} {x : DataW H × List MemPlace} (h : DataW.trod enc Tryz.prog W 0 (fun _ => true) true fuel 29 cs = some x) : ∃ A n c l, cs = [.slice A n c] ∧ StAt W A n l := by
 rcases open_slice Tryz.underlying29 h with ⟨rfl, _⟩ | ⟨a, len, cap, m, n, D, Pl, rfl, _, hl, _, hmm, _, hi⟩
 ·exact ⟨none, 0, 0, [], rfl, rfl, by simp, fun h => absurd rfl h⟩
 ·simp only [if_true] at hmm
  have each : ∀ i, i < len → ∃ s : Int × Int, (Fits s.1 ∧ Fits s.2) ∧ W.cell? (a.add (i * 2)) = some (.int .i64 s.1) ∧ W.cell? (a.add (i * 2 + 1)) = some (.int .i64 s.2) := by
   intro i hil
   obtain ⟨cs', hc, ht⟩ := hi i (by omega)
   rw [cells_step] at hc
   obtain ⟨xs, k, _, _, _, hxl, hf⟩ := DataW.trod_struct Tryz.underlying107 ht
   have hxl2 : xs.length = 2 := hxl
   obtain ⟨_, hcl, hcell⟩ := World.cells?_some hc
   obtain ⟨q, hq, fq⟩ := field_int (t := 2) (o := 0) (j := 0) Tryz.underlying2 cells_int64 (by omega) (hf 0 _ rfl)
   obtain ⟨p, hp, fp⟩ := field_int (t := 2) (o := 1) (j := 1) Tryz.underlying2 cells_int64 (by omega) (hf 1 _ rfl)
   refine ⟨(q, p), ⟨fq, fp⟩, ?_, ?_⟩
   ·have := hcell 0 (by omega); rw [hq] at this; exact this
   ·have := hcell 1 (by omega); rw [hp] at this; rw [← add_add]; exact this
  obtain ⟨F, hF⟩ := choose_lt each
  refine ⟨some a, len, cap, (List.range len).map F, rfl, by simp, ?_, fun hn => ?_⟩
  ·intro s hs
   obtain ⟨i, hi', rfl⟩ := List.mem_map.1 hs
   exact (hF i (List.mem_range.1 hi')).1
  ·have h0 := (hF 0 (by omega)).2.1
   obtain ⟨e, hb⟩ := plain_addr h0
   have hsp : a.spot = none := by have := congrArg Addr.spot e; simpa [Addr.add] using this
   have ea : a = ⟨a.block, a.off, none⟩ := by obtain ⟨b, o, s⟩ := a; simp only at hsp ⊢; rw [hsp]
   refine ⟨a.block, a.off, by rw [← ea], by simpa [Addr.add] using hb, fun j hj => ?_⟩
   have e1 : ((List.range len).map F)[j]?.getD (0, 0) = F j := by simp [hj]
   obtain ⟨_, c1, c2⟩ := hF j hj
   rw [ea, addr_plus] at c1 c2
   rw [e1]
   exact ⟨c1, c2⟩

theorem css_of {fuel : Nat} {cs : List Value} {x : DataW H × List MemPlace} (h : DataW.trod enc Tryz.prog W 0 (fun _ => true) true fuel 22 cs = some x) : ∃ A n c ls, cs = [.slice A n c] ∧ CsAt W A n ls := by
 rcases open_slice1 Tryz.underlying22 cells_steps h with ⟨rfl, _⟩ | ⟨a, len, cap, m, n, V, D, Pl, rfl, _, hl, _, hmm, _, hi⟩
 ·exact ⟨none, 0, 0, [], rfl, rfl, fun h => absurd rfl h⟩
 ·simp only [if_true] at hmm
  have each : ∀ i, i < len → ∃ l : List (Int × Int), ∃ A' n' c', W.cell? (a.add i) = some (.slice A' n' c') ∧ StAt W A' n' l := by
   intro i hil
   obtain ⟨hc, ht⟩ := hi i (by omega)
   obtain ⟨A', n', c', l, hl', hst⟩ := st_of ht
   exact ⟨l, A', n', c', by rw [hc]; simpa using hl', hst⟩
  obtain ⟨F, hF⟩ := choose_lt each
  refine ⟨some a, len, cap, (List.range len).map F, rfl, by simp, fun hn => ?_⟩
  obtain ⟨_, _, _, h0, _⟩ := hF 0 (by omega)
  obtain ⟨e, hb⟩ := plain_addr h0
  have hsp : a.spot = none := by have := congrArg Addr.spot e; simpa [Addr.add] using this
  have ea : a = ⟨a.block, a.off, none⟩ := by obtain ⟨b, o, s⟩ := a; simp only at hsp ⊢; rw [hsp]
  refine ⟨a.block, a.off, by rw [← ea], by simpa [Addr.add] using hb, fun j hj => ?_⟩
  have e1 : ((List.range len).map F)[j]?.getD [] = F j := by simp [hj]
  obtain ⟨A', n', c', c1, hs⟩ := hF j hj
  rw [ea, addr_plus] at c1
  rw [e1]
  exact ⟨A', n', c', c1, hs⟩

end
section
variable {H : Type} {enc : TypeId × Value → H} {P : Program} {W : World}
/-- Arguments read as before where nothing old has turned. -/
theorem args_stay (hlo : laidOutB P = true) {W' : World} (hb : Below W.heap.size W W') (sp : Nat → Bool) : ∀ {ts : List TypeId} {vs : List Value} {ds : List (DataW H)} {ps : List MemPlace},
  (∀ t ∈ ts, P.readableRec t = true ∧ t < P.types.size) → DataW.TrodAll enc P W 0 (fun _ => true) true ts vs ds ps → (∀ p ∈ ps, p.block < W.heap.size) → (∀ p ∈ ps, sp p.block = true) →
  DataW.TrodAll enc P W' 0 sp true ts vs ds ps
 | [], _, _, _, _, h, _, _ => by obtain ⟨rfl, rfl, rfl⟩ := trodAll_nil h; exact trodAll_mk0
 | t :: ts, _, _, _, hr, h, hlt, hs => by
  obtain ⟨v, vs', d, ds', p, q, rfl, rfl, rfl, h1, h2⟩ := trodAll_cons h
  have hr1 := hr t (List.mem_cons_self ..)
  exact trodAll_cons_mk (WideElems.Trod_stays hlo hr1.1 hr1.2 h1 (fun x hx => hb.same (hlt x (List.mem_append_left _ hx))) (fun x hx => hs x (List.mem_append_left _ hx)))
   (args_stay hlo hb sp (fun y hy => hr y (List.mem_cons_of_mem _ hy)) h2 (fun x hx => hlt x (List.mem_append_right _ hx)) (fun x hx => hs x (List.mem_append_right _ hx)))

/-- The statement's post: true, and every argument reads as before. -/
theorem post_true (hlo : laidOutB P = true) {f : Func} {s : ChangeSpec} {W' : World} {args : Array Value} {ds : List (DataW H)} {before : List MemPlace} {tb : TypeId} (hbool : P.underlying tb = some .bool) (hv : s.vars = []) (hr1 : f.resultTypes = #[tb])
  (hr : ∀ t ∈ f.params.toList, P.readableRec t = true ∧ t < P.types.size)
  (hW : DataW.Whole enc P f.params.toList s.vars false W args.toList ds [] before) (hres : (s.fn H (ds ++ [])).results = [.lit (.bool true)]) (hargs : (s.fn H (ds ++ [])).args = ds) (hvars : (s.fn H (ds ++ [])).vars = []) (hb : Below W.heap.size W W') :
  s.post enc P f false true false false W args (.bool true) W' := by
 have hW' := hW
 obtain ⟨p, q, hA, hV, rfl, hz, hn⟩ := hW
 rw [hv] at hV
 obtain ⟨_, rfl⟩ := trodVars_none hV
 have hlt : ∀ x ∈ p ++ [], x.block < W.heap.size := fun x hx => hW'.lt x hx
 have hlt' : ∀ x ∈ p, x.block < W.heap.size := fun x hx => hlt x (by simpa using hx)
 have hold : ∀ x ∈ p, (fun b => decide (b < W.heap.size)) x.block = true := fun x hx => by simpa using hlt' x hx
 have hRes : ∀ (b : Nat) (sp : Nat → Bool) (hd : Bool), DataW.TrodAll enc P W' b sp hd f.resultTypes.toList ((Value.bool true).resultList f.resultTypes.size) (s.fn H (ds ++ [])).results [] := fun b sp hd => by
  rw [hres, hr1]
  exact trodAll_cons_mk (shut_bool hbool true) trodAll_mk0
 have hArg : ∀ sp : Nat → Bool, (∀ x ∈ p, sp x.block = true) → DataW.TrodAll enc P W' 0 sp true f.params.toList args.toList (s.fn H (ds ++ [])).args p := fun sp hsp => by
  rw [hargs]
  exact args_stay hlo hb sp hr hA hlt' hsp
 have hVar : ∀ sp : Nat → Bool, DataW.TrodVars enc P W' sp s.vars (s.fn H (ds ++ [])).vars [] := fun sp => by
  rw [hv, hvars]; rfl
 refine ⟨ds, [], p ++ [], [], p, [], hW', hRes _ _ _, hArg _ (by simpa using hold), hVar _, World.keptBut_mono (fun x hx => ⟨hx, ?_⟩) (hb.frame (· ∈ p ++ [])), fun _ => ?_⟩
 ·exact Or.inr (by simpa using hx)
 ·refine ⟨ok_one hr1 rfl (okWide_bool_mk hbool _), _, _, ([] ++ p) ++ [], ⟨[] ++ p, [], trodAll_append (hArg _ (fun _ _ => rfl)) (hRes _ _ _), hVar _, rfl, ?_, ?_⟩, ?_⟩
  ·intro b off hp
   have hin : MemPlace.cell b off ∈ p ++ [] := by simpa using hp
   rw [hb.frozen (hlt _ hin)]
   exact hz b off hin
  ·intro ha; cases ha
  ·intro x hx _
   simpa using hx
end

theorem rowed {P : Program} {ps : Array TypeId} (h : (ps.toList.all fun t => P.readableRec t && decide (t < P.types.size)) = true) : ∀ t ∈ ps.toList, P.readableRec t = true ∧ t < P.types.size := by
 intro t ht
 have := List.all_eq_true.1 h t ht
 simpa using this

theorem u8_of {z : Int} (h : (Lit.int .u8 z).wf = true) : ∃ i : Nat, z = (i : Int) ∧ i < 256 := by
 simp [Lit.wf, IntKind.min, IntKind.max, IntKind.signed, IntKind.bits] at h
 exact ⟨z.toNat, by omega, by omega⟩

end Go.Proofs.YtjajigkacccdgaaGreat

namespace Go.Proofs.YtjajigkacccdgaaGreat
set_option linter.unusedVariables false
set_option linter.unusedSimpArgs false
open Go.ChangeShapes Go.WideShapes Go.ChangeAt Go.RowKit Go.Deep
open Wd

theorem cells_u32 : Tryz.prog.cellsOf 59 = 1 := by kernel_rfl
theorem cells_u32s : Tryz.prog.cellsOf 38 = 1 := by kernel_rfl
theorem cells_boolq : Tryz.prog.cellsOf 4 = 1 := by kernel_rfl
theorem cells_z : Tryz.prog.cellsOf 40 = 2 := by kernel_rfl
theorem cells_q : Tryz.prog.cellsOf 42 = 4 := by kernel_rfl
theorem u32_of {z : Int} (h : (Lit.int .u32 z).wf = true) : ∃ i : Nat, z = (i : Int) ∧ i < 4294967296 := by
 simp [Lit.wf, IntKind.min, IntKind.max, IntKind.signed, IntKind.bits] at h
 exact ⟨z.toNat, by omega, by omega⟩

section
variable {H : Type} {enc : TypeId × Value → H} {W : World}
theorem ws_of {fuel : Nat} {cs : List Value} {x : DataW H × List MemPlace} (h : DataW.trod enc Tryz.prog W 0 (fun _ => true) true fuel 38 cs = some x) : ∃ A n c l, cs = [.slice A n c] ∧ Wat W A n l ∧ n ≤ c := by
 rcases open_slice1 Tryz.underlying38 cells_u32 h with ⟨rfl, _⟩ | ⟨a, len, cap, m, n, V, D, Pl, rfl, hlc, hl, _, hmm, _, hi⟩
 ·exact ⟨none, 0, 0, [], rfl, Wat.nil, Nat.le_refl _⟩
 ·simp only [if_true] at hmm
  have each : ∀ i, i < len → ∃ z : Nat, W.cell? (a.add i) = some (.int .u32 (z : Int)) ∧ z < 4294967296 := by
   intro i hil
   obtain ⟨hc, ht⟩ := hi i (by omega)
   obtain ⟨z, hz, _, hw⟩ := DataW.trod_int Tryz.underlying59 ht
   obtain ⟨i', rfl, hi'⟩ := u32_of hw
   exact ⟨i', by rw [hc]; simpa using hz, hi'⟩
  obtain ⟨F, hF⟩ := choose_lt each
  refine ⟨some a, len, cap, (List.range len).map F, rfl, ⟨by simp, ?_, fun hn => ?_⟩, ?_⟩
  ·intro z hz
   obtain ⟨i, hi', rfl⟩ := List.mem_map.1 hz
   exact (hF i (List.mem_range.1 hi')).2
  ·obtain ⟨e, hb⟩ := plain_addr (hF 0 (by omega)).1
   have hsp : a.spot = none := by have := congrArg Addr.spot e; simpa [Addr.add] using this
   have ea : a = ⟨a.block, a.off, none⟩ := by obtain ⟨b, o, s⟩ := a; simp only at hsp ⊢; rw [hsp]
   refine ⟨a.block, a.off, by rw [← ea], by simpa [Addr.add] using hb, fun j hj => ?_⟩
   have e1 : ((List.range len).map F)[j]?.getD 0 = F j := by simp [hj]
   have c1 := (hF j hj).1
   rw [ea, addr_plus] at c1
   rw [e1]
   exact c1
  ·omega
set_option maxRecDepth 100000 in
set_option maxHeartbeats 2000000 in
theorem z_of {fuel : Nat} {cs : List Value} {x : DataW H × List MemPlace} (hcl : cs.length = 2) (h : DataW.trod enc Tryz.prog W 0 (fun _ => true) true fuel 40 cs = some x) : ∃ an A n c l, cs = [.bool an, .slice A n c] ∧ Wat W A n l ∧ n ≤ c := by
 obtain ⟨xs, k, _, _, _, hxl, hg⟩ := DataW.trod_struct Tryz.underlying40 h
 have hxl2 : xs.length = 2 := hxl
 have h0 : DataW.trod enc Tryz.prog W 0 (fun _ => true) true k 4 ((cs.drop 0).take (Tryz.prog.cellsOf 4)) = xs[0]? := hg 0 _ rfl
 have h1 : DataW.trod enc Tryz.prog W 0 (fun _ => true) true k 38 ((cs.drop 1).take (Tryz.prog.cellsOf 38)) = xs[1]? := hg 1 _ rfl
 rw [cells_boolq, List.getElem?_eq_getElem (by omega)] at h0
 rw [cells_u32s, List.getElem?_eq_getElem (by omega)] at h1
 obtain ⟨an, e0, _⟩ := DataW.trod_bool Tryz.underlying4 h0
 obtain ⟨A, n, c, l, e1, hw, hc⟩ := ws_of h1
 have d0 := drop_one e0
 have d1 := drop_one e1
 refine ⟨an, A, n, c, l, ?_, hw, hc⟩
 match cs, hcl with
 | [a, b], _ =>
  simp at d0 d1
  rw [d0, d1]
set_option maxRecDepth 100000 in
set_option maxHeartbeats 2000000 in
theorem q_of {base : Nat} {v : Value} {d : DataW H} {p : List MemPlace} (hv : Value.okWide Tryz.prog W .any base 42 v) (h : DataW.Trod enc Tryz.prog W 0 (fun _ => true) true 42 v d p) :
  ∃ an A n c an' A' n' c', v = .agg #[.bool an, .slice A n c, .bool an', .slice A' n' c'] ∧ QRaw W A n c A' n' c' := by
 obtain ⟨cs, rfl, hsz⟩ := okWide_struct Tryz.underlying42 hv
 obtain ⟨fuel, hf⟩ := h
 obtain ⟨cl⟩ := cs
 rw [cells_q] at hsz
 obtain ⟨xs, k, _, _, _, hxl, hg⟩ := DataW.trod_struct Tryz.underlying42 hf
 have hxl2 : xs.length = 2 := hxl
 have hcl : cl.length = 4 := hsz
 have h0 : DataW.trod enc Tryz.prog W 0 (fun _ => true) true k 40 ((cl.drop 0).take (Tryz.prog.cellsOf 40)) = xs[0]? := hg 0 _ rfl
 have h1 : DataW.trod enc Tryz.prog W 0 (fun _ => true) true k 40 ((cl.drop 2).take (Tryz.prog.cellsOf 40)) = xs[1]? := hg 1 _ rfl
 rw [cells_z, List.getElem?_eq_getElem (by omega)] at h0 h1
 obtain ⟨an, A, n, c, l, e0, w0, b0⟩ := z_of (by simp; omega) h0
 obtain ⟨an', A', n', c', l', e1, w1, b1⟩ := z_of (by simp; omega) h1
 refine ⟨an, A, n, c, an', A', n', c', ?_, l, l', w0, w1, b0, b1⟩
 match cl, hcl with
 | [a, b, a', b'], _ =>
  simp at e0 e1
  rw [e0.1, e0.2, e1.1, e1.2]
end

end Go.Proofs.YtjajigkacccdgaaGreat
