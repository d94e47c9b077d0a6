/-
From the arguments of a statement to what the walks ask of memory; arguments read as before. Rows of rationals among the arguments of a statement of layer 30. No statement of the seat is proved here; no conditions beyond those of each theorem.
-/
import Derived.Test.YtodkhjihkkmplaaGreatRows
import Derived.Test.YtodkhjihkkmplaaGreatLRt7
import Derived.WalkKit
import Derived.ProofKit
import Derived.OpenShut
import Derived.Carry
import Derived.WideKeyArgs
import Derived.Deep.Slices
import Derived.Test.YtodkhjihkkmplaaGreatLPN
namespace Go.Proofs.YtodkhjihkkmplaaGreat
set_option linter.unusedVariables false
set_option linter.unusedSimpArgs false
open Go.ChangeShapes Go.WideShapes Go.ChangeAt Go.RowKit Go.Deep
open Wd

theorem own : ownKnob Tryz.prog.godebug = none := by kernel_rfl
theorem laidOut : laidOutB Tryz.prog = true := by kernel_rfl
theorem cells_int64 : Tryz.prog.cellsOf 2 = 1 := by kernel_rfl
theorem cells_int : Tryz.prog.cellsOf 3 = 1 := by kernel_rfl
theorem cells_bool : Tryz.prog.cellsOf 4 = 1 := by kernel_rfl
theorem cells_steps : Tryz.prog.cellsOf 46 = 1 := by kernel_rfl
theorem cells_step : Tryz.prog.cellsOf 74 = 2 := by kernel_rfl
theorem cells_unit : Tryz.prog.cellsOf 48 = 9 := by kernel_rfl

theorem fits_of {z : Int} (h : (Lit.int .i64 z).wf = true) : Fits z := by
 simp [Lit.wf, IntKind.min, IntKind.max, IntKind.signed, IntKind.bits] at h
 unfold Fits
 omega
theorem drop_one {α : Type} {l : List α} {o : Nat} {v : α} (h : (l.drop o).take 1 = [v]) : l[o]? = some v := by
 have h0 : ((l.drop o).take 1)[0]? = some v := by rw [h]; rfl
 simpa using h0

instance : Inhabited Un := ⟨U0⟩
theorem addr_plus (b o k : Nat) : (⟨b, o, none⟩ : Addr).add k = ⟨b, o + k, none⟩ := by
 unfold Addr.add
 split
 ·rename_i h; rw [h]; rfl
 ·rfl

section
variable {H : Type} {enc : TypeId × Value → H} {W : World}

theorem plain_addr {a : Addr} {v : Value} (h : W.cell? a = some v) : a = ⟨a.block, a.off, none⟩ ∧ a.block < W.heap.size := by
 have h1 := World.cell?_spot h
 have h2 := World.block_lt_of_cell? W a h
 obtain ⟨b, o, s⟩ := a
 simp only at h1 h2 ⊢
 exact ⟨by rw [h1], h2⟩

/-- A field of one cell that is an integer. -/
theorem field_int {cs : List Value} {xs : List (DataW H × List MemPlace)} {n : Nat} {t : TypeId} {o j : Nat} (hu : Tryz.prog.underlying t = some (.int .i64)) (hc : Tryz.prog.cellsOf t = 1) (hj : j < xs.length)
  (h : DataW.trod enc Tryz.prog W 0 (fun _ => true) true n t ((cs.drop o).take (Tryz.prog.cellsOf t)) = xs[j]?) : ∃ z, cs[o]? = some (.int .i64 z) ∧ Fits z := by
 rw [hc, List.getElem?_eq_getElem hj] at h
 obtain ⟨z, hz, _, hw⟩ := DataW.trod_int hu h
 exact ⟨z, drop_one hz, fits_of hw⟩

theorem st_of {fuel : Nat} {cs : List Value} {x : DataW H × List MemPlace} (h : DataW.trod enc Tryz.prog W 0 (fun _ => true) true fuel 46 cs = some x) : ∃ A n c l, cs = [.slice A n c] ∧ StAt W A n l := by
 rcases open_slice Tryz.underlying46 h with ⟨rfl, _⟩ | ⟨a, len, cap, m, n, D, Pl, rfl, _, hl, _, hmm, _, hi⟩
 ·exact ⟨none, 0, 0, [], rfl, rfl, by simp, fun h => absurd rfl h⟩
 ·simp only [if_true] at hmm
  have each : ∀ i, i < len → ∃ s : Int × Int, (Fits s.1 ∧ Fits s.2) ∧ W.cell? (a.add (i * 2)) = some (.int .i64 s.1) ∧ W.cell? (a.add (i * 2 + 1)) = some (.int .i64 s.2) := by
   intro i hil
   obtain ⟨cs', hc, ht⟩ := hi i (by omega)
   rw [cells_step] at hc
   obtain ⟨xs, k, _, _, _, hxl, hf⟩ := DataW.trod_struct Tryz.underlying74 ht
   have hxl2 : xs.length = 2 := hxl
   obtain ⟨_, hcl, hcell⟩ := World.cells?_some hc
   obtain ⟨q, hq, fq⟩ := field_int (t := 2) (o := 0) (j := 0) Tryz.underlying2 cells_int64 (by omega) (hf 0 _ rfl)
   obtain ⟨p, hp, fp⟩ := field_int (t := 2) (o := 1) (j := 1) Tryz.underlying2 cells_int64 (by omega) (hf 1 _ rfl)
   refine ⟨(q, p), ⟨fq, fp⟩, ?_, ?_⟩
   ·have := hcell 0 (by omega); rw [hq] at this; exact this
   ·have := hcell 1 (by omega); rw [hp] at this; rw [← add_add]; exact this
  obtain ⟨F, hF⟩ := choose_lt each
  refine ⟨some a, len, cap, (List.range len).map F, rfl, by simp, ?_, fun hn => ?_⟩
  ·intro s hs
   obtain ⟨i, hi', rfl⟩ := List.mem_map.1 hs
   exact (hF i (List.mem_range.1 hi')).1
  ·have h0 := (hF 0 (by omega)).2.1
   obtain ⟨e, hb⟩ := plain_addr h0
   have hsp : a.spot = none := by have := congrArg Addr.spot e; simpa [Addr.add] using this
   have ea : a = ⟨a.block, a.off, none⟩ := by obtain ⟨b, o, s⟩ := a; simp only at hsp ⊢; rw [hsp]
   refine ⟨a.block, a.off, by rw [← ea], by simpa [Addr.add] using hb, fun j hj => ?_⟩
   have e1 : ((List.range len).map F)[j]?.getD (0, 0) = F j := by simp [hj]
   obtain ⟨_, c1, c2⟩ := hF j hj
   rw [ea, addr_plus] at c1 c2
   rw [e1]
   exact ⟨c1, c2⟩

theorem us_of {fuel : Nat} {cs : List Value} {x : DataW H × List MemPlace} (h : DataW.trod enc Tryz.prog W 0 (fun _ => true) true fuel 22 cs = some x) : ∃ A n c us, cs = [.slice A n c] ∧ UsRaw W A n us := by
 rcases open_slice Tryz.underlying22 h with ⟨rfl, _⟩ | ⟨a, len, cap, m, n, D, Pl, rfl, _, hl, _, hmm, _, hi⟩
 ·exact ⟨none, 0, 0, [], rfl, rfl, fun h => absurd rfl h⟩
 ·simp only [if_true] at hmm
  have each : ∀ i, i < len → ∃ u : Un, ∃ A' n' c', (W.cell? (a.add (i * 9)) = some (.int .i64 u.bus) ∧ W.cell? (a.add (i * 9 + 1)) = some (.int .i64 u.mn) ∧ W.cell? (a.add (i * 9 + 2)) = some (.slice A' n' c') ∧ W.cell? (a.add (i * 9 + 3)) = some (.int .i64 u.up) ∧ W.cell? (a.add (i * 9 + 4)) = some (.int .i64 u.dn) ∧
    W.cell? (a.add (i * 9 + 5)) = some (.int .i64 u.start) ∧ W.cell? (a.add (i * 9 + 6)) = some (.int .i64 u.idle) ∧ W.cell? (a.add (i * 9 + 7)) = some (.int .i64 u.spin) ∧ W.cell? (a.add (i * 9 + 8)) = some (.int .i64 u.on)) ∧ StAt W A' n' u.st := by
   intro i hil
   obtain ⟨cs', hc, ht⟩ := hi i (by omega)
   rw [cells_unit] at hc
   obtain ⟨xs, k, _, _, _, hxl, hf⟩ := DataW.trod_struct Tryz.underlying48 ht
   have hxl2 : xs.length = 9 := hxl
   obtain ⟨_, hcl, hcell⟩ := World.cells?_some hc
   obtain ⟨z0, h0, _⟩ := field_int (t := 3) (o := 0) (j := 0) Tryz.underlying3 cells_int (by omega) (hf 0 _ rfl)
   obtain ⟨z1, h1, _⟩ := field_int (t := 2) (o := 1) (j := 1) Tryz.underlying2 cells_int64 (by omega) (hf 1 _ rfl)
   obtain ⟨z3, h3, _⟩ := field_int (t := 3) (o := 3) (j := 3) Tryz.underlying3 cells_int (by omega) (hf 3 _ rfl)
   obtain ⟨z4, h4, _⟩ := field_int (t := 3) (o := 4) (j := 4) Tryz.underlying3 cells_int (by omega) (hf 4 _ rfl)
   obtain ⟨z5, h5, _⟩ := field_int (t := 2) (o := 5) (j := 5) Tryz.underlying2 cells_int64 (by omega) (hf 5 _ rfl)
   obtain ⟨z6, h6, _⟩ := field_int (t := 2) (o := 6) (j := 6) Tryz.underlying2 cells_int64 (by omega) (hf 6 _ rfl)
   obtain ⟨z7, h7, _⟩ := field_int (t := 2) (o := 7) (j := 7) Tryz.underlying2 cells_int64 (by omega) (hf 7 _ rfl)
   obtain ⟨z8, h8, _⟩ := field_int (t := 3) (o := 8) (j := 8) Tryz.underlying3 cells_int (by omega) (hf 8 _ rfl)
   have hs : DataW.trod enc Tryz.prog W 0 (fun _ => true) true k 46 ((cs'.drop 2).take (Tryz.prog.cellsOf 46)) = xs[2]? := hf 2 _ rfl
   rw [cells_steps, List.getElem?_eq_getElem (by omega)] at hs
   obtain ⟨A', n', c', l, hl', hst⟩ := st_of hs
   have h2 := drop_one hl'
   refine ⟨⟨z0, z1, l, z3, z4, z5, z6, z7, z8⟩, A', n', c', ⟨?_, ?_, ?_, ?_, ?_, ?_, ?_, ?_, ?_⟩, hst⟩
   ·have := hcell 0 (by omega); rw [h0] at this; exact this
   ·have := hcell 1 (by omega); rw [h1] at this; rw [← add_add]; exact this
   ·have := hcell 2 (by omega); rw [h2] at this; rw [← add_add]; exact this
   ·have := hcell 3 (by omega); rw [h3] at this; rw [← add_add]; exact this
   ·have := hcell 4 (by omega); rw [h4] at this; rw [← add_add]; exact this
   ·have := hcell 5 (by omega); rw [h5] at this; rw [← add_add]; exact this
   ·have := hcell 6 (by omega); rw [h6] at this; rw [← add_add]; exact this
   ·have := hcell 7 (by omega); rw [h7] at this; rw [← add_add]; exact this
   ·have := hcell 8 (by omega); rw [h8] at this; rw [← add_add]; exact this
  obtain ⟨F, hF⟩ := choose_lt each
  refine ⟨some a, len, cap, (List.range len).map F, rfl, by simp, fun hn => ?_⟩
  obtain ⟨_, _, _, ⟨h0, _⟩, _⟩ := hF 0 (by omega)
  obtain ⟨e, hb⟩ := plain_addr h0
  have hsp : a.spot = none := by have := congrArg Addr.spot e; simpa [Addr.add] using this
  have ea : a = ⟨a.block, a.off, none⟩ := by obtain ⟨b, o, s⟩ := a; simp only at hsp ⊢; rw [hsp]
  refine ⟨a.block, a.off, by rw [← ea], by simpa [Addr.add] using hb, fun j hj => ?_⟩
  have e1 : ((List.range len).map F)[j]?.getD U0 = F j := by simp [hj]
  obtain ⟨A', n', c', ⟨c0, c1, c2, c3, c4, c5, c6, c7, c8⟩, hs⟩ := hF j hj
  rw [ea, addr_plus] at c0 c1 c2 c3 c4 c5 c6 c7 c8
  rw [e1]
  exact ⟨A', n', c', ⟨c0, c1, c2, c3, c4, c5, c6, c7, c8⟩, hs⟩

theorem bs_of {fuel : Nat} {cs : List Value} {x : DataW H × List MemPlace} (h : DataW.trod enc Tryz.prog W 0 (fun _ => true) true fuel 23 cs = some x) : ∃ A n c bs, cs = [.slice A n c] ∧ BsAt W A n bs := by
 rcases open_slice1 Tryz.underlying23 cells_bool h with ⟨rfl, _⟩ | ⟨a, len, cap, m, n, V, D, Pl, rfl, _, hl, _, hmm, _, hi⟩
 ·exact ⟨none, 0, 0, [], rfl, rfl, fun h => absurd rfl h⟩
 ·simp only [if_true] at hmm
  have each : ∀ i, i < len → ∃ b : Bool, W.cell? (a.add i) = some (.bool b) := by
   intro i hil
   obtain ⟨hc, ht⟩ := hi i (by omega)
   obtain ⟨b, hb, _⟩ := DataW.trod_bool Tryz.underlying4 ht
   exact ⟨b, by rw [hc]; simpa using hb⟩
  obtain ⟨F, hF⟩ := choose_lt each
  refine ⟨some a, len, cap, (List.range len).map F, rfl, by simp, fun hn => ?_⟩
  obtain ⟨e, hb⟩ := plain_addr (hF 0 (by omega))
  have hsp : a.spot = none := by have := congrArg Addr.spot e; simpa [Addr.add] using this
  have ea : a = ⟨a.block, a.off, none⟩ := by obtain ⟨b, o, s⟩ := a; simp only at hsp ⊢; rw [hsp]
  refine ⟨a.block, a.off, by rw [← ea], by simpa [Addr.add] using hb, fun j hj => ?_⟩
  have e1 : ((List.range len).map F)[j]?.getD false = F j := by simp [hj]
  have c1 := hF j hj
  rw [ea, addr_plus] at c1
  rw [e1]
  exact c1

end
section
variable {H : Type} {enc : TypeId × Value → H} {P : Program} {W : World}
/-- Arguments read as before where nothing old has turned. -/
theorem args_stay (hlo : laidOutB P = true) {W' : World} (hb : Below W.heap.size W W') (sp : Nat → Bool) : ∀ {ts : List TypeId} {vs : List Value} {ds : List (DataW H)} {ps : List MemPlace},
  (∀ t ∈ ts, P.readableRec t = true ∧ t < P.types.size) → DataW.TrodAll enc P W 0 (fun _ => true) true ts vs ds ps → (∀ p ∈ ps, p.block < W.heap.size) → (∀ p ∈ ps, sp p.block = true) →
  DataW.TrodAll enc P W' 0 sp true ts vs ds ps
 | [], _, _, _, _, h, _, _ => by obtain ⟨rfl, rfl, rfl⟩ := trodAll_nil h; exact trodAll_mk0
 | t :: ts, _, _, _, hr, h, hlt, hs => by
  obtain ⟨v, vs', d, ds', p, q, rfl, rfl, rfl, h1, h2⟩ := trodAll_cons h
  have hr1 := hr t (List.mem_cons_self ..)
  exact trodAll_cons_mk (WideElems.Trod_stays hlo hr1.1 hr1.2 h1 (fun x hx => hb.same (hlt x (List.mem_append_left _ hx))) (fun x hx => hs x (List.mem_append_left _ hx)))
   (args_stay hlo hb sp (fun y hy => hr y (List.mem_cons_of_mem _ hy)) h2 (fun x hx => hlt x (List.mem_append_right _ hx)) (fun x hx => hs x (List.mem_append_right _ hx)))

/-- The statement's post: true, and every argument reads as before. -/
theorem post_true (hlo : laidOutB P = true) {f : Func} {s : ChangeSpec} {W' : World} {args : Array Value} {ds : List (DataW H)} {before : List MemPlace} {tb : TypeId} (hbool : P.underlying tb = some .bool) (hv : s.vars = []) (hr1 : f.resultTypes = #[tb])
  (hr : ∀ t ∈ f.params.toList, P.readableRec t = true ∧ t < P.types.size)
  (hW : DataW.Whole enc P f.params.toList s.vars false W args.toList ds [] before) (hres : (s.fn H (ds ++ [])).results = [.lit (.bool true)]) (hargs : (s.fn H (ds ++ [])).args = ds) (hvars : (s.fn H (ds ++ [])).vars = []) (hb : Below W.heap.size W W') :
  s.post enc P f false true false false W args (.bool true) W' := by
 have hW' := hW
 obtain ⟨p, q, hA, hV, rfl, hz, hn⟩ := hW
 rw [hv] at hV
 obtain ⟨_, rfl⟩ := trodVars_none hV
 have hlt : ∀ x ∈ p ++ [], x.block < W.heap.size := fun x hx => hW'.lt x hx
 have hlt' : ∀ x ∈ p, x.block < W.heap.size := fun x hx => hlt x (by simpa using hx)
 have hold : ∀ x ∈ p, (fun b => decide (b < W.heap.size)) x.block = true := fun x hx => by simpa using hlt' x hx
 have hRes : ∀ (b : Nat) (sp : Nat → Bool) (hd : Bool), DataW.TrodAll enc P W' b sp hd f.resultTypes.toList ((Value.bool true).resultList f.resultTypes.size) (s.fn H (ds ++ [])).results [] := fun b sp hd => by
  rw [hres, hr1]
  exact trodAll_cons_mk (shut_bool hbool true) trodAll_mk0
 have hArg : ∀ sp : Nat → Bool, (∀ x ∈ p, sp x.block = true) → DataW.TrodAll enc P W' 0 sp true f.params.toList args.toList (s.fn H (ds ++ [])).args p := fun sp hsp => by
  rw [hargs]
  exact args_stay hlo hb sp hr hA hlt' hsp
 have hVar : ∀ sp : Nat → Bool, DataW.TrodVars enc P W' sp s.vars (s.fn H (ds ++ [])).vars [] := fun sp => by
  rw [hv, hvars]; rfl
 refine ⟨ds, [], p ++ [], [], p, [], hW', hRes _ _ _, hArg _ (by simpa using hold), hVar _, World.keptBut_mono (fun x hx => ⟨hx, ?_⟩) (hb.frame (· ∈ p ++ [])), fun _ => ?_⟩
 ·exact Or.inr (by simpa using hx)
 ·refine ⟨ok_one hr1 rfl (okWide_bool_mk hbool _), _, _, ([] ++ p) ++ [], ⟨[] ++ p, [], trodAll_append (hArg _ (fun _ _ => rfl)) (hRes _ _ _), hVar _, rfl, ?_, ?_⟩, ?_⟩
  ·intro b off hp
   have hin : MemPlace.cell b off ∈ p ++ [] := by simpa using hp
   rw [hb.frozen (hlt _ hin)]
   exact hz b off hin
  ·intro ha; cases ha
  ·intro x hx _
   simpa using hx
end

theorem rowed {P : Program} {ps : Array TypeId} (h : (ps.toList.all fun t => P.readableRec t && decide (t < P.types.size)) = true) : ∀ t ∈ ps.toList, P.readableRec t = true ∧ t < P.types.size := by
 intro t ht
 have := List.all_eq_true.1 h t ht
 simpa using this

end Go.Proofs.YtodkhjihkkmplaaGreat

namespace Go.Proofs.YtodkhjihkkmplaaGreat
set_option linter.unusedVariables false
set_option linter.unusedSimpArgs false
open Go.ChangeShapes Go.WideShapes Go.ChangeAt Go.RowKit Go.Deep
open Wd


theorem cells_u32 : Tryz.prog.cellsOf 50 = 1 := by kernel_rfl
theorem cells_u32s : Tryz.prog.cellsOf 27 = 1 := by kernel_rfl
theorem cells_boolq : Tryz.prog.cellsOf 4 = 1 := by kernel_rfl
theorem cells_z : Tryz.prog.cellsOf 29 = 2 := by kernel_rfl
theorem cells_q : Tryz.prog.cellsOf 31 = 4 := by kernel_rfl
theorem u32_of {z : Int} (h : (Lit.int .u32 z).wf = true) : ∃ i : Nat, z = (i : Int) ∧ i < 4294967296 := by
 simp [Lit.wf, IntKind.min, IntKind.max, IntKind.signed, IntKind.bits] at h
 exact ⟨z.toNat, by omega, by omega⟩

section
variable {H : Type} {enc : TypeId × Value → H} {W : World}
theorem ws_of {fuel : Nat} {cs : List Value} {x : DataW H × List MemPlace} (h : DataW.trod enc Tryz.prog W 0 (fun _ => true) true fuel 27 cs = some x) : ∃ A n c l, cs = [.slice A n c] ∧ Wat W A n l ∧ n ≤ c := by
 rcases open_slice1 Tryz.underlying27 cells_u32 h with ⟨rfl, _⟩ | ⟨a, len, cap, m, n, V, D, Pl, rfl, hlc, hl, _, hmm, _, hi⟩
 ·exact ⟨none, 0, 0, [], rfl, Wat.nil, Nat.le_refl _⟩
 ·simp only [if_true] at hmm
  have each : ∀ i, i < len → ∃ z : Nat, W.cell? (a.add i) = some (.int .u32 (z : Int)) ∧ z < 4294967296 := by
   intro i hil
   obtain ⟨hc, ht⟩ := hi i (by omega)
   obtain ⟨z, hz, _, hw⟩ := DataW.trod_int Tryz.underlying50 ht
   obtain ⟨i', rfl, hi'⟩ := u32_of hw
   exact ⟨i', by rw [hc]; simpa using hz, hi'⟩
  obtain ⟨F, hF⟩ := choose_lt each
  refine ⟨some a, len, cap, (List.range len).map F, rfl, ⟨by simp, ?_, fun hn => ?_⟩, ?_⟩
  ·intro z hz
   obtain ⟨i, hi', rfl⟩ := List.mem_map.1 hz
   exact (hF i (List.mem_range.1 hi')).2
  ·obtain ⟨e, hb⟩ := plain_addr (hF 0 (by omega)).1
   have hsp : a.spot = none := by have := congrArg Addr.spot e; simpa [Addr.add] using this
   have ea : a = ⟨a.block, a.off, none⟩ := by obtain ⟨b, o, s⟩ := a; simp only at hsp ⊢; rw [hsp]
   refine ⟨a.block, a.off, by rw [← ea], by simpa [Addr.add] using hb, fun j hj => ?_⟩
   have e1 : ((List.range len).map F)[j]?.getD 0 = F j := by simp [hj]
   have c1 := (hF j hj).1
   rw [ea, addr_plus] at c1
   rw [e1]
   exact c1
  ·omega
set_option maxRecDepth 100000 in
set_option maxHeartbeats 2000000 in
theorem z_of {fuel : Nat} {cs : List Value} {x : DataW H × List MemPlace} (hcl : cs.length = 2) (h : DataW.trod enc Tryz.prog W 0 (fun _ => true) true fuel 29 cs = some x) : ∃ an A n c l, cs = [.bool an, .slice A n c] ∧ Wat W A n l ∧ n ≤ c := by
 obtain ⟨xs, k, _, _, _, hxl, hg⟩ := DataW.trod_struct Tryz.underlying29 h
 have hxl2 : xs.length = 2 := hxl
 have h0 : DataW.trod enc Tryz.prog W 0 (fun _ => true) true k 4 ((cs.drop 0).take (Tryz.prog.cellsOf 4)) = xs[0]? := hg 0 _ rfl
 have h1 : DataW.trod enc Tryz.prog W 0 (fun _ => true) true k 27 ((cs.drop 1).take (Tryz.prog.cellsOf 27)) = xs[1]? := hg 1 _ rfl
 rw [cells_boolq, List.getElem?_eq_getElem (by omega)] at h0
 rw [cells_u32s, List.getElem?_eq_getElem (by omega)] at h1
 obtain ⟨an, e0, _⟩ := DataW.trod_bool Tryz.underlying4 h0
 obtain ⟨A, n, c, l, e1, hw, hc⟩ := ws_of h1
 have d0 := drop_one e0
 have d1 := drop_one e1
 refine ⟨an, A, n, c, l, ?_, hw, hc⟩
 match cs, hcl with
 | [a, b], _ =>
  simp at d0 d1
  rw [d0, d1]
/-- The words of an element lie somewhere. -/
def QWs (W : World) (e : QE) : Prop := ∃ l l', Wat W e.2.1.1 e.2.1.2.1 l ∧ Wat W e.2.2.2.1 e.2.2.2.2.1 l' ∧ e.2.1.2.1 ≤ e.2.1.2.2 ∧ e.2.2.2.2.1 ≤ e.2.2.2.2.2
def GRaw (W : World) (A : Option Addr) (m : Nat) (es : List QE) : Prop := QsAtR W A m es ∧ ∀ j, j < m → QWs W (es[j]?.getD QE0)
set_option maxRecDepth 100000 in
set_option maxHeartbeats 2000000 in
theorem qs_of {fuel : Nat} {cs : List Value} {x : DataW H × List MemPlace} (h : DataW.trod enc Tryz.prog W 0 (fun _ => true) true fuel 24 cs = some x) : ∃ A n c es, cs = [.slice A n c] ∧ GRaw W A n es := by
 rcases open_slice Tryz.underlying24 h with ⟨rfl, _⟩ | ⟨a, len, cap, m, n, D, Pl, rfl, _, hl, _, hmm, _, hi⟩
 ·exact ⟨none, 0, 0, [], rfl, ⟨rfl, fun h => absurd rfl h⟩, fun j hj => absurd hj (by omega)⟩
 ·simp only [if_true] at hmm
  have each : ∀ i, i < len → ∃ e : QE, (W.cell? (a.add (i * 4)) = some (.bool e.1) ∧ W.cell? (a.add (i * 4 + 1)) = some (.slice e.2.1.1 e.2.1.2.1 e.2.1.2.2) ∧ W.cell? (a.add (i * 4 + 2)) = some (.bool e.2.2.1) ∧ W.cell? (a.add (i * 4 + 3)) = some (.slice e.2.2.2.1 e.2.2.2.2.1 e.2.2.2.2.2)) ∧ QWs W e := by
   intro i hil
   obtain ⟨cs', hc, ht⟩ := hi i (by omega)
   rw [cells_q] at hc
   obtain ⟨xs, k, _, _, _, hxl, hg⟩ := DataW.trod_struct Tryz.underlying31 ht
   have hxl2 : xs.length = 2 := hxl
   obtain ⟨_, hcl, hcell⟩ := World.cells?_some hc
   have h0 : DataW.trod enc Tryz.prog W 0 (fun _ => true) true k 29 ((cs'.drop 0).take (Tryz.prog.cellsOf 29)) = xs[0]? := hg 0 _ rfl
   have h1 : DataW.trod enc Tryz.prog W 0 (fun _ => true) true k 29 ((cs'.drop 2).take (Tryz.prog.cellsOf 29)) = xs[1]? := hg 1 _ rfl
   rw [cells_z, List.getElem?_eq_getElem (by omega)] at h0 h1
   obtain ⟨an, A, n, c, l, e0, w0, b0⟩ := z_of (by simp; omega) h0
   obtain ⟨an', A', n', c', l', e1, w1, b1⟩ := z_of (by simp; omega) h1
   refine ⟨(an, (A, n, c), an', (A', n', c')), ?_, l, l', w0, w1, b0, b1⟩
   have r0 := hcell 0 (by omega)
   have r1 := hcell 1 (by omega)
   have r2 := hcell 2 (by omega)
   have r3 := hcell 3 (by omega)
   match cs', hcl with
   | [p0, p1, p2, p3], _ =>
    simp at e0 e1
    obtain ⟨rfl, rfl⟩ := e0
    obtain ⟨rfl, rfl⟩ := e1
    exact ⟨r0, by rw [← add_add]; exact r1, by rw [← add_add]; exact r2, by rw [← add_add]; exact r3⟩
  obtain ⟨F, hF⟩ := choose_lt each
  have e1 : ∀ j, j < len → ((List.range len).map F)[j]?.getD QE0 = F j := fun j hj => by simp [hj]
  refine ⟨some a, len, cap, (List.range len).map F, rfl, ⟨by simp, fun hn => ?_⟩, fun j hj => by rw [e1 j hj]; exact (hF j hj).2⟩
  obtain ⟨⟨h0, _⟩, _⟩ := hF 0 (by omega)
  obtain ⟨e, hb⟩ := plain_addr h0
  have hsp : a.spot = none := by have := congrArg Addr.spot e; simpa [Addr.add] using this
  have ea : a = ⟨a.block, a.off, none⟩ := by obtain ⟨b, o, s⟩ := a; simp only at hsp ⊢; rw [hsp]
  refine ⟨a.block, a.off, by rw [← ea], by simpa [Addr.add] using hb, fun j hj => ?_⟩
  obtain ⟨⟨c0, c1, c2, c3⟩, hs⟩ := hF j hj
  rw [ea, addr_plus] at c0 c1 c2 c3
  rw [e1 j hj]
  exact ⟨c0, c1, c2, c3⟩
end

theorem qk_raw {W : World} {an an' : Bool} {A A' : Option Addr} {n c n' c' : Nat} {l l' : List Nat} (h : Wat W A n l) (h' : Wat W A' n' l') (hc : n ≤ c) (hc' : n' ≤ c') (hn : n ≤ 6) (hn' : n' ≤ 6) : ∃ q, QK 0 W an A n c an' A' n' c' q := by
 have v1 := val_lt h.2.1
 have v2 := val_lt h'.2.1
 rw [h.1] at v1
 rw [h'.1] at v2
 have v3 := Nat.lt_of_lt_of_le v1 (Nat.pow_le_pow_right (by decide : 0 < 4294967296) hn)
 have v4 := Nat.lt_of_lt_of_le v2 (Nat.pow_le_pow_right (by decide : 0 < 4294967296) hn')
 have v5 : 4294967296 ^ 6 + 1 ≤ PB 0 := by decide
 have b1 : (qnum (sg an (val l)) (sg an' (val l'))).natAbs = val l := by
  have := sg_natAbs an (val l)
  unfold qnum
  split <;> omega
 have b2 : (qden (sg an' (val l'))).natAbs ≤ val l' + 1 := by
  have := sg_natAbs an' (val l')
  unfold qden
  split <;> (try split) <;> omega
 exact ⟨_, _, _, ⟨l, l', h, h', hc, hc', by omega, by omega, rfl, rfl⟩, by omega, by omega, rfl⟩
theorem GRaw.gs {W : World} {A : Option Addr} {m : Nat} {es : List QE} (h : GRaw W A m es) (hb : es.any bigQ = false) : ∃ qs, GsAt 0 W A m qs := by
 have each : ∀ j, j < m → ∃ q, QK 0 W (es[j]?.getD QE0).1 (es[j]?.getD QE0).2.1.1 (es[j]?.getD QE0).2.1.2.1 (es[j]?.getD QE0).2.1.2.2 (es[j]?.getD QE0).2.2.1 (es[j]?.getD QE0).2.2.2.1 (es[j]?.getD QE0).2.2.2.2.1 (es[j]?.getD QE0).2.2.2.2.2 q := fun j hj => by
  obtain ⟨l, l', w1, w2, c1, c2⟩ := h.2 j hj
  have hbj : bigQ (es[j]?.getD QE0) = false := by
   rw [List.any_eq_false] at hb
   have := hb _ (getD_mem (d := QE0) (by rw [h.1.1]; exact hj))
   simpa using this
  unfold bigQ at hbj
  simp only [Bool.or_eq_false_iff, decide_eq_false_iff_not] at hbj
  exact qk_raw w1 w2 c1 c2 (by omega) (by omega)
 obtain ⟨F, hF⟩ := choose_lt each
 refine ⟨(List.range m).map F, by simp, fun hn => ?_⟩
 obtain ⟨b, o, e, hlt, hc⟩ := h.1.2 hn
 refine ⟨b, o, e, hlt, fun j hj => ?_⟩
 have e1 : ((List.range m).map F)[j]?.getD 0 = F j := by simp [hj]
 rw [e1]
 obtain ⟨c0, c1, c2, c3⟩ := hc j hj
 exact ⟨_, _, _, _, _, _, _, _, c0, c1, c2, c3, hF j hj⟩

end Go.Proofs.YtodkhjihkkmplaaGreat
