/-
Lemmas of the walk; no further conditions.
-/
import Derived.Test.YtjajigkacccdgaaGreatTgBD
import Derived.OrdersHeld
import Derived.Deep.RegionHeld3
import Derived.Deep.DrawnRows
set_option linter.unusedVariables false
set_option linter.unusedSimpArgs false
set_option maxRecDepth 100000
set_option maxHeartbeats 16000000
namespace Go.Proofs.YtjajigkacccdgaaGreat
open Go.RowKit
open Wd
def WB (s:Nat):Nat:=4294967296 ^ s
theorem wb_mono {a b:Nat} (h:a≤b):WB a≤WB b:=Nat.pow_le_pow_right (by decide) h
theorem wb_add (s t:Nat):WB s*WB t=WB (s+t):=(Nat.pow_add _ _ _).symm
theorem wb_mul (s t:Nat):2*(WB s*WB t)≤WB (s+t+1):=by
 rw [wb_add];unfold WB;rw [Nat.pow_succ,Nat.mul_comm];exact Nat.mul_le_mul_left _ (by decide)
theorem wb_ok {s:Nat} (h:s≤10000000000):WOK (WB s):=wok_words s h
theorem wb_three:18446744073709551616<WB 3:=by decide
def Ls (s:Nat) (q:Rat):Prop:=q.num.natAbs<WB s∧q.den<WB s
theorem Ls.mono {a b:Nat} {q:Rat} (h:Ls a q) (hab:a≤b):Ls b q:=⟨Nat.lt_of_lt_of_le h.1 (wb_mono hab),Nat.lt_of_lt_of_le h.2 (wb_mono hab)⟩
theorem ls_int {s:Nat} (hs:3≤s) {z:Int} (h:z.natAbs≤18446744073709551616):Ls s (z:Rat):=by
 refine Ls.mono (a:=3) ⟨?_,?_⟩ hs
 ·rw [Rat.num_intCast];exact Nat.lt_of_le_of_lt h wb_three
 ·rw [Rat.den_intCast];exact Nat.lt_trans (by decide) wb_three
section
variable {s t:Nat} {a b:Rat}
theorem Ls.dd (ha:Ls s a) (hb:Ls t b):((a.den:Int)*(b.den:Int)).natAbs≠0∧((a.den:Int)*(b.den:Int)).natAbs<WB (s+t+1):=by
 rw [Int.natAbs_mul,Int.natAbs_natCast,Int.natAbs_natCast];refine ⟨Nat.mul_ne_zero a.den_nz b.den_nz,?_⟩;have:=wb_mul s t;have:=Nat.mul_lt_mul'' ha.2 hb.2;omega
theorem Ls.add (ha:Ls s a) (hb:Ls t b):Ls (s+t+1) (a+b):=by
 obtain ⟨h0,h1⟩:=ha.dd hb;rw [Lv.self a,Lv.self b,rat_add _ _ _ _ (by have:=a.den_pos;omega) (by have:=b.den_pos;omega)];refine lv_mk h0 ?_ h1;have e1:=bound_mul2 (a:=a.num) (b:=(b.den:Int)) ha.1 (by rw [Int.natAbs_natCast];exact hb.2) (wb_mul s t);have e2:=bound_mul2 (a:=b.num) (b:=(a.den:Int)) hb.1 (by rw [Int.natAbs_natCast];exact ha.2) (wb_mul t s);rw [Nat.add_comm t s] at e2;omega
theorem Ls.mul (ha:Ls s a) (hb:Ls t b):Ls (s+t+1) (a*b):=by
 obtain ⟨h0,h1⟩:=ha.dd hb;rw [Lv.self a,Lv.self b,rat_mul];refine lv_mk h0 ?_ h1;have e1:=bound_mul2 ha.1 hb.1 (wb_mul s t);omega
end
def QS (s:Nat) (w:World) (neg:Bool) (A:Option Addr) (n c:Nat) (neg':Bool) (A':Option Addr) (n' c':Nat) (q:Rat):Prop:=QAt (WB s) (WB s) w neg A n c neg' A' n' c' q
section
variable {k j s t:Nat} {w w':World} {an an' bn bn':Bool} {aA aA' bA bA':Option Addr} {ak ac ak' ac' bk bc bk' bc':Nat} {q qa qb:Rat}
theorem QS.below (h:QS s w an aA ak ac an' aA' ak' ac' q) (hb:Below w.heap.size w w'):QS s w' an aA ak ac an' aA' ak' ac' q:=QAt.below h hb
theorem QS.mono (h:QS s w an aA ak ac an' aA' ak' ac' q) (hst:s≤t):QS t w an aA ak ac an' aA' ak' ac' q:=by
 obtain ⟨na,da,h1,h2,h3,h4⟩:=h;exact ⟨na,da,h1,Nat.lt_of_lt_of_le h2 (wb_mono hst),Nat.lt_of_lt_of_le h3 (wb_mono hst),h4⟩
theorem QS.ls (h:QS s w an aA ak ac an' aA' ak' ac' q):Ls s q:=by
 obtain ⟨na,da,h1,h2,h3,rfl⟩:=h;exact lv_mk (den_nz da) h2 h3
theorem RQ.qs {A A':Option Addr} {k c k' c':Nat} (h:RQ w q A k c A' k' c') (hq:Ls s q) (hs:s≤10000000000):QS s w (decide (q.num<0)) A k c false A' k' c' q:=by
 have hl:∀ n,n<WB s→(digs n).length≤10000000000:=fun n hn=>Nat.le_trans (digs_len_le.2 hn) hs;refine qat_canon h.1 h.2.1 h.2.2.1 h.2.2.2 ?_ ?_ hq.1 hq.2
 ·rw [← h.2.2.1.1];exact hl _ hq.1
 ·rw [← h.2.2.2.1];unfold denW;split
  ·simp
  ·exact hl _ hq.2
theorem sub_s (hs:s≤1000000000) (ha:QS s w an aA ak ac an' aA' ak' ac' qa) (hb:QS s w bn bA bk bc bn' bA' bk' bc' qb) :
  Calls Tryz.prog 55 #[.agg #[.bool an,.slice aA ak ac,.bool an',.slice aA' ak' ac'],.agg #[.bool bn,.slice bA bk bc,.bool bn',.slice bA' bk' bc']] w (RetQ w (qa-qb)) :=
 qsub_any (WB (s+s+1)) (WB s) (WB s) (wb_ok (by omega)) (wb_mul s s) (by have:=wb_mul s s;omega) _ _ _ _ _ _ _ _ _ _ _ _ _ _ _ _ _ _ _ ha hb
theorem add_s (hs:s≤1000000000) (ha:QS s w an aA ak ac an' aA' ak' ac' qa) (hb:QS s w bn bA bk bc bn' bA' bk' bc' qb) :
  Calls Tryz.prog 42 #[.agg #[.bool an,.slice aA ak ac,.bool an',.slice aA' ak' ac'],.agg #[.bool bn,.slice bA bk bc,.bool bn',.slice bA' bk' bc']] w (RetQ w (qa+qb)) :=
 qadd_any (WB (s+s+1)) (WB s) (WB s) (wb_ok (by omega)) (wb_mul s s) (by have:=wb_mul s s;omega) _ _ _ _ _ _ _ _ _ _ _ _ _ _ _ _ _ _ _ ha hb
theorem eq_s (ha:QS s w an aA ak ac an' aA' ak' ac' qa) (hb:QS s w bn bA bk bc bn' bA' bk' bc' qb) :
  Calls Tryz.prog 44 #[.agg #[.bool an,.slice aA ak ac,.bool an',.slice aA' ak' ac'],.agg #[.bool bn,.slice bA bk bc,.bool bn',.slice bA' bk' bc']] w fun e w'=>e=.returned (.bool (decide (qa=qb)))∧Below w.heap.size w w' :=
 qequal_any _ _ _ _ _ _ _ _ _ _ _ _ _ _ _ _ _ _ _ ha hb
end
end Go.Proofs.YtjajigkacccdgaaGreat
namespace Go.Proofs.YtjajigkacccdgaaGreat
open Go
section
variable {P:Program} {ops fr:Array Oper} {Q:Exit→Act→World→Prop} {N r:Nat}
def wide (l:Array Bool) (r:Nat):Array Bool:=l ++ Array.replicate r false
end
end Go.Proofs.YtjajigkacccdgaaGreat
namespace Go.Proofs.YtjajigkacccdgaaGreat
open Go.RowKit
open Wd
section
variable {cur v W:World} {g g':Nat} {t t':TypeId} {x0 x1 a b:Value} {cs':Array Value}
end
end Go.Proofs.YtjajigkacccdgaaGreat
namespace Go.Proofs.YtjajigkacccdgaaGreat
open Go
section
variable {P:Program} {ops:Array Oper} {Q:Exit→Act→World→Prop} {md:Region.Mode} {S:World→Prop}
theorem tkk {oi:Oper} {v:Value} {fuel:Nat} {listed:Array Bool} {a:Act} {w:World} (i:Nat) (hi:ops[i]?=some oi) (hc:(Region.noSelect ops && (Region.free md ops listed i && (Region.ready md ops listed).contains i))=true)
  (hQ:∀ c a w,Q (.panic c) (a.put oi.dst v) w→Q (.panic c) a w) (hy:YieldsIf P ops S oi v a) (hS:S w) (h:wpAnyH P md ops Q S fuel (listed.setIfInBounds i true) (a.put oi.dst v) w):wpAnyH P md ops Q S (fuel+1) listed a w:=by
 simp only [Bool.and_eq_true] at hc;exact wpAnyH_take hi hc.1 hc.2.1 hc.2.2 hQ hy hS h
end
end Go.Proofs.YtjajigkacccdgaaGreat
namespace Go.Proofs.YtjajigkacccdgaaGreat
open Go.RowKit
open Wd
theorem QS.arg {s:Nat} {w:World} {an an':Bool} {aA aA':Option Addr} {ak ac ak' ac':Nat} {q:Rat} (h:QS s w an aA ak ac an' aA' ak' ac' q):QArg w an aA ak ac an' aA' ak' ac' q:=⟨_,_,h⟩
def QsS (s:Nat) (w:World) (A:Option Addr) (n:Nat) (qs:List Rat):Prop :=
 qs.length=n∧(n≠0→∃ b o,A=some ⟨b,o,none⟩∧b<w.heap.size∧∀ j,j<n→∃ an aA ak ac an' aA' ak' ac',w.cell? ⟨b,o+j*4,none⟩=some (.bool an)∧w.cell? ⟨b,o+j*4+1,none⟩=some (.slice aA ak ac)∧w.cell? ⟨b,o+j*4+2,none⟩=some (.bool an')∧w.cell? ⟨b,o+j*4+3,none⟩=some (.slice aA' ak' ac')∧QS s w an aA ak ac an' aA' ak' ac' (qs[j]?.getD 0))
theorem QsS.below {s:Nat} {w w':World} {A:Option Addr} {n:Nat} {qs:List Rat} (h:QsS s w A n qs) (hb:Below w.heap.size w w'):QsS s w' A n qs:=by
 refine ⟨h.1,fun hn=>?_⟩;obtain ⟨b,o,rfl,hlt,hc⟩:=h.2 hn;refine ⟨b,o,rfl,Nat.lt_of_lt_of_le hlt hb.size,fun j hj=>?_⟩;obtain ⟨an,aA,ak,ac,an',aA',ak',ac',h1,h2,h3,h4,h5⟩:=hc j hj;exact ⟨an,aA,ak,ac,an',aA',ak',ac',(hb.cell hlt).trans h1,(hb.cell hlt).trans h2,(hb.cell hlt).trans h3,(hb.cell hlt).trans h4,h5.below hb⟩
end Go.Proofs.YtjajigkacccdgaaGreat
namespace Go.Proofs.YtjajigkacccdgaaGreat
open Go
open Go.RowKit
open Wd
structure Jn (P:Prop):Prop where
 out:P
section
variable {P:Program} {ops:Array Oper} {Q:Exit→Act→World→Prop} {md:Region.Mode} {S:World→Prop}
theorem tq {oi:Oper} {v:Value} {a2:Act} {l2:Array Bool} {fuel:Nat} {listed:Array Bool} {a:Act} {w:World} (i:Nat) (h:wpAnyH P md ops Q S fuel l2 a2 w)
  (hi:ops[i]?=some oi:=by exact rfl)
  (hc:(Region.noSelect ops && (Region.free md ops listed i && (Region.ready md ops listed).contains i))=true:=by kernel_rfl)
  (hy:Region.wanted oi (yielded ops a.tmps)=true∧∀ w,S w→(execOp a.eval oi).run P w=.ok (.value v) w:=by (refine And.intro (by exact rfl) ?_;intro w hSw;(try dsimp only at hSw);(try simp only [p1,p2,p3]);go_simp;first|done|with_reducible rfl))
  (hQ:∀ c a w,Q (.panic c) (a.put oi.dst v) w→Q (.panic c) a w:=by exact fun _ _ _ h=>h)
  (hS:S w:=by assumption)
  (ha:a.put oi.dst v=a2:=by ((try simp only [Act.put,p1,p2,p3,p4,p5,p6]);exact rfl))
  (hl:listed.setIfInBounds i true=l2:=by ((try simp only [p4,p5,p6]);exact rfl)):wpAnyH P md ops Q S (fuel+1) listed a w:=by
 subst ha;subst hl;exact tkk i hi hc hQ (Or.inl hy) hS h
theorem tu {oi:Oper} {a2:Act} {l2:Array Bool} {fuel:Nat} {listed:Array Bool} {a:Act} {w:World} (i:Nat) (h:wpAnyH P md ops Q S fuel l2 a2 w)
  (hi:ops[i]?=some oi:=by exact rfl)
  (hc:(Region.noSelect ops && (Region.free md ops listed i && (Region.ready md ops listed).contains i))=true:=by kernel_rfl)
  (hy:Region.wanted oi (yielded ops a.tmps)=false:=by exact rfl)
  (hQ:∀ c a w,Q (.panic c) (a.put oi.dst undef) w→Q (.panic c) a w:=by exact fun _ _ _ h=>h)
  (hS:S w:=by assumption)
  (ha:a.put oi.dst undef=a2:=by ((try simp only [Act.put,p1,p2,p3,p4,p5,p6]);exact rfl))
  (hl:listed.setIfInBounds i true=l2:=by ((try simp only [p4,p5,p6]);exact rfl)):wpAnyH P md ops Q S (fuel+1) listed a w:=by
 subst ha;subst hl;exact tkk i hi hc hQ (Or.inr ⟨hy,rfl⟩) hS h
theorem rd1 {o:Oper} {fuel:Nat} {listed:Array Bool} {a:Act} {w:World} (i:Nat)
  (h:∀ K':Act→World→Prop,Shut (∀ a w,S w→(S w→wpAnyH P md ops Q S fuel (listed.setIfInBounds i true) a w)→K' a w)→if Region.wanted o (yielded ops a.tmps)=true then Oper.wp P o a w K' Q else K' (a.put o.dst undef) w)
  (hr:Region.ready md ops listed=[i]:=by kernel_rfl) (ho:ops[i]?=some o:=by exact rfl):wpAnyH P md ops Q S (fuel+1) listed a w :=
 wpAnyH_ready hr (by simp) (AllReadyH.cons ho h AllReadyH.nil)
theorem held_at {C:World→Prop} {id:Nat} {a:Act} {W w:World} (hC:∀ w',Kp W w'→C w') (h0:Kp W w)
  (h:Hid (∀ w',Kp W w'→C w'∧Kp W w')→C w.drew∧Kp W w.drew→wpAnyH P .any ops Q (fun w'=>C w'∧Kp W w') ops.size (Array.replicate ops.size false) a w.drew) (hm:P.follows .mixedOrders=true:=by kernel_rfl):(Code.region id ops true).wp P Q a w :=
 wp_region_held_drew hm ⟨hC _ (Kp.drew h0),Kp.drew h0⟩ (fun hh=>h (Hj fun w' hk=>⟨hC w' hk,hk⟩) hh)
end
theorem cmpQ_gt {a b:Rat}:cmpQ a b=1↔b<a:=by
 unfold cmpQ;split
 ·rename_i h
  have:¬ b<a:=by grind
  simp [this]
 ·split<;>simp_all
theorem num_ltW (q:Rat):q<0↔q.num<0:=by rw [Rat.lt_iff];simp
theorem salloc_no (A:Option Addr) (n c:Nat) (l:List (Int×Int)) (w:World) (h:StAt w A n l) (he:curveE l=0) (an an':Bool) (aA aA':Option Addr) (ak ac ak' ac':Nat) (q:Rat) (hq:QArg w an aA ak ac an' aA' ak' ac' q) (hx:q<0∨((qsum l:Int):Rat)<q) :
  Calls Tryz.prog 89 #[.slice A n c,.agg #[.bool an,.slice aA ak ac,.bool an',.slice aA' ak' ac']] w fun e w'=>e=.returned (.tuple #[.slice none 0 0,.int .i64 1])∧Below w.heap.size w w':=by
 obtain ⟨hn0,hn3,hok⟩:=curve_ok he;have hln:=h.1;have hbd:=qsum_bd l hok;have hlen:(l.length:Int)≤3:=by omega
 have hsum:sumS l=qsum l:=by unfold sumS;rw [if_pos he]
 have CC:=fun W (hW:Below w.heap.size w W)=>checkCurve_any A n c l W (h.below hW) (by omega);have SM:=fun W (hW:Below w.heap.size w W)=>sum_any A n c l W (h.below hW) (by omega);rw [he] at CC;rw [hsum] at SM;have SG:=fun W (hW:Below w.heap.size w W)=>(by obtain ⟨N,D,hqa⟩:=hq.below hW;exact qsign_any an an' aA aA' ak ac ak' ac' q W hqa:Calls Tryz.prog 57 #[.agg #[.bool an,.slice aA ak ac,.bool an',.slice aA' ak' ac']] W fun e w'=>e=.returned (.int .i64 (sgnQ q))∧Below W.heap.size W w');have FI:=fun W=>qfromInt64_any (qsum l) W (by omega) (by omega);have CM:=fun (W:World) (hW:Below w.heap.size w W) (B:Option Addr) (k d:Nat) (B':Option Addr) (k' d':Nat) (h:RQ W ((qsum l:Int):Rat) B k d B' k' d')=>qcmp_arg an an' _ false aA aA' B B' ak ac ak' ac' k d k' d' q _ W (hq.below hW) (WQ.arg h (by omega));generalize qsum l=sl at *;generalize ((sl:Int):Rat)=qs at *;by_cases hneg:q<0
 ·have hsg:decide (sgnQ q<0)=true:=by
   have:=(num_ltW q).1 hneg;unfold sgnQ;rw [cmpI_lt this];decide
  generalize sgnQ q=sq at *;have SG:=Hj SG;have CC:=Hj CC;clear SM FI CM h hq hx hneg;go_enter Tryz.func89,Tryz.ntmps89
  go_wp2_with fail
  have hB0:=Blk.new w 42 #[.bool an,.slice aA ak ac,.bool an',.slice aA' ak' ac'];have hBW:Below w.heap.size w (w.alloc (.cells #[.bool an,.slice aA ak ac,.bool an',.slice aA' ak' ac'] 42)):=(Below.refl _ _).alloc (Nat.le_refl _) _;generalize w.alloc (.cells #[.bool an,.slice aA ak ac,.bool an',.slice aA' ak' ac'] 42)=W at *;refine (CC.out W hBW).mono ?_;rintro e w1 ⟨rfl,hb1⟩;have hB1:=hB0.below hb1 hB0.lt;have hBW1:Below w.heap.size w w1:=hBW.trans (hb1.mono hBW.size);have HBK:=Hj (show ∀ w',Kp w1 w'→Below w.heap.size w w' from fun w' hk=>hBW1.trans (Below.mono hk hBW1.size));clear hb1 hB0 hBW hBW1 CC
  go_wp2_with fail
  refine held_at (W:=w1) (C:=fun w'=>w'.cell? ⟨w.heap.size,0,none⟩=some (.bool an)∧w'.cell? ⟨w.heap.size,1,none⟩=some (.slice aA ak ac)∧w'.cell? ⟨w.heap.size,2,none⟩=some (.bool an')∧w'.cell? ⟨w.heap.size,3,none⟩=some (.slice aA' ak' ac')) (fun w' hk=>⟨(hk.blk hB1).cell 0,(hk.blk hB1).cell 1,(hk.blk hB1).cell 2,(hk.blk hB1).cell 3⟩) (Kp.refl w1) (fun HS hH0=>?_);refine tq 0 ?_;refine rd1 1 fun K hK=>?_
  (try simp only [p1,p2,p3])
  go_simp;have hk:=And.right ‹_∧Kp w1 _›;refine (SG.out _ (HBK.out _ hk)).mono ?_;rintro e v1 ⟨rfl,hbx⟩;have hp:Kp w1 v1:=Kp.trans hk hbx;clear hk hbx
  (try (go_wp2_with fail))
  refine hK.out _ _ (HS.out _ hp) fun hH1=>?_;clear hK K hH0
  (try simp only [Act.put,p1,p2,p3,p4,p5,p6])
  refine tq 2 ?_;refine tq 3 ?_;refine tu 4 ?_;refine tu 5 ?_;refine tu 6 ?_;refine tu 7 ?_;refine tu 8 ?_;refine tu 9 ?_;refine tq 10 ?_;refine wpAnyH_done (by kernel_rfl) ?_ _;clear hH1;have HF:=Hj (HBK.out _ hp);clear hp HS hB1;go_wp2;go_ret2;exact ⟨rfl,HF.out⟩
 ·have hsg:decide (sgnQ q<0)=false:=by
   have h1:¬ q.num<0:=fun hh=>hneg ((num_ltW q).2 hh);apply decide_eq_false;unfold sgnQ;rcases Int.lt_trichotomy q.num 0 with h2|h2|h2
   ·exact absurd h2 h1
   ·rw [h2];decide
   ·rw [cmpI_gt h2];decide
  have hcm:decide (0<cmpQ q qs)=true:=by
   apply decide_eq_true;rw [cmpQ_gt.2 (by rcases hx with hx|hx;exact absurd hx hneg;exact hx)];decide
  generalize sgnQ q=sq at *;generalize cmpQ q qs=cq at *;have SG:=Hj SG;have CC:=Hj CC;have SM:=Hj SM;have FI:=Hj FI;have CM:=Hj CM;clear h hq hx hneg;go_enter Tryz.func89,Tryz.ntmps89
  go_wp2_with fail
  have hB0:=Blk.new w 42 #[.bool an,.slice aA ak ac,.bool an',.slice aA' ak' ac'];have hBW:Below w.heap.size w (w.alloc (.cells #[.bool an,.slice aA ak ac,.bool an',.slice aA' ak' ac'] 42)):=(Below.refl _ _).alloc (Nat.le_refl _) _;generalize w.alloc (.cells #[.bool an,.slice aA ak ac,.bool an',.slice aA' ak' ac'] 42)=W at *;refine (CC.out W hBW).mono ?_;rintro e w1 ⟨rfl,hb1⟩;have hB1:=hB0.below hb1 hB0.lt;have hBW1:Below w.heap.size w w1:=hBW.trans (hb1.mono hBW.size);have HBK:=Hj (show ∀ w',Kp w1 w'→Below w.heap.size w w' from fun w' hk=>hBW1.trans (Below.mono hk hBW1.size));clear hb1 hB0 hBW hBW1 CC
  go_wp2_with fail
  refine held_at (W:=w1) (C:=fun w'=>w'.cell? ⟨w.heap.size,0,none⟩=some (.bool an)∧w'.cell? ⟨w.heap.size,1,none⟩=some (.slice aA ak ac)∧w'.cell? ⟨w.heap.size,2,none⟩=some (.bool an')∧w'.cell? ⟨w.heap.size,3,none⟩=some (.slice aA' ak' ac')) (fun w' hk=>⟨(hk.blk hB1).cell 0,(hk.blk hB1).cell 1,(hk.blk hB1).cell 2,(hk.blk hB1).cell 3⟩) (Kp.refl w1) (fun HS hH0=>?_);refine tq 0 ?_;refine rd1 1 fun K hK=>?_
  (try simp only [p1,p2,p3])
  go_simp;have hk:=And.right ‹_∧Kp w1 _›;refine (SG.out _ (HBK.out _ hk)).mono ?_;rintro e v1 ⟨rfl,hbx⟩;have hp:Kp w1 v1:=Kp.trans hk hbx;clear hk hbx
  (try (go_wp2_with fail))
  refine hK.out _ _ (HS.out _ hp) fun hH2=>?_;clear hK K hH0
  (try simp only [Act.put,p1,p2,p3,p4,p5,p6])
  refine tq 2 ?_;refine tq 3 ?_;refine tq 4 ?_;refine tq 5 ?_;refine rd1 6 fun K hK=>?_
  (try simp only [p1,p2,p3])
  go_simp;have hk:=And.right ‹_∧Kp w1 _›;refine (SM.out _ (HBK.out _ hk)).mono ?_;rintro e v2 ⟨rfl,hbx⟩;have hp:Kp w1 v2:=Kp.trans hk hbx;clear hk hbx
  (try (go_wp2_with fail))
  refine hK.out _ _ (HS.out _ hp) fun hH3=>?_;clear hK K hH2
  (try simp only [Act.put,p1,p2,p3,p4,p5,p6])
  refine rd1 7 fun K hK=>?_
  (try simp only [p1,p2,p3])
  go_simp;have hk:=And.right ‹_∧Kp w1 _›;refine (FI.out _).mono ?_;rintro e v3 ⟨A3,k3,c3,A4,k4,c4,rfl,hk3,hk4,hW3,hW4,-,-,hbx⟩;have hp:Kp w1 v3:=Kp.trans hk hbx;have hrq:=(show RQ v3 qs A3 k3 c3 A4 k4 c4 from ⟨hk3,hk4,hW3,hW4⟩);clear hk hbx hk3 hk4 hW3 hW4
  (try (go_wp2_with fail))
  refine hK.out _ _ (HS.out _ hp) fun hH4=>?_;clear hK K hH3
  (try simp only [Act.put,p1,p2,p3,p4,p5,p6])
  refine rd1 8 fun K hK=>?_
  (try simp only [p1,p2,p3])
  go_simp;have hk:=And.right ‹_∧Kp w1 _›;refine (CM.out _ (HBK.out _ hk) _ _ _ _ _ _ hrq).mono ?_;rintro e v4 ⟨rfl,hbx⟩;have hp:Kp w1 v4:=Kp.trans hk hbx;clear hk hbx hrq
  (try (go_wp2_with fail))
  refine hK.out _ _ (HS.out _ hp) fun hH5=>?_;clear hK K hH4
  (try simp only [Act.put,p1,p2,p3,p4,p5,p6])
  refine tq 9 ?_;refine tq 10 ?_;refine wpAnyH_done (by kernel_rfl) ?_ _;clear hH5;have HF:=Hj (HBK.out _ hp);clear hp HS hB1;go_wp2;go_ret2;exact ⟨rfl,HF.out⟩
def ErrQ (w:World) (x:Int) (e:Ending) (w':World):Prop:=e=.returned (.tuple #[.agg #[.bool false,.slice none 0 0,.bool false,.slice none 0 0],.int .i64 x])∧Below w.heap.size w w'
theorem scost_no (A:Option Addr) (n c:Nat) (l:List (Int×Int)) (w:World) (h:StAt w A n l) (he:curveE l=0) (an an':Bool) (aA aA':Option Addr) (ak ac ak' ac':Nat) (q:Rat) (hq:QArg w an aA ak ac an' aA' ak' ac' q) (hx:q<0∨((qsum l:Int):Rat)<q) :
  Calls Tryz.prog 41 #[.slice A n c,.agg #[.bool an,.slice aA ak ac,.bool an',.slice aA' ak' ac']] w (ErrQ w 1):=by
 have TA:=Hj (fun W (hW:Below w.heap.size w W)=>salloc_no A n c l W (h.below hW) he an an' aA aA' ak ac ak' ac' q (hq.below hW) hx);unfold ErrQ;clear h hq hx he;go_enter Tryz.func41,Tryz.ntmps41
 go_wp2_with fail
 obtain ⟨hB0,hB1,hBW,hsz⟩:=pre2 w 42 #[.bool an,.slice aA ak ac,.bool an',.slice aA' ak' ac'] 42 #[.bool false,.slice none 0 0,.bool false,.slice none 0 0];generalize (w.alloc (.cells #[.bool an,.slice aA ak ac,.bool an',.slice aA' ak' ac'] 42)).alloc (.cells #[.bool false,.slice none 0 0,.bool false,.slice none 0 0] 42)=W at *;have HSZ:=Hj hsz;clear hsz;refine (TA.out W hBW).mono ?_;rintro e w1 ⟨rfl,hb1⟩;have hr:=(RS4.start hB1).call hb1;obtain ⟨_,_,_,_,c0,c1,c2,c3,f0,f1,f2,f3⟩:=hr.four;obtain ⟨d0,d1,d2,d3,-,-,-,-⟩:=(hr.done (.bool false) (.slice none 0 0) (.bool false) (.slice none 0 0)).four;have HF:=Hj (below_set4 (g:=w.heap.size+1) (hBW.trans (hb1.mono hBW.size)) (by omega) (.bool false) (.slice none 0 0) (.bool false) (.slice none 0 0));clear hr hb1 hB0 hB1 hBW TA;go_wp2;refine bodyPost_ret (v:=.tuple #[.agg #[.bool false,.slice none 0 0,.bool false,.slice none 0 0],.int .i64 1]) ?_ rfl ⟨rfl,HF.out⟩;simp [results,Tryz.results41,go_sem,d0,d1,d2,d3]
end Go.Proofs.YtjajigkacccdgaaGreat
namespace Go.Proofs.YtjajigkacccdgaaGreat
open Go.RowKit
open Wd
attribute [local go_sem ↓] Go.wp_at_zero Go.wp_at_succ
def TotR (w:World) (g g':Nat) (m s:Rat) (A:Option Addr) (j c:Nat) (A':Option Addr) (j' c':Nat) (B:Option Addr) (i d:Nat) (B':Option Addr) (i' d':Nat) (wr:World):Prop :=
 Below w.heap.size w wr∧Blk wr g 42 #[.bool (decide ((m).num<0)),.slice A j c,.bool false,.slice A' j' c']∧CQ w.heap.size wr m A j c A' j' c'∧Blk wr g' 42 #[.bool (decide ((s).num<0)),.slice B i d,.bool false,.slice B' i' d']∧CQ w.heap.size wr s B i d B' i' d'
section
variable {w wr:World} {g g':Nat} {m s:Rat} {A A' B B':Option Addr} {j c j' c' i d i' d':Nat}
theorem TotR.drew (h:TotR w g g' m s A j c A' j' c' B i d B' i' d' wr):TotR w g g' m s A j c A' j' c' B i d B' i' d' wr.drew :=
 ⟨h.1.drew,h.2.1,h.2.2.1.below (Kp.drew (Kp.refl wr)),h.2.2.2.1,h.2.2.2.2.below (Kp.drew (Kp.refl wr))⟩
theorem TotR.call {w':World} (h:TotR w g g' m s A j c A' j' c' B i d B' i' d' wr) (hb:Below wr.heap.size wr w'):TotR w g g' m s A j c A' j' c' B i d B' i' d' w' :=
 ⟨h.1.trans (hb.mono h.1.size),h.2.1.below hb h.2.1.lt,h.2.2.1.below hb,h.2.2.2.1.below hb h.2.2.2.1.lt,h.2.2.2.2.below hb⟩
theorem TotR.put1 {m2:Rat} {A2 A2':Option Addr} {j2 c2 j2' c2':Nat} (h:TotR w g g' m s A j c A' j' c' B i d B' i' d' wr) (hg:w.heap.size≤g) (hne:g'≠g) (h2:CQ w.heap.size wr m2 A2 j2 c2 A2' j2' c2') :
  TotR w g g' m2 s A2 j2 c2 A2' j2' c2' B i d B' i' d' ((((wr.setCell ⟨g,0,none⟩ (.bool (decide ((m2).num<0)))).setCell ⟨g,1,none⟩ (.slice A2 j2 c2)).setCell ⟨g,2,none⟩ (.bool false)).setCell ⟨g,3,none⟩ (.slice A2' j2' c2')):=by
 have e:((((wr.setCell ⟨g,0,none⟩ (.bool (decide ((m2).num<0)))).setCell ⟨g,1,none⟩ (.slice A2 j2 c2)).setCell ⟨g,2,none⟩ (.bool false)).setCell ⟨g,3,none⟩ (.slice A2' j2' c2'))=qst wr g 0 (decide (m2.num<0)) false A2 A2' j2 c2 j2' c2':=rfl;rw [e];exact ⟨below_qst h.1 hg,h.2.1.put4,h2.put4 h.2.1 NoInt.four,h.2.2.2.1.far4 hne,h.2.2.2.2.put4 h.2.1 NoInt.four⟩
theorem TotR.put2 {s2:Rat} {B2 B2':Option Addr} {i2 d2 i2' d2':Nat} (h:TotR w g g' m s A j c A' j' c' B i d B' i' d' wr) (hg:w.heap.size≤g') (hne:g≠g') (h2:CQ w.heap.size wr s2 B2 i2 d2 B2' i2' d2') :
  TotR w g g' m s2 A j c A' j' c' B2 i2 d2 B2' i2' d2' ((((wr.setCell ⟨g',0,none⟩ (.bool (decide ((s2).num<0)))).setCell ⟨g',1,none⟩ (.slice B2 i2 d2)).setCell ⟨g',2,none⟩ (.bool false)).setCell ⟨g',3,none⟩ (.slice B2' i2' d2')):=by
 have e:((((wr.setCell ⟨g',0,none⟩ (.bool (decide ((s2).num<0)))).setCell ⟨g',1,none⟩ (.slice B2 i2 d2)).setCell ⟨g',2,none⟩ (.bool false)).setCell ⟨g',3,none⟩ (.slice B2' i2' d2'))=qst wr g' 0 (decide (s2.num<0)) false B2 B2' i2 d2 i2' d2':=rfl;rw [e];exact ⟨below_qst h.1 hg,h.2.1.far4 hne,h.2.2.1.put4 h.2.2.2.1 NoInt.four,h.2.2.2.1.put4,h2.put4 h.2.2.2.1 NoInt.four⟩
end
def TotP (w:World) (m s:Rat) (e:Ending) (w':World):Prop:=∃ A j c A' j' c' B i d B' i' d',e=.returned (.tuple #[.agg #[.bool (decide ((m).num<0)),.slice A j c,.bool false,.slice A' j' c'],.agg #[.bool (decide ((s).num<0)),.slice B i d,.bool false,.slice B' i' d'],.int .i64 0])∧CQ w.heap.size w' m A j c A' j' c'∧CQ w.heap.size w' s B i d B' i' d'∧Below w.heap.size w w'
theorem total_gen (A B:Option Addr) (n c d:Nat) (ls:List (List (Int×Int))) (es:List QE) (w:World) (h:CsAt w A n ls) (hq:QsAtR w B n es) (hn:n≤1000) (co m s:Nat→Rat) (m0:m 0=0) (s0:s 0=0)
  (HC:∀ k,k<n→∀ W,Below w.heap.size w W→∀ A' n' c',StAt W A' n' (ls[k]?.getD [])→Calls Tryz.prog 41 #[.slice A' n' c',.agg #[.bool (es[k]?.getD QE0).1,.slice (es[k]?.getD QE0).2.1.1 (es[k]?.getD QE0).2.1.2.1 (es[k]?.getD QE0).2.1.2.2,.bool (es[k]?.getD QE0).2.2.1,.slice (es[k]?.getD QE0).2.2.2.1 (es[k]?.getD QE0).2.2.2.2.1 (es[k]?.getD QE0).2.2.2.2.2]] W (CstPost W (co k)))
  (HM:∀ k,k<n→∀ W (A A':Option Addr) (j c j' c':Nat) (B B':Option Addr) (i d i' d':Nat),WQ W (m k) A j c A' j' c'→WQ W (co k) B i d B' i' d'→Calls Tryz.prog 42 #[.agg #[.bool (decide ((m k).num<0)),.slice A j c,.bool false,.slice A' j' c'],.agg #[.bool (decide ((co k).num<0)),.slice B i d,.bool false,.slice B' i' d']] W (RetQ W (m (k+1))))
  (HS:∀ k,k<n→∀ W,Below w.heap.size w W→∀ (A A':Option Addr) (j c j' c':Nat),WQ W (s k) A j c A' j' c'→Calls Tryz.prog 42 #[.agg #[.bool (decide ((s k).num<0)),.slice A j c,.bool false,.slice A' j' c'],.agg #[.bool (es[k]?.getD QE0).1,.slice (es[k]?.getD QE0).2.1.1 (es[k]?.getD QE0).2.1.2.1 (es[k]?.getD QE0).2.1.2.2,.bool (es[k]?.getD QE0).2.2.1,.slice (es[k]?.getD QE0).2.2.2.1 (es[k]?.getD QE0).2.2.2.2.1 (es[k]?.getD QE0).2.2.2.2.2]] W (RetQ W (s (k+1)))) :
  Calls Tryz.prog 114 #[.slice A n c,.slice B n d] w (TotP w (m n) (s n)):=by
 have HX:=Hj h;have HQ:=Hj hq;have HCH:=Hj HC;have HMH:=Hj HM;have HSH:=Hj HS;have M0:=Hj m0;have S0:=Hj s0;clear h hq HC HM HS m0 s0;go_enter Tryz.func114,Tryz.ntmps114
 go_wp2_with fail
 have bx1:=(Blk.new w 42 #[.bool false,.slice none 0 0,.bool false,.slice none 0 0]).alloc (.cells #[.bool false,.slice none 0 0,.bool false,.slice none 0 0] 42);have bx2:=Blk.new (w.alloc (.cells #[.bool false,.slice none 0 0,.bool false,.slice none 0 0] 42)) 42 #[.bool false,.slice none 0 0,.bool false,.slice none 0 0];have hb0:=((Below.refl w.heap.size w).alloc (Nat.le_refl _) (.cells #[.bool false,.slice none 0 0,.bool false,.slice none 0 0] 42)).alloc (by simp only [World.size_alloc];omega) (.cells #[.bool false,.slice none 0 0,.bool false,.slice none 0 0] 42);simp only [World.size_alloc] at bx2;generalize (w.alloc (.cells #[.bool false,.slice none 0 0,.bool false,.slice none 0 0] 42)).alloc (.cells #[.bool false,.slice none 0 0,.bool false,.slice none 0 0] 42)=W at *;have hst:TotR w w.heap.size (w.heap.size+1) (m 0) (s 0) none 0 0 none 0 0 none 0 0 none 0 0 W:=by
  rw [M0.out,S0.out];exact ⟨hb0,bx1,CQ.zero,bx2,CQ.zero⟩
 have HST:=Hj hst;clear bx1 bx2 hb0 hst M0 S0
 go_loopw [13] (fun t wr=>∃ (k:Nat) (A1:Option Addr) (j c:Nat) (A2:Option Addr) (j' c':Nat) (B1:Option Addr) (i d:Nat) (B2:Option Addr) (i' d':Nat),k≤n∧t=.int .i64 k∧Hid (TotR w w.heap.size (w.heap.size+1) (m k) (s k) A1 j c A2 j' c' B1 i d B2 i' d' wr)) (fun t _=>n-(intOf t).toNat)
 case atStart=>exact ⟨0,none,0,0,none,0,0,none,0,0,none,0,0,Nat.zero_le _,rfl,HST.out⟩
 case round =>
  clear HST;obtain ⟨k,A1,j1,c1,A2,j2,c2,B1,i1,d1,B2,i2,d2,hk,rfl,hR⟩:=hrel;by_cases hlt:k<n
  ·obtain ⟨b,o,rfl,hb,hc⟩:=HX.out.2 (by omega);obtain ⟨A',n',c',hcell,hst⟩:=hc k hlt;obtain ⟨b',o',rfl,hb',hq'⟩:=HQ.out.2 (by omega);obtain ⟨e0,e1,e2,e3⟩:=hq' k hlt;have hki1:(0:Int)≤(k:Int):=by omega
   have hki2:(k:Int)<(n:Int):=by omega
   have HC1:=Hj (fun W (hW:Below w.heap.size w W)=>HCH.out k hlt W hW A' n' c' (hst.below hW));have HM1:=Hj (HMH.out k hlt);have HS1:=Hj (HSH.out k hlt);have hcl:=(hR.out.1.cell (p:=⟨b,o+k,none⟩) hb).trans hcell;have hS0:∀ w',Below w.heap.size w w'→w'.cell? ⟨b',o'+k*4,none⟩=some (.bool (es[k]?.getD QE0).1)∧w'.cell? ⟨b',o'+k*4+1,none⟩=some (.slice (es[k]?.getD QE0).2.1.1 (es[k]?.getD QE0).2.1.2.1 (es[k]?.getD QE0).2.1.2.2)∧w'.cell? ⟨b',o'+k*4+2,none⟩=some (.bool (es[k]?.getD QE0).2.2.1)∧w'.cell? ⟨b',o'+k*4+3,none⟩=some (.slice (es[k]?.getD QE0).2.2.2.1 (es[k]?.getD QE0).2.2.2.2.1 (es[k]?.getD QE0).2.2.2.2.2):=fun w' hk=>⟨(hk.cell (p:=⟨b',_,none⟩) hb').trans e0,(hk.cell (p:=⟨b',_,none⟩) hb').trans e1,(hk.cell (p:=⟨b',_,none⟩) hb').trans e2,(hk.cell (p:=⟨b',_,none⟩) hb').trans e3⟩;generalize es[k]?.getD QE0=x at *;generalize hmz:m (k+1)=mz at *;generalize hsz:s (k+1)=sz at *;have HMZ:=Hj hmz;have HSZ:=Hj hsz;clear hmz hsz;generalize m k=mk at *;generalize s k=sk at *;generalize co k=ck at *;have HS0:=Hj hS0;obtain ⟨u0,u1,u2,u3⟩:=hS0 wr hR.out.1;have hne1:w.heap.size+1≠w.heap.size:=by omega
   have hne2:w.heap.size≠w.heap.size+1:=by omega
   clear hc hq' e0 e1 e2 e3 hcell hst hS0 HCH HMH HSH
   go_wp2_with fail
   refine (HC1.out wr hR.out.1).mono ?_;rintro e w1 ⟨A3,j3,c3,A4,j4,c4,rfl,hcq,hb1⟩;have hr1:=hR.out.call hb1;have kx:=(Kp.refl w1).alloc (.cells #[.bool (decide ((ck).num<0)),.slice A3 j3 c3,.bool false,.slice A4 j4 c4] 42);have hr2:=hr1.call kx;have bx:=Blk.new w1 42 #[.bool (decide ((ck).num<0)),.slice A3 j3 c3,.bool false,.slice A4 j4 c4];have hq2:=hcq.wq.below kx;have HR2:=Hj hr2;have HQ2:=Hj hq2;obtain ⟨f0,f1,f2,f3,-,-,-,-⟩:=bx.four;obtain ⟨p0,p1,p2,p3,-,-,-,-⟩:=hr2.2.1.four;clear hcq hb1 hr1 kx hr2 bx hq2 hR HC1 hcl u0 u1 u2 u3
   go_wp2_with fail
   refine (HM1.out _ _ _ _ _ _ _ _ _ _ _ _ _ HR2.out.2.2.1.wq HQ2.out).mono ?_;rintro e w2 ⟨A5,j5,c5,A6,j6,c6,rfl,hk5,hk6,hW5,hW6,hF5,hF6,hb2⟩;have hp3:=(HR2.out.call hb2).put1 (m2:=mz) (Nat.le_refl _) hne1 ⟨hk5,hk6,hW5,hW6,hF5.mono HR2.out.1.size,hF6.mono HR2.out.1.size⟩;have HP3:=Hj hp3;obtain ⟨z0,z1,z2,z3,z4,z5,z6,z7⟩:=(HR2.out.call hb2).2.1.four;clear hk5 hk6 hW5 hW6 hF5 hF6 hb2 hp3 HR2 HQ2 HM1 f0 f1 f2 f3 p0 p1 p2 p3
   go_wp2_with fail
   clear z0 z1 z2 z3 z4 z5 z6 z7;generalize ((((w2.setCell ⟨w.heap.size,0,none⟩ (.bool (decide ((mz).num<0)))).setCell ⟨w.heap.size,1,none⟩ (.slice A5 j5 c5)).setCell ⟨w.heap.size,2,none⟩ (.bool false)).setCell ⟨w.heap.size,3,none⟩ (.slice A6 j6 c6))=W3 at *;have hr4:=HP3.out;obtain ⟨q0,q1,q2,q3,-,-,-,-⟩:=hr4.2.2.2.1.four;obtain ⟨u0,u1,u2,u3⟩:=HS0.out W3 hr4.1;have s5:=Kp.refl W3;have hbx:=hr4.2.2.2.1;clear hr4
   go_region_with (first
    | (go_at_call 42;refine (HS1.out _ (HP3.out.1.trans (Below.mono (Kp.drew s5) HP3.out.1.size)) _ _ _ _ _ _ (HP3.out.2.2.2.2.wq.below (Kp.drew s5))).mono ?_;rintro e v7 ⟨A7,j7,c7,B7,m7,d7,rfl,hk7,hm7,hW7,hV7,hF7,hG7,hb5⟩;have hp7:Kp W3 v7:=Kp.trans (Kp.drew s5) hb5;obtain ⟨i0,i1,i2,i3,i4,i5,i6,i7⟩:=(Kp.blk hp7 hbx).four;clear hb5))
   all_goals
    have hp8:=(HP3.out.call hp7).put2 (s2:=sz) (by omega) hne2 ⟨hk7,hm7,hW7,hV7,hF7.mono HP3.out.1.size,hG7.mono HP3.out.1.size⟩;generalize ((((v7.setCell ⟨w.heap.size+1,0,none⟩ (.bool (decide ((sz).num<0)))).setCell ⟨w.heap.size+1,1,none⟩ (.slice A7 j7 c7)).setCell ⟨w.heap.size+1,2,none⟩ (.bool false)).setCell ⟨w.heap.size+1,3,none⟩ (.slice B7 m7 d7))=W8 at *;have HF:=Hj hp8;clear hp8 i0 i1 i2 i3 i4 i5 i6 i7 hp7 s5 hk7 hm7 hW7 hV7 hF7 hG7 q0 q1 q2 q3 u0 u1 u2 u3 hbx HP3;go_wp2;go_roundw
    case rel=>exact ⟨k+1,A5,j5,c5,A6,j6,c6,A7,j7,c7,B7,m7,d7,by omega,by go_num,by rw [HMZ.out,HSZ.out];exact HF.out⟩
    case measure=>simp [intOf];omega
  ·obtain rfl:k=n:=by omega
   have hr:=hR.out;obtain ⟨p0,p1,p2,p3,p4,p5,p6,p7⟩:=hr.2.1.four;obtain ⟨q0,q1,q2,q3,q4,q5,q6,q7⟩:=hr.2.2.2.1.four;have HR:=Hj hr;clear hr hR HCH HMH HSH
   go_wp2_with fail
   go_region_with (fail)
   all_goals
    have hp9:=(HR.out.put1 (m2:=m k) (Nat.le_refl _) (by omega) HR.out.2.2.1).put2 (s2:=s k) (by omega) (by omega) (HR.out.2.2.2.2.put4 (o:=0) (a:=decide ((m k).num<0)) (b:=false) (B:=A1) (B':=A2) (j:=j1) (d:=c1) (j':=j2) (d':=c2) HR.out.2.1 NoInt.four);generalize ((((((((wr.setCell ⟨w.heap.size,0,none⟩ (.bool (decide ((m k).num<0)))).setCell ⟨w.heap.size,1,none⟩ (.slice A1 j1 c1)).setCell ⟨w.heap.size,2,none⟩ (.bool false)).setCell ⟨w.heap.size,3,none⟩ (.slice A2 j2 c2)).setCell ⟨w.heap.size+1,0,none⟩ (.bool (decide ((s k).num<0)))).setCell ⟨w.heap.size+1,1,none⟩ (.slice B1 i1 d1)).setCell ⟨w.heap.size+1,2,none⟩ (.bool false)).setCell ⟨w.heap.size+1,3,none⟩ (.slice B2 i2 d2))=W8 at *;obtain ⟨a0,a1,a2,a3,-,-,-,-⟩:=hp9.2.1.four;obtain ⟨b0,b1,b2,b3,-,-,-,-⟩:=hp9.2.2.2.1.four;have HF:=Hj hp9;clear hp9 HR p0 p1 p2 p3 p4 p5 p6 p7 q0 q1 q2 q3 q4 q5 q6 q7;go_wp2;refine bodyPost_ret (v:=.tuple #[.agg #[.bool (decide ((m k).num<0)),.slice A1 j1 c1,.bool false,.slice A2 j2 c2],.agg #[.bool (decide ((s k).num<0)),.slice B1 i1 d1,.bool false,.slice B2 i2 d2],.int .i64 0]) ?_ rfl ⟨A1,j1,c1,A2,j2,c2,B1,i1,d1,B2,i2,d2,rfl,HF.out.drew.2.2.1,HF.out.drew.2.2.2.2,HF.out.drew.1⟩;simp [results,Tryz.results114,go_sem,a0,a1,a2,a3,b0,b1,b2,b3]
end Go.Proofs.YtjajigkacccdgaaGreat
