/-
Lemmas of the walk; no further conditions.
-/
import Derived.Test.YtjajigkacccdgaaGreatTfAZ
import Derived.Test.YtjajigkacccdgaaGreatTfBA
import Derived.OrdersHeld
import Derived.Deep.RegionHeld3
import Derived.Test.YtjajigkacccdgaaGreatTfAQ
set_option linter.unusedVariables false
set_option linter.unusedSimpArgs false
set_option maxRecDepth 100000
set_option maxHeartbeats 16000000
namespace Go.Proofs.YtjajigkacccdgaaGreat
open Go.RowKit
open Wd
def Vr:List (Value→World→Prop)→Nat→Value→World→Prop
 | [],_,_,_=>True
 | p :: _,0,v,w=>p v w
 | _ :: l,j+1,v,w=>Vr l j v w
def Stay (p:Value→World→Prop):Prop:=∀ v w w',p v w→Kp w w'→p v w'
theorem Vr.keep:∀ {l:List (Value→World→Prop)} (_:∀ p∈l,Stay p) (j:Nat) (v:Value) (w w':World),Vr l j v w→Kp w w'→Vr l j v w'
 | [],_,_,_,_,_,_,_=>trivial
 | p :: l,h,0,v,w,w',hv,hk=>h p (List.mem_cons_self ..) v w w' hv hk
 | _ :: l,h,j+1,v,w,w',hv,hk=>Vr.keep (l:=l) (fun p hp=>h p (List.mem_cons_of_mem _ hp)) j v w w' hv hk
def Vis (x v:Value) (_:World):Prop:=v=x
def Vz (z:Int) (v:Value) (w:World):Prop:=∃ A k c,v=.agg #[.bool (decide (z<0)),.slice A k c]∧ZK w (decide (z<0)) A k z
def Vn (n:Nat) (v:Value) (w:World):Prop:=∃ A k c,v=.agg #[.bool false,.slice A k c]∧ZK w false A k (n:Int)
def Vb (W:World) (t:TypeId) (cs:Array Value) (v:Value) (w:World):Prop:=∃ g,v=.pointer (some ⟨g,0,none⟩)∧Blk w g t cs∧W.heap.size≤g
theorem Vis.stay (x:Value):Stay (Vis x):=fun _ _ _ h _=>h
theorem Vz.stay (z:Int):Stay (Vz z):=fun _ _ _ ⟨A,k,c,h1,h2⟩ hk=>⟨A,k,c,h1,h2.below hk⟩
theorem Vn.stay (n:Nat):Stay (Vn n):=fun _ _ _ ⟨A,k,c,h1,h2⟩ hk=>⟨A,k,c,h1,h2.below hk⟩
theorem Vb.stay (W:World) (t:TypeId) (cs:Array Value):Stay (Vb W t cs):=fun _ _ _ ⟨g,h1,h2,h3⟩ hk=>⟨g,h1,Kp.blk hk h2,h3⟩
theorem call_via {P:Program} {f:FuncId} {args args':Array Value} {w:World} {R:Ending→World→Prop} (h:Calls P f args w R) (e:args'=args):Calls P f args' w R:=e ▸ h
theorem kp_new {cur v:World} {o:Obj} (h:cur.alloc o=v):Kp cur v:=h ▸ (Kp.refl cur).alloc o
section
variable {cur v W:World} {g g':Nat} {t t':TypeId} {x0 x1 a b:Value} {cs':Array Value}
theorem blk_st (hv:(cur.setCell ⟨g,0,none⟩ a).setCell ⟨g,1,none⟩ b=v) (h:Blk cur g t #[x0,x1]):Blk v g t #[a,b]:=hv ▸ h.set2 a b
theorem blk_stf (hv:(cur.setCell ⟨g,0,none⟩ a).setCell ⟨g,1,none⟩ b=v) (h:Blk cur g' t' cs') (hne:g≠g'):Blk v g' t' cs' :=
 hv ▸ (h.far (p:=⟨g,0,none⟩) hne.symm a).far (p:=⟨g,1,none⟩) hne.symm b
theorem kp_st (hv:(cur.setCell ⟨g,0,none⟩ a).setCell ⟨g,1,none⟩ b=v) (h:Kp W cur) (hg:W.heap.size≤g):Kp W v :=
 hv ▸ (Below.setCell h (p:=⟨g,0,none⟩) hg a).setCell (p:=⟨g,1,none⟩) hg b
theorem zk_st {y0:Bool} {y1:Option Addr} {k c:Nat} {e0:Bool} {e1:Option Addr} {e2 e3:Nat} {s:Bool} {A:Option Addr} {n:Nat} {z:Int} (hv:(cur.setCell ⟨g,0,none⟩ (.bool e0)).setCell ⟨g,1,none⟩ (.slice e1 e2 e3)=v) (h:Blk cur g t #[.bool y0,.slice y1 k c]) (hZ:ZK cur s A n z):ZK v s A n z:=by
 obtain ⟨l,h1,h2⟩:=hZ;subst hv;refine ⟨l,?_,h2⟩;have n0:NoInt #[.bool y0,.slice y1 k c]:=by
  intro i x k hi;rcases i with _|_|i<;>simp at hi
 exact (h1.setQ h n0 0 _).setQ (h.set 0 (.bool e0)) (n0.set 0 (.bool e0) (by simp)) 1 _
end
theorem raddq_s {s:Nat} (hs:s≤1000000000) (an an' bn bn':Bool) (A A' B B':Option Addr) (n c n' c' m d m' d':Nat) (qa qb:Rat) (w:World) (ha:QS s w an A n c an' A' n' c' qa) (hb:QS s w bn B m d bn' B' m' d' qb) :
  Calls Tryz.prog 78 #[.agg #[.bool an,.slice A n c,.bool an',.slice A' n' c'],.agg #[.bool bn,.slice B m d,.bool bn',.slice B' m' d']] w (RetQ w (qa+qb)):=by
 obtain ⟨na,da,hQ,h1,h2,hq,h0⟩:=ha.qz (by omega);obtain ⟨nb,db,hR,g1,g2,hr,g0⟩:=hb.qz (by omega);have LEN1:=Hj (wb_half h1 (by omega));have LEN6:=Hj (wb_half g1 (by omega));have LEN8:=Hj (wb_half h2 (by omega));have LEN3:=Hj (wb_half g2 (by omega));have LEN24:=LEN8;have LEN26:=LEN3;have h3:=Nat.mul_lt_mul'' h1 g2;have h4:=Nat.mul_lt_mul'' g1 h2;have h5:=wb_mul s s;have LEN4:=Hj (show (hd (qnum na da*((qden db).natAbs:Int)).natAbs).length≤6000000000 by rw [Int.natAbs_mul,Int.natAbs_natCast];exact wb_mul_half h1 g2 hs);have LEN9:=Hj (show (hd (qnum nb db*((qden da).natAbs:Int)).natAbs).length≤6000000000 by rw [Int.natAbs_mul,Int.natAbs_natCast];exact wb_mul_half g1 h2 hs);have LEN22:=Hj (show (hd (qnum na da*((qden db).natAbs:Int)+qnum nb db*((qden da).natAbs:Int)).natAbs).length≤6000000000 by
  refine wb_half (s:=s+s+1) (Nat.lt_of_le_of_lt (Int.natAbs_add_le _ _) ?_) (by omega);rw [Int.natAbs_mul,Int.natAbs_natCast,Int.natAbs_mul,Int.natAbs_natCast];omega)
 have LEN27:=Hj (show (hd ((qden da).natAbs*(qden db).natAbs)).length≤6000000000 from wb_mul_half h2 g2 hs);have hv0:(qden da).natAbs*(qden db).natAbs≠0:=Nat.mul_ne_zero h0 g0;have hy:qa+qb=mkRat (qnum na da*((qden db).natAbs:Int)+qnum nb db*((qden da).natAbs:Int)) ((qden da).natAbs*(qden db).natAbs):=by rw [hq,hr,Rat.mkRat_add_mkRat _ _ h0 g0]
 generalize qa+qb=y at *;clear ha hb h1 h2 g1 g2 hq hr h0 g0 h3 h4 h5;go_enter Tryz.func78,Tryz.ntmps78
 go_wp2_with fail
 obtain ⟨hB0,hB1,hB2,hBW,hsz⟩:=pre3 w 42 #[.bool an,.slice A n c,.bool an',.slice A' n' c'] 42 #[.bool bn,.slice B m d,.bool bn',.slice B' m' d'] 42 #[.bool false,.slice none 0 0,.bool false,.slice none 0 0];generalize ((w.alloc (.cells #[.bool an,.slice A n c,.bool an',.slice A' n' c'] 42)).alloc (.cells #[.bool bn,.slice B m d,.bool bn',.slice B' m' d'] 42)).alloc (.cells #[.bool false,.slice none 0 0,.bool false,.slice none 0 0] 42)=W at *;have HSZ:=Hj hsz;clear hsz;have HBW:=Hj hBW;have TN:=Hj (fun W' (hW:Kp W W')=>rnum_z an an' A A' n c n' c' na da W' (hQ.below (HBW.out.trans (Below.mono hW HBW.out.size))));have TD:=Hj (fun W' (hW:Kp W W')=>rden_z an an' A A' n c n' c' na da W' (hQ.below (HBW.out.trans (Below.mono hW HBW.out.size))));have TN2:=Hj (fun W' (hW:Kp W W')=>rnum_z bn bn' B B' m d m' d' nb db W' (hR.below (HBW.out.trans (Below.mono hW HBW.out.size))));have TD2:=Hj (fun W' (hW:Kp W W')=>rden_z bn bn' B B' m d m' d' nb db W' (hR.below (HBW.out.trans (Below.mono hW HBW.out.size))));have TM:=Hj (fun W' (s t:Bool) (C D:Option Addr) (j e j' e':Nat) (hC:ZK W' s C j (qnum na da)) (hD:ZK W' t D j' ((qden db).natAbs:Int))=>rmul_z s t C D j e j' e' (qnum na da) ((qden db).natAbs:Int) W' hC hD);have TM2:=Hj (fun W' (s t:Bool) (C D:Option Addr) (j e j' e':Nat) (hC:ZK W' s C j (qnum nb db)) (hD:ZK W' t D j' ((qden da).natAbs:Int))=>rmul_z s t C D j e j' e' (qnum nb db) ((qden da).natAbs:Int) W' hC hD);have TM3:=Hj (fun W' (C D:Option Addr) (j e j' e':Nat) (hC:ZK W' false C j ((qden da).natAbs:Int)) (hD:ZK W' false D j' ((qden db).natAbs:Int))=>(rmul_z false false C D j e j' e' ((qden da).natAbs:Int) ((qden db).natAbs:Int) W' hC hD).mono fun _ _ h=>RetZ.toN (v:=(qden da).natAbs*(qden db).natAbs) (by rw [Int.natCast_mul];exact h));generalize qnum na da*((qden db).natAbs:Int)=z4 at *;generalize qnum nb db*((qden da).natAbs:Int)=z9 at *;have TA:=Hj (fun W' (s t:Bool) (C D:Option Addr) (j e j' e':Nat) (hC:ZK W' s C j z4) (hD:ZK W' t D j' z9)=>radd_z s t C D j e j' e' z4 z9 W' hC hD);have TO:=Hj (fun W' (s:Bool) (C D:Option Addr) (j e j' e':Nat) (hC:ZK W' s C j (z4+z9)) (hD:ZK W' false D j' ((((qden da).natAbs*(qden db).natAbs:Nat)):Int))=>rover_z s C D j e j' e' (z4+z9) ((qden da).natAbs*(qden db).natAbs) W' hC hD hv0);rw [← hy] at TO;generalize z4+z9=z22 at *;generalize (qden da).natAbs*(qden db).natAbs=v27 at *;generalize qnum na da=z1 at *;generalize qnum nb db=z6 at *;generalize (qden da).natAbs=v8 at *;generalize (qden db).natAbs=v3 at *;have HS:=Hj (show ∀ w',Kp W w'→(w'.cell? ⟨w.heap.size,0,none⟩=some (.bool an)∧w'.cell? ⟨w.heap.size,1,none⟩=some (.slice A n c)∧w'.cell? ⟨w.heap.size,2,none⟩=some (.bool an')∧w'.cell? ⟨w.heap.size,3,none⟩=some (.slice A' n' c')∧w'.cell? ⟨w.heap.size+1,0,none⟩=some (.bool bn)∧w'.cell? ⟨w.heap.size+1,1,none⟩=some (.slice B m d)∧w'.cell? ⟨w.heap.size+1,2,none⟩=some (.bool bn')∧w'.cell? ⟨w.heap.size+1,3,none⟩=some (.slice B' m' d'))∧Kp W w' from fun w' hk=>⟨⟨(hk.blk hB0).cell 0,(hk.blk hB0).cell 1,(hk.blk hB0).cell 2,(hk.blk hB0).cell 3,(hk.blk hB1).cell 0,(hk.blk hB1).cell 1,(hk.blk hB1).cell 2,(hk.blk hB1).cell 3⟩,hk⟩);have HB2:=Hj hB2;have HB0:=Hj hB0;have HB1:=Hj hB1;clear hQ hR hy hv0 hB0 hB1 hB2 hBW
 go_upto_region 1 with fail
 go_cut [5,6] (fun s t wx=>∃ g5 g6 A4 k4 c4 A9 k9 c9,s=.pointer (some ⟨g5,0,none⟩)∧t=.pointer (some ⟨g6,0,none⟩)∧Hid (Kp W wx∧Blk wx g5 40 #[.bool (decide (z4<0)),.slice A4 k4 c4]∧ZK wx (decide (z4<0)) A4 k4 z4∧Blk wx g6 40 #[.bool (decide (z9<0)),.slice A9 k9 c9]∧ZK wx (decide (z9<0)) A9 k9 z9))
 case first =>
  refine wp_region_gather 12 2 (fun f=>⟨#[Value.agg #[Value.bool an,Value.slice A n c,Value.bool an',Value.slice A' n' c'],Value.agg #[Value.bool bn,Value.slice B m d,Value.bool bn',Value.slice B' m' d'],.pointer (some ⟨w.heap.size,0,none⟩),.pointer (some ⟨w.heap.size+1,0,none⟩),.pointer (some ⟨w.heap.size+1+1,0,none⟩),f 10,f 11,f 0,f 1,f 2,f 3,f 4,f 5,f 6,f 7,f 8,f 9,undef,undef,undef,undef,undef,undef,undef,undef,undef],[]⟩) (fun _=>undef) (Vr [Vis (Value.agg #[Value.bool an,Value.slice A n c,Value.bool an',Value.slice A' n' c']),Vz z1,Vis (Value.agg #[Value.bool bn,Value.slice B m d,Value.bool bn',Value.slice B' m' d']),Vn v3,Vz z4,Vis (Value.agg #[Value.bool bn,Value.slice B m d,Value.bool bn',Value.slice B' m' d']),Vz z6,Vis (Value.agg #[Value.bool an,Value.slice A n c,Value.bool an',Value.slice A' n' c']),Vn v8,Vz z9,Vb W 40 #[.bool false,.slice none 0 0],Vb W 40 #[.bool false,.slice none 0 0]]) (fun i j v u=>(i=10∨i=11)→(j=10∨j=11)→v≠u) (fun w'=>(w'.cell? ⟨w.heap.size,0,none⟩=some (.bool an)∧w'.cell? ⟨w.heap.size,1,none⟩=some (.slice A n c)∧w'.cell? ⟨w.heap.size,2,none⟩=some (.bool an')∧w'.cell? ⟨w.heap.size,3,none⟩=some (.slice A' n' c')∧w'.cell? ⟨w.heap.size+1,0,none⟩=some (.bool bn)∧w'.cell? ⟨w.heap.size+1,1,none⟩=some (.slice B m d)∧w'.cell? ⟨w.heap.size+1,2,none⟩=some (.bool bn')∧w'.cell? ⟨w.heap.size+1,3,none⟩=some (.slice B' m' d'))∧Kp W w') Kp (by kernel_rfl) (by kernel_rfl) rfl (HS.out _ (Kp.drew (Kp.refl W))) (Vr.keep (by simp only [List.forall_mem_cons];exact ⟨Vis.stay _,Vz.stay _,Vis.stay _,Vn.stay _,Vz.stay _,Vis.stay _,Vz.stay _,Vis.stay _,Vn.stay _,Vz.stay _,Vb.stay _ _ _,Vb.stay _ _ _,fun _ h=>by cases h⟩)) ?step ?fin
  case step =>
   intro i hi f w' K hS hn hK;rcases (show i=0∨i=1∨i=2∨i=3∨i=4∨i=5∨i=6∨i=7∨i=8∨i=9∨i=10∨i=11 by omega) with rfl|rfl|rfl|rfl|rfl|rfl|rfl|rfl|rfl|rfl|rfl|rfl
   ·refine wpOp_step rfl (fun K' hK'=>?_);obtain ⟨⟨a0,a1,a2,a3,a4,a5,a6,a7⟩,hkp⟩:=hS;go_simp;exact hK' _ _ (hK _ w' (HS.out _ hkp) (Kp.refl w') (show Vis (Value.agg #[Value.bool an,Value.slice A n c,Value.bool an',Value.slice A' n' c']) (Value.agg #[Value.bool an,Value.slice A n c,Value.bool an',Value.slice A' n' c']) w' from rfl) (fun _ _ _ h=>absurd h (by decide)))
   ·have E0:Hid (f 0=Value.agg #[Value.bool an,Value.slice A n c,Value.bool an',Value.slice A' n' c']):=Hj (hn 0 (List.mem_of_elem_eq_true (by kernel_rfl)));refine wpOp_step rfl (fun K' hK'=>?_);have HK':=Hj hK';clear hK';obtain ⟨-,hkp⟩:=hS;go_simp;refine (call_via (TN.out _ hkp) (by rw [E0.out])).mono ?_;rintro e v1 ⟨A1,k1,c1,rfl,-,hW1,-,hb1⟩
    (try (go_wp2_with fail))
    exact HK'.out _ _ (hK _ v1 (HS.out _ (Kp.trans hkp hb1)) hb1 (show Vz z1 _ _ from ⟨A1,k1,c1,rfl,zk_of hW1 LEN1.out⟩) (fun _ _ _ h=>absurd h (by decide)))
   ·refine wpOp_step rfl (fun K' hK'=>?_);obtain ⟨⟨a0,a1,a2,a3,a4,a5,a6,a7⟩,hkp⟩:=hS;go_simp;exact hK' _ _ (hK _ w' (HS.out _ hkp) (Kp.refl w') (show Vis (Value.agg #[Value.bool bn,Value.slice B m d,Value.bool bn',Value.slice B' m' d']) (Value.agg #[Value.bool bn,Value.slice B m d,Value.bool bn',Value.slice B' m' d']) w' from rfl) (fun _ _ _ h=>absurd h (by decide)))
   ·have E2:Hid (f 2=Value.agg #[Value.bool bn,Value.slice B m d,Value.bool bn',Value.slice B' m' d']):=Hj (hn 2 (List.mem_of_elem_eq_true (by kernel_rfl)));refine wpOp_step rfl (fun K' hK'=>?_);have HK':=Hj hK';clear hK';obtain ⟨-,hkp⟩:=hS;go_simp;refine (call_via (TD2.out _ hkp) (by rw [E2.out])).mono ?_;rintro e v1 ⟨A1,k1,c1,rfl,-,hW1,-,hb1⟩
    (try (go_wp2_with fail))
    exact HK'.out _ _ (hK _ v1 (HS.out _ (Kp.trans hkp hb1)) hb1 (show Vn v3 _ _ from ⟨A1,k1,c1,rfl,zk_ofN hW1 LEN3.out⟩) (fun _ _ _ h=>absurd h (by decide)))
   ·obtain ⟨A4,k4,c4,e4,hZ4⟩:=(show Vz z1 (f 1) w' from hn 1 (List.mem_of_elem_eq_true (by kernel_rfl)));obtain ⟨A5,k5,c5,e5,hZ5⟩:=(show Vn v3 (f 3) w' from hn 3 (List.mem_of_elem_eq_true (by kernel_rfl)));have E4:=Hj e4;have E5:=Hj e5;clear e4 e5;refine wpOp_step rfl (fun K' hK'=>?_);have HK':=Hj hK';clear hK';obtain ⟨-,hkp⟩:=hS;go_simp;refine (call_via (TM.out _ _ _ _ _ _ c4 _ c5 hZ4 hZ5) (by rw [E4.out,E5.out])).mono ?_;rintro e v1 ⟨A1,k1,c1,rfl,-,hW1,-,hb1⟩
    (try (go_wp2_with fail))
    exact HK'.out _ _ (hK _ v1 (HS.out _ (Kp.trans hkp hb1)) hb1 (show Vz z4 _ _ from ⟨A1,k1,c1,rfl,zk_of hW1 LEN4.out⟩) (fun _ _ _ h=>absurd h (by decide)))
   ·refine wpOp_step rfl (fun K' hK'=>?_);obtain ⟨⟨a0,a1,a2,a3,a4,a5,a6,a7⟩,hkp⟩:=hS;go_simp;exact hK' _ _ (hK _ w' (HS.out _ hkp) (Kp.refl w') (show Vis (Value.agg #[Value.bool bn,Value.slice B m d,Value.bool bn',Value.slice B' m' d']) (Value.agg #[Value.bool bn,Value.slice B m d,Value.bool bn',Value.slice B' m' d']) w' from rfl) (fun _ _ _ h=>absurd h (by decide)))
   ·have E5:Hid (f 5=Value.agg #[Value.bool bn,Value.slice B m d,Value.bool bn',Value.slice B' m' d']):=Hj (hn 5 (List.mem_of_elem_eq_true (by kernel_rfl)));refine wpOp_step rfl (fun K' hK'=>?_);have HK':=Hj hK';clear hK';obtain ⟨-,hkp⟩:=hS;go_simp;refine (call_via (TN2.out _ hkp) (by rw [E5.out])).mono ?_;rintro e v1 ⟨A1,k1,c1,rfl,-,hW1,-,hb1⟩
    (try (go_wp2_with fail))
    exact HK'.out _ _ (hK _ v1 (HS.out _ (Kp.trans hkp hb1)) hb1 (show Vz z6 _ _ from ⟨A1,k1,c1,rfl,zk_of hW1 LEN6.out⟩) (fun _ _ _ h=>absurd h (by decide)))
   ·refine wpOp_step rfl (fun K' hK'=>?_);obtain ⟨⟨a0,a1,a2,a3,a4,a5,a6,a7⟩,hkp⟩:=hS;go_simp;exact hK' _ _ (hK _ w' (HS.out _ hkp) (Kp.refl w') (show Vis (Value.agg #[Value.bool an,Value.slice A n c,Value.bool an',Value.slice A' n' c']) (Value.agg #[Value.bool an,Value.slice A n c,Value.bool an',Value.slice A' n' c']) w' from rfl) (fun _ _ _ h=>absurd h (by decide)))
   ·have E7:Hid (f 7=Value.agg #[Value.bool an,Value.slice A n c,Value.bool an',Value.slice A' n' c']):=Hj (hn 7 (List.mem_of_elem_eq_true (by kernel_rfl)));refine wpOp_step rfl (fun K' hK'=>?_);have HK':=Hj hK';clear hK';obtain ⟨-,hkp⟩:=hS;go_simp;refine (call_via (TD.out _ hkp) (by rw [E7.out])).mono ?_;rintro e v1 ⟨A1,k1,c1,rfl,-,hW1,-,hb1⟩
    (try (go_wp2_with fail))
    exact HK'.out _ _ (hK _ v1 (HS.out _ (Kp.trans hkp hb1)) hb1 (show Vn v8 _ _ from ⟨A1,k1,c1,rfl,zk_ofN hW1 LEN8.out⟩) (fun _ _ _ h=>absurd h (by decide)))
   ·obtain ⟨A4,k4,c4,e4,hZ4⟩:=(show Vz z6 (f 6) w' from hn 6 (List.mem_of_elem_eq_true (by kernel_rfl)));obtain ⟨A5,k5,c5,e5,hZ5⟩:=(show Vn v8 (f 8) w' from hn 8 (List.mem_of_elem_eq_true (by kernel_rfl)));have E4:=Hj e4;have E5:=Hj e5;clear e4 e5;refine wpOp_step rfl (fun K' hK'=>?_);have HK':=Hj hK';clear hK';obtain ⟨-,hkp⟩:=hS;go_simp;refine (call_via (TM2.out _ _ _ _ _ _ c4 _ c5 hZ4 hZ5) (by rw [E4.out,E5.out])).mono ?_;rintro e v1 ⟨A1,k1,c1,rfl,-,hW1,-,hb1⟩
    (try (go_wp2_with fail))
    exact HK'.out _ _ (hK _ v1 (HS.out _ (Kp.trans hkp hb1)) hb1 (show Vz z9 _ _ from ⟨A1,k1,c1,rfl,zk_of hW1 LEN9.out⟩) (fun _ _ _ h=>absurd h (by decide)))
   ·refine wpOp_step rfl (fun K' hK'=>?_);obtain ⟨-,hkp⟩:=hS;go_simp;have hb:=kp_new (cur:=w') (o:=.cells #[.bool false,.slice none 0 0] 40) rfl;exact hK' _ _ (hK _ _ (HS.out _ (Kp.trans hkp hb)) hb (show Vb W _ _ _ _ from ⟨_,rfl,Blk.new _ _ _,Below.size hkp⟩) (fun j u hu _ hj=>by
     have hu':Vb W 40 #[.bool false,.slice none 0 0] u w':=by rcases hj with rfl|rfl<;>exact hu
     obtain ⟨g,rfl,hg,-⟩:=hu';have:=hg.lt;intro h
     (try simp at h)
     (try omega)))
   ·refine wpOp_step rfl (fun K' hK'=>?_);obtain ⟨-,hkp⟩:=hS;go_simp;have hb:=kp_new (cur:=w') (o:=.cells #[.bool false,.slice none 0 0] 40) rfl;exact hK' _ _ (hK _ _ (HS.out _ (Kp.trans hkp hb)) hb (show Vb W _ _ _ _ from ⟨_,rfl,Blk.new _ _ _,Below.size hkp⟩) (fun j u hu _ hj=>by
     have hu':Vb W 40 #[.bool false,.slice none 0 0] u w':=by rcases hj with rfl|rfl<;>exact hu
     obtain ⟨g,rfl,hg,-⟩:=hu';have:=hg.lt;intro h
     (try simp at h)
     (try omega)))
  case fin =>
   intro f w' hS hv hd;obtain ⟨A4,k4,c4,e4,hZ4⟩:=(show Vz z4 (f 4) w' from hv 4 (by omega));obtain ⟨A9,k9,c9,e9,hZ9⟩:=(show Vz z9 (f 9) w' from hv 9 (by omega));obtain ⟨g5,e10,B10,hg10⟩:=(show Vb W _ _ (f 10) w' from hv 10 (by omega));obtain ⟨g6,e11,B11,hg11⟩:=(show Vb W _ _ (f 11) w' from hv 11 (by omega));have hne:g5≠g6:=by
    rintro rfl;rcases hd 10 11 (by omega) (by omega) (by omega) with h|h
    ·exact h (.inl rfl) (.inr rfl) (e10.trans e11.symm)
    ·exact h (.inr rfl) (.inl rfl) (e11.trans e10.symm)
   have hp:=hS.2;clear hS hv hd;simp only [e4,e9,e10,e11];refine wpAny_ready (rs:=[12]) (by kernel_rfl) (by simp) ?_;refine AllReady.cons rfl (fun K hK=>?_) AllReady.nil
   (try simp only [p1,p2,p3])
   obtain ⟨p0,p1,f0,f1⟩:=B10.two;go_simp;refine hK _ _ ?_;clear hK K
   (try simp only [Act.put,p1,p2,p3,p4,p5,p6])
   generalize hv:World.setCell (World.setCell _ _ _) _ _=v12;have D10:=blk_st hv B10;have D11:=blk_stf hv B11 hne;have hp12:=kp_st hv hp hg10;have hZ4:=zk_st hv B10 hZ4;have hZ9:=zk_st hv B10 hZ9;clear p0 p1 f0 f1 B10 B11 hp hv;refine wpAny_ready (rs:=[13]) (by kernel_rfl) (by simp) ?_;refine AllReady.cons rfl (fun K hK=>?_) AllReady.nil
   (try simp only [p1,p2,p3])
   obtain ⟨p0,p1,f0,f1⟩:=D11.two;go_simp;refine hK _ _ ?_;clear hK K
   (try simp only [Act.put,p1,p2,p3,p4,p5,p6])
   generalize hv:World.setCell (World.setCell _ _ _) _ _=v13;have E11:=blk_st hv D11;have E10:=blk_stf hv D10 hne.symm;have hp13:=kp_st hv hp12 hg11;have hZ4:=zk_st hv D11 hZ4;have hZ9:=zk_st hv D11 hZ9;refine wpAny_done (by kernel_rfl) ?_ _;clear p0 p1 f0 f1 D10 D11 hv hp12;have HF:=Hj (And.intro hp13 (And.intro E10 (And.intro hZ4 (And.intro E11 hZ9))));clear hp13 E10 hZ4 E11 hZ9
   (try go_wp2_with fail)
   go_meet
   exact ⟨_,_,_,_,_,_,_,_,rfl,rfl,HF⟩
 case rest =>
  obtain ⟨g5,g6,A4,k4,c4,A9,k9,c9,rfl,rfl,HV⟩:=hcut;generalize wc=V at *;have E10:=HV.out.2.1;have E11:=HV.out.2.2.2.1;have hC0:=Kp.blk HV.out.1 HB0.out;have hC1:=Kp.blk HV.out.1 HB1.out;have HS2:=Hj (show ∀ w',Kp V w'→(w'.cell? ⟨g5,0,none⟩=some (.bool (decide (z4<0)))∧w'.cell? ⟨g5,1,none⟩=some (.slice A4 k4 c4)∧w'.cell? ⟨g6,0,none⟩=some (.bool (decide (z9<0)))∧w'.cell? ⟨g6,1,none⟩=some (.slice A9 k9 c9)∧w'.cell? ⟨w.heap.size,0,none⟩=some (.bool an)∧w'.cell? ⟨w.heap.size,1,none⟩=some (.slice A n c)∧w'.cell? ⟨w.heap.size,2,none⟩=some (.bool an')∧w'.cell? ⟨w.heap.size,3,none⟩=some (.slice A' n' c')∧w'.cell? ⟨w.heap.size+1,0,none⟩=some (.bool bn)∧w'.cell? ⟨w.heap.size+1,1,none⟩=some (.slice B m d)∧w'.cell? ⟨w.heap.size+1,2,none⟩=some (.bool bn')∧w'.cell? ⟨w.heap.size+1,3,none⟩=some (.slice B' m' d'))∧Kp V w' from fun w' hk=>⟨⟨(hk.blk E10).cell 0,(hk.blk E10).cell 1,(hk.blk E11).cell 0,(hk.blk E11).cell 1,(hk.blk hC0).cell 0,(hk.blk hC0).cell 1,(hk.blk hC0).cell 2,(hk.blk hC0).cell 3,(hk.blk hC1).cell 0,(hk.blk hC1).cell 1,(hk.blk hC1).cell 2,(hk.blk hC1).cell 3⟩,hk⟩);have HZ4:=Hj HV.out.2.2.1;have HZ9:=Hj HV.out.2.2.2.2;have HVW:=Hj HV.out.1;have HG:=Hj (Nat.lt_of_lt_of_le HB2.out.lt (Below.size HV.out.1));have HR4:=Hj ((RS4.start HB2.out).call HV.out.1);have hBW:=HBW.out;clear HS HV E10 E11 hC0 hC1 TN TN2 TM TM2
  go_upto_region 2 with fail
  refine wp_region_front 9 1 _ (fun w'=>(w'.cell? ⟨g5,0,none⟩=some (.bool (decide (z4<0)))∧w'.cell? ⟨g5,1,none⟩=some (.slice A4 k4 c4)∧w'.cell? ⟨g6,0,none⟩=some (.bool (decide (z9<0)))∧w'.cell? ⟨g6,1,none⟩=some (.slice A9 k9 c9)∧w'.cell? ⟨w.heap.size,0,none⟩=some (.bool an)∧w'.cell? ⟨w.heap.size,1,none⟩=some (.slice A n c)∧w'.cell? ⟨w.heap.size,2,none⟩=some (.bool an')∧w'.cell? ⟨w.heap.size,3,none⟩=some (.slice A' n' c')∧w'.cell? ⟨w.heap.size+1,0,none⟩=some (.bool bn)∧w'.cell? ⟨w.heap.size+1,1,none⟩=some (.slice B m d)∧w'.cell? ⟨w.heap.size+1,2,none⟩=some (.bool bn')∧w'.cell? ⟨w.heap.size+1,3,none⟩=some (.slice B' m' d'))∧Kp V w') (by kernel_rfl) (by kernel_rfl) rfl (HS2.out _ (Kp.drew (Kp.refl V))) (fun hHeld=>?_);simp only [List.toList_toArray,List.take_succ_cons,List.take_zero];refine wpAnyH_take (i:=0) (v:=?v1) rfl (by kernel_rfl) (by kernel_rfl) (by kernel_rfl) (fun _ _ _ h=>h) (Or.inl ⟨by rfl,?y1⟩) (by assumption) ?r1
  case y1=>(intro w hSw;(try dsimp only at hSw);(try simp only [p1,p2,p3]);go_simp;first|done|with_reducible rfl)
  (try simp only [Act.put,p1,p2,p3,p4,p5,p6])
  refine wpAnyH_take (i:=1) (v:=?v2) rfl (by kernel_rfl) (by kernel_rfl) (by kernel_rfl) (fun _ _ _ h=>h) (Or.inl ⟨by rfl,?y2⟩) (by assumption) ?r2
  case y2=>(intro w hSw;(try dsimp only at hSw);(try simp only [p1,p2,p3]);go_simp;first|done|with_reducible rfl)
  (try simp only [Act.put,p1,p2,p3,p4,p5,p6])
  refine wpAnyH_take (i:=3) (v:=?v4) rfl (by kernel_rfl) (by kernel_rfl) (by kernel_rfl) (fun _ _ _ h=>h) (Or.inl ⟨by rfl,?y4⟩) (by assumption) ?r4
  case y4=>(intro w hSw;(try dsimp only at hSw);(try simp only [p1,p2,p3]);go_simp;first|done|with_reducible rfl)
  (try simp only [Act.put,p1,p2,p3,p4,p5,p6])
  refine wpAnyH_take (i:=5) (v:=?v6) rfl (by kernel_rfl) (by kernel_rfl) (by kernel_rfl) (fun _ _ _ h=>h) (Or.inl ⟨by rfl,?y6⟩) (by assumption) ?r6
  case y6=>(intro w hSw;(try dsimp only at hSw);(try simp only [p1,p2,p3]);go_simp;first|done|with_reducible rfl)
  (try simp only [Act.put,p1,p2,p3,p4,p5,p6])
  refine wpAnyH_ready (rs:=[2]) (by kernel_rfl) (by simp) ?_;refine AllReadyH.cons rfl (fun K hK=>?_) ?_
  ·(try simp only [p1,p2,p3])
   go_simp;have hk:=And.right ‹_∧Kp V _›;refine (TA.out _ _ _ _ _ _ _ _ _ (HZ4.out.below hk) (HZ9.out.below hk)).mono ?_;rintro e v22 ⟨A22,k22,c22,rfl,hk22,hW22,hF22,hb22⟩;have hZ22:=zk_of hW22 (LEN22.out);have hp:=Kp.trans hk hb22
   (try have hZ1:=hZ1.below hb22)
   (try have hZ3:=hZ3.below hb22)
   (try have hZ4:=hZ4.below hb22)
   (try have hZ6:=hZ6.below hb22)
   (try have hZ8:=hZ8.below hb22)
   (try have hZ9:=hZ9.below hb22)
   (try have hZ24:=hZ24.below hb22)
   (try have hZ26:=hZ26.below hb22)
   (try have hZ27:=hZ27.below hb22)
   (try have B10:=Kp.blk hb22 B10)
   (try have B11:=Kp.blk hb22 B11)
   clear hk hb22 hW22 hF22 hk22
   (try (go_wp2_with fail))
   refine hK.out _ _ ?k8 (fun hHeld8=>?n8)
   case k8=>((try dsimp only);with_reducible first|(refine HS2.out _ ?_;assumption)|(refine HS2.out _ (Kp.drew ?_);assumption)|(refine' HS2.out _ (Kp.drew (And.right ?_));rotate_left;assumption))
   clear hK K
   (try simp only [Act.put,p1,p2,p3,p4,p5,p6])
   refine wpAnyH_ready (rs:=[4]) (by kernel_rfl) (by simp) ?_;refine AllReadyH.cons rfl (fun K hK=>?_) ?_
   ·(try simp only [p1,p2,p3])
    go_simp;have hk:=And.right ‹_∧Kp V _›;refine (TD.out _ (Kp.trans HVW.out hk)).mono ?_;rintro e v24 ⟨A24,k24,c24,rfl,hk24,hW24,hF24,hb24⟩;have hZ24:=zk_ofN hW24 (LEN24.out);have hp:=Kp.trans hk hb24
    (try have hZ1:=hZ1.below hb24)
    (try have hZ3:=hZ3.below hb24)
    (try have hZ4:=hZ4.below hb24)
    (try have hZ6:=hZ6.below hb24)
    (try have hZ8:=hZ8.below hb24)
    (try have hZ9:=hZ9.below hb24)
    (try have hZ22:=hZ22.below hb24)
    (try have hZ26:=hZ26.below hb24)
    (try have hZ27:=hZ27.below hb24)
    (try have B10:=Kp.blk hb24 B10)
    (try have B11:=Kp.blk hb24 B11)
    clear hk hb24 hW24 hF24 hk24
    (try (go_wp2_with fail))
    refine hK.out _ _ ?k10 (fun hHeld10=>?n10)
    case k10=>((try dsimp only);with_reducible first|(refine HS2.out _ ?_;assumption)|(refine HS2.out _ (Kp.drew ?_);assumption)|(refine' HS2.out _ (Kp.drew (And.right ?_));rotate_left;assumption))
    clear hK K
    (try simp only [Act.put,p1,p2,p3,p4,p5,p6])
    refine wpAnyH_ready (rs:=[6]) (by kernel_rfl) (by simp) ?_;refine AllReadyH.cons rfl (fun K hK=>?_) ?_
    ·(try simp only [p1,p2,p3])
     go_simp;have hk:=And.right ‹_∧Kp V _›;refine (TD2.out _ (Kp.trans HVW.out hk)).mono ?_;rintro e v26 ⟨A26,k26,c26,rfl,hk26,hW26,hF26,hb26⟩;have hZ26:=zk_ofN hW26 (LEN26.out);have hp:=Kp.trans hk hb26
     (try have hZ1:=hZ1.below hb26)
     (try have hZ3:=hZ3.below hb26)
     (try have hZ4:=hZ4.below hb26)
     (try have hZ6:=hZ6.below hb26)
     (try have hZ8:=hZ8.below hb26)
     (try have hZ9:=hZ9.below hb26)
     (try have hZ22:=hZ22.below hb26)
     (try have hZ24:=hZ24.below hb26)
     (try have hZ27:=hZ27.below hb26)
     (try have B10:=Kp.blk hb26 B10)
     (try have B11:=Kp.blk hb26 B11)
     clear hk hb26 hW26 hF26 hk26
     (try (go_wp2_with fail))
     refine hK.out _ _ ?k12 (fun hHeld12=>?n12)
     case k12=>((try dsimp only);with_reducible first|(refine HS2.out _ ?_;assumption)|(refine HS2.out _ (Kp.drew ?_);assumption)|(refine' HS2.out _ (Kp.drew (And.right ?_));rotate_left;assumption))
     clear hK K
     (try simp only [Act.put,p1,p2,p3,p4,p5,p6])
     refine wpAnyH_ready (rs:=[7]) (by kernel_rfl) (by simp) ?_;refine AllReadyH.cons rfl (fun K hK=>?_) ?_
     ·(try simp only [p1,p2,p3])
      go_simp;have hk:=And.right ‹_∧Kp V _›;refine (TM3.out _ _ _ _ _ _ _ hZ24 hZ26).mono ?_;rintro e v27 ⟨A27,k27,c27,rfl,hk27,hW27,hF27,hb27⟩;have hZ27:=zk_ofN hW27 (LEN27.out);have hp:=Kp.trans hk hb27
      (try have hZ1:=hZ1.below hb27)
      (try have hZ3:=hZ3.below hb27)
      (try have hZ4:=hZ4.below hb27)
      (try have hZ6:=hZ6.below hb27)
      (try have hZ8:=hZ8.below hb27)
      (try have hZ9:=hZ9.below hb27)
      (try have hZ22:=hZ22.below hb27)
      (try have hZ24:=hZ24.below hb27)
      (try have hZ26:=hZ26.below hb27)
      (try have B10:=Kp.blk hb27 B10)
      (try have B11:=Kp.blk hb27 B11)
      clear hk hb27 hW27 hF27 hk27
      (try (go_wp2_with fail))
      refine hK.out _ _ ?k14 (fun hHeld14=>?n14)
      case k14=>((try dsimp only);with_reducible first|(refine HS2.out _ ?_;assumption)|(refine HS2.out _ (Kp.drew ?_);assumption)|(refine' HS2.out _ (Kp.drew (And.right ?_));rotate_left;assumption))
      clear hK K
      (try simp only [Act.put,p1,p2,p3,p4,p5,p6])
      refine wpAnyH_ready (rs:=[8]) (by kernel_rfl) (by simp) ?_;refine AllReadyH.cons rfl (fun K hK=>?_) ?_
      ·(try simp only [p1,p2,p3])
       go_simp;have hk:=And.right ‹_∧Kp V _›;refine (TO.out _ _ _ _ _ _ _ _ hZ22 hZ27).mono ?_;rintro e v28 ⟨A28,k28,c28,A29,k29,c29,rfl,hk28,hk29,hW28,hW29,hF28,hF29,hb28⟩;have hp:=Kp.trans hk hb28;have hl9:=Nat.lt_of_lt_of_le HG.out (Below.size hk);clear hk hb28 hZ22 hZ27
       (try (go_wp2_with fail))
       refine hK.out _ _ ?k16 (fun hHeld16=>?n16)
       case k16=>((try dsimp only);with_reducible first|(refine HS2.out _ ?_;assumption)|(refine HS2.out _ (Kp.drew ?_);assumption)|(refine' HS2.out _ (Kp.drew (And.right ?_));rotate_left;assumption))
       clear hK K
       (try simp only [Act.put,p1,p2,p3,p4,p5,p6])
       refine wpAnyH_done (by kernel_rfl) ?_ _;unfold Qfr;dsimp only;have hr9:RS4 (w.heap.size+1+1) 42 W v28:=RS4.call HR4.out hp;obtain ⟨_,_,_,_,f0,f1,f2,f3,f4,f5,f6,f7⟩:=hr9.four;refine wpAny_ready (rs:=[9]) (by kernel_rfl) (by simp) ?_;refine AllReady.cons rfl (fun K hK=>?_) AllReady.nil
       (try simp only [p1,p2,p3])
       go_simp;refine hK _ _ ?_;clear hK K
       (try simp only [Act.put,p1,p2,p3,p4,p5,p6])
       refine wpAny_done (by kernel_rfl) ?_ _;have hfin:=retQ_close hBW (by omega) (by have:=HSZ.out;have h9:=hl9;have h8:=HG.out;omega) hr9 hk28 hk29 hW28 hW29 hF28 hF29;obtain ⟨d0,d1,d2,d3,-,-,-,-⟩:=(hr9.done (.bool (decide ((y).num<0))) (.slice A28 k28 c28) (.bool false) (.slice A29 k29 c29)).four;have HF:=Hj hfin;clear hfin hl9 hr9 TD TD2 TA TM3 TO;go_wp2;refine bodyPost_ret (v:=.agg #[.bool (decide ((y).num<0)),.slice A28 k28 c28,.bool false,.slice A29 k29 c29]) ?_ rfl HF.out;simp [results,Tryz.results78,go_sem,d0,d1,d2,d3]
      exact AllReadyH.nil
     exact AllReadyH.nil
    exact AllReadyH.nil
   exact AllReadyH.nil
  exact AllReadyH.nil
theorem Ls.neg {s:Nat} {q:Rat} (h:Ls s q):Ls s (-q):=by
 unfold Ls at *;rw [show (-q).num = -q.num from rfl,show (-q).den=q.den from rfl,Int.natAbs_neg];exact h
theorem QS.qk {k s:Nat} {w:World} {an an':Bool} {A A':Option Addr} {n c n' c':Nat} {q:Rat} (h:QS s w an A n c an' A' n' c' q) (hs:s≤7*3 ^ k):QK k w an A n c an' A' n' c' q:=QS.mono (t:=7*3 ^ k) h hs
theorem three18:(3:Nat) ^ 18=387420489:=by decide
theorem rnegq_s {s:Nat} (hs:s≤2000000000) (an bn:Bool) (A B:Option Addr) (n c m d:Nat) (q:Rat) (w:World) (h:QS s w an A n c bn B m d q) :
  Calls Tryz.prog 133 #[.agg #[.bool an,.slice A n c,.bool bn,.slice B m d]] w (RetQ w (-q)):=rnegq_k (k:=18) (Nat.le_refl _) _ _ _ _ _ _ _ _ _ _ (h.qk (by rw [three18];omega))
theorem rsignq_s {s:Nat} (hs:s≤2000000000) (an bn:Bool) (A B:Option Addr) (n c m d:Nat) (q:Rat) (w:World) (h:QS s w an A n c bn B m d q) :
  Calls Tryz.prog 116 #[.agg #[.bool an,.slice A n c,.bool bn,.slice B m d]] w fun e w'=>e=.returned (.int .i64 (sgnQ q))∧Below w.heap.size w w':=rsignq_k (k:=18) (Nat.le_refl _) _ _ _ _ _ _ _ _ _ _ (h.qk (by rw [three18];omega))
theorem rleastq_s {s:Nat} (hs:s≤2000000000) (an bn:Bool) (A B:Option Addr) (n c m d:Nat) (q:Rat) (w:World) (h:QS s w an A n c bn B m d q) :
  Calls Tryz.prog 76 #[.agg #[.bool an,.slice A n c,.bool bn,.slice B m d]] w (RetQ w q):=rleastq_k (k:=18) (Nat.le_refl _) _ _ _ _ _ _ _ _ _ _ (h.qk (by rw [three18];omega))
theorem rsubq_s {s:Nat} (hs:s≤1000000000) (an an' bn bn':Bool) (A A' B B':Option Addr) (n c n' c' m d m' d':Nat) (qa qb:Rat) (w:World) (ha:QS s w an A n c an' A' n' c' qa) (hb:QS s w bn B m d bn' B' m' d' qb) :
  Calls Tryz.prog 79 #[.agg #[.bool an,.slice A n c,.bool an',.slice A' n' c'],.agg #[.bool bn,.slice B m d,.bool bn',.slice B' m' d']] w (RetQ w (qa-qb)):=by
 have TN:=Hj (fun W' (hW:Below w.heap.size w W')=>rnegq_s (by omega) bn bn' B B' m d m' d' qb W' (hb.below hW));have TA:=Hj (fun W' (hW:Below w.heap.size w W') (C D:Option Addr) (j e j' e':Nat) (hN:RQ W' (-qb) C j e D j' e')=>raddq_s hs an an' (decide ((-qb).num<0)) false A A' C D n c n' c' j e j' e' qa (-qb) W' (ha.below hW) (hN.qs hb.ls.neg (by omega)));rw [show qa + -qb=qa-qb from (Rat.sub_eq_add_neg ..).symm] at TA;generalize qa-qb=y at *;generalize -qb=nb at *;clear ha hb;go_enter Tryz.func79,Tryz.ntmps79
 go_wp2_with fail
 obtain ⟨hB0,hB1,hB2,hBW,hsz⟩:=pre3 w 42 #[.bool an,.slice A n c,.bool an',.slice A' n' c'] 42 #[.bool bn,.slice B m d,.bool bn',.slice B' m' d'] 42 #[.bool false,.slice none 0 0,.bool false,.slice none 0 0];generalize ((w.alloc (.cells #[.bool an,.slice A n c,.bool an',.slice A' n' c'] 42)).alloc (.cells #[.bool bn,.slice B m d,.bool bn',.slice B' m' d'] 42)).alloc (.cells #[.bool false,.slice none 0 0,.bool false,.slice none 0 0] 42)=W at *;have HSZ:=Hj hsz;clear hsz;have HBW:=Hj hBW;have TN:=Hj (fun W' (hW:Below (w.heap.size+1+1) W W')=>TN.out W' (HBW.out.trans (hW.mono (by omega))));have TA:=Hj (fun W' (hW:Below (w.heap.size+1+1) W W')=>TA.out W' (HBW.out.trans (hW.mono (by omega))));have s5:=RS4.start hB2;have hS:∀ w',RS4 (w.heap.size+1+1) 42 W w'→(w'.cell? ⟨w.heap.size,0,none⟩=some (.bool an)∧w'.cell? ⟨w.heap.size,1,none⟩=some (.slice A n c)∧w'.cell? ⟨w.heap.size,2,none⟩=some (.bool an')∧w'.cell? ⟨w.heap.size,3,none⟩=some (.slice A' n' c')∧w'.cell? ⟨w.heap.size+1,0,none⟩=some (.bool bn)∧w'.cell? ⟨w.heap.size+1,1,none⟩=some (.slice B m d)∧w'.cell? ⟨w.heap.size+1,2,none⟩=some (.bool bn')∧w'.cell? ⟨w.heap.size+1,3,none⟩=some (.slice B' m' d'))∧RS4 (w.heap.size+1+1) 42 W w':=fun w' hk=>⟨⟨(hk.blk hB0 (by omega)).cell 0,(hk.blk hB0 (by omega)).cell 1,(hk.blk hB0 (by omega)).cell 2,(hk.blk hB0 (by omega)).cell 3,(hk.blk hB1 (by omega)).cell 0,(hk.blk hB1 (by omega)).cell 1,(hk.blk hB1 (by omega)).cell 2,(hk.blk hB1 (by omega)).cell 3⟩,hk⟩;have HS:=Hj hS;clear hS
 go_region_held3 (fun w'=>(w'.cell? ⟨w.heap.size,0,none⟩=some (.bool an)∧w'.cell? ⟨w.heap.size,1,none⟩=some (.slice A n c)∧w'.cell? ⟨w.heap.size,2,none⟩=some (.bool an')∧w'.cell? ⟨w.heap.size,3,none⟩=some (.slice A' n' c')∧w'.cell? ⟨w.heap.size+1,0,none⟩=some (.bool bn)∧w'.cell? ⟨w.heap.size+1,1,none⟩=some (.slice B m d)∧w'.cell? ⟨w.heap.size+1,2,none⟩=some (.bool bn')∧w'.cell? ⟨w.heap.size+1,3,none⟩=some (.slice B' m' d'))∧RS4 (w.heap.size+1+1) 42 W w')
  (with_reducible first|(refine HS.out _ ?_;assumption)|(refine HS.out _ (RS4.drew ?_);assumption)|(refine' HS.out _ (RS4.drew (And.right ?_));rotate_left;assumption)|(refine' HS.out _ (RS4.set (And.right ?_) _ _ _ _);rotate_left;assumption))
  (first
   | (go_at_call 133;have hk:=And.right ‹_∧RS4 (w.heap.size+1+1) 42 W _›;refine (TN.out _ hk.1).mono ?_;rintro e v4 ⟨A4,k4,c4,A5,k5,c5,rfl,hk4,hk5,hW4,hW5,-,-,hb4⟩;have hZ4:RQ v4 nb A4 k4 c4 A5 k5 c5:=⟨hk4,hk5,hW4,hW5⟩;have hr:=hk.call hb4;clear hk hb4 hW4 hW5 hk4 hk5)
   | (go_at_call 78;have hk:=And.right ‹_∧RS4 (w.heap.size+1+1) 42 W _›;refine (TA.out _ hk.1 _ _ _ _ _ _ hZ4).mono ?_;rintro e v11 ⟨A11,k11,c11,A12,k12,c12,rfl,hk11,hk12,hW11,hW12,hF11,hF12,hb11⟩;have hl9:=RS4.lt hk;have hr9:=hk.call hb11;obtain ⟨_,_,_,_,f0,f1,f2,f3,f4,f5,f6,f7⟩:=hr9.four))
 all_goals
  have hfin:=retQ_close hBW (by omega) (by have:=HSZ.out;have h9:=hl9;omega) hr9 hk11 hk12 hW11 hW12 hF11 hF12;obtain ⟨d0,d1,d2,d3,-,-,-,-⟩:=(hr9.done (.bool (decide ((y).num<0))) (.slice A11 k11 c11) (.bool false) (.slice A12 k12 c12)).four;have HF:=Hj hfin;clear hfin hl9 hr9 TN TA hZ4;go_wp2;refine bodyPost_ret (v:=.agg #[.bool (decide ((y).num<0)),.slice A11 k11 c11,.bool false,.slice A12 k12 c12]) ?_ rfl HF.out;simp [results,Tryz.results79,go_sem,d0,d1,d2,d3]
theorem sgn_sub (a b:Rat):sgnQ (a-b)=cmpQ a b:=by
 have e1:(a-b).num<0↔a<b:=by
  have h:a-b<(0:Rat)↔(a-b).num<0:=by rw [Rat.lt_iff];simp
  rw [← h];constructor<;>intro h<;>grind
 have e2:0<(a-b).num↔b<a:=by
  have h:(0:Rat)<a-b↔0<(a-b).num:=by rw [Rat.lt_iff];simp
  rw [← h];constructor<;>intro h<;>grind
 unfold sgnQ cmpI cmpQ;simp only [e1,e2]
theorem rcmpq_s {s:Nat} (hs:s≤900000000) (an an' bn bn':Bool) (A A' B B':Option Addr) (n c n' c' m d m' d':Nat) (qa qb:Rat) (w:World) (ha:QS s w an A n c an' A' n' c' qa) (hb:QS s w bn B m d bn' B' m' d' qb) :
  Calls Tryz.prog 127 #[.agg #[.bool an,.slice A n c,.bool an',.slice A' n' c'],.agg #[.bool bn,.slice B m d,.bool bn',.slice B' m' d']] w fun e w'=>e=.returned (.int .i64 (cmpQ qa qb))∧Below w.heap.size w w':=by
 have TS:=Hj (fun W' (hW:Below w.heap.size w W')=>rsubq_s (by omega) an an' bn bn' A A' B B' n c n' c' m d m' d' qa qb W' (ha.below hW) (hb.below hW));have hls:=ha.ls.sub hb.ls;have TG:=Hj (fun W' (C D:Option Addr) (j e j' e':Nat) (hN:RQ W' (qa-qb) C j e D j' e')=>rsignq_s (s:=s+s+1) (by omega) (decide ((qa-qb).num<0)) false C D j e j' e' (qa-qb) W' (hN.qs hls (by omega)));rw [sgn_sub] at TG;generalize qa-qb=y at *;generalize cmpQ qa qb=cv at *;clear ha hb hls;go_enter Tryz.func127,Tryz.ntmps127
 go_wp2_with fail
 obtain ⟨hB0,hB1,hBW,hsz⟩:=pre2 w 42 #[.bool an,.slice A n c,.bool an',.slice A' n' c'] 42 #[.bool bn,.slice B m d,.bool bn',.slice B' m' d'];generalize (w.alloc (.cells #[.bool an,.slice A n c,.bool an',.slice A' n' c'] 42)).alloc (.cells #[.bool bn,.slice B m d,.bool bn',.slice B' m' d'] 42)=W at *;have HSZ:=Hj hsz;clear hsz;obtain ⟨p0,p1,p2,p3,-,-,-,-⟩:=hB0.four;obtain ⟨q0,q1,q2,q3,-,-,-,-⟩:=hB1.four;have HBW:=Hj hBW;clear hB0 hB1 hBW
 go_wp2_with fail
 refine (TS.out _ HBW.out).mono ?_;rintro e w1 ⟨A3,k3,c3,A4,k4,c4,rfl,hk3,hk4,hW3,hW4,-,-,hb3⟩;have T:=Hj (TG.out w1 A3 A4 k3 c3 k4 c4 ⟨hk3,hk4,hW3,hW4⟩);have HB:=Hj (HBW.out.trans (hb3.mono HBW.out.size));clear hW3 hW4 hb3 hk3 hk4 TS TG p0 p1 p2 p3 q0 q1 q2 q3
 go_wp2_with fail
 refine T.out.mono ?_;rintro e w2 ⟨rfl,hb2⟩;have HF:=Hj (HB.out.trans (hb2.mono HB.out.size));clear hb2 T;go_wp2;go_ret;exact ⟨rfl,HF.out⟩
theorem cmp_le (a b:Rat):decide (cmpQ a b≤0) = !decide (b<a):=by
 unfold cmpQ;by_cases h:a<b
 ·have:¬ b<a:=by grind
  simp [h,this]
 ·by_cases h2:b<a
  ·simp [h,h2]
  ·simp [h,h2]
theorem rminq_s {s:Nat} (hs:s≤900000000) (an an' bn bn':Bool) (A A' B B':Option Addr) (n c n' c' m d m' d':Nat) (qa qb:Rat) (w:World) (ha:QS s w an A n c an' A' n' c' qa) (hb:QS s w bn B m d bn' B' m' d' qb) :
  Calls Tryz.prog 77 #[.agg #[.bool an,.slice A n c,.bool an',.slice A' n' c'],.agg #[.bool bn,.slice B m d,.bool bn',.slice B' m' d']] w (RetQ w (if qb<qa then qb else qa)):=by
 have TC:=Hj (fun W' (hW:Below w.heap.size w W')=>rcmpq_s hs an an' bn bn' A A' B B' n c n' c' m d m' d' qa qb W' (ha.below hW) (hb.below hW));have TA:=Hj (fun W' (hW:Below w.heap.size w W')=>rleastq_s (by omega) an an' A A' n c n' c' qa W' (ha.below hW));have TB:=Hj (fun W' (hW:Below w.heap.size w W')=>rleastq_s (by omega) bn bn' B B' m d m' d' qb W' (hb.below hW));obtain ⟨d1,e1⟩:∃ d,decide (cmpQ qa qb≤0)=d:=⟨_,rfl⟩;have e2:=e1;rw [cmp_le] at e2;have HE:=Hj e2;obtain ⟨y,hy⟩:∃ y,y=if qb<qa then qb else qa:=⟨_,rfl⟩;rw [← hy];have HY:=Hj hy;generalize cmpQ qa qb=cv at *;clear ha hb e2 hy;go_enter Tryz.func77,Tryz.ntmps77
 go_wp2_with fail
 obtain ⟨hB0,hB1,hB2,hBW,hsz⟩:=pre3 w 42 #[.bool an,.slice A n c,.bool an',.slice A' n' c'] 42 #[.bool bn,.slice B m d,.bool bn',.slice B' m' d'] 42 #[.bool false,.slice none 0 0,.bool false,.slice none 0 0];generalize ((w.alloc (.cells #[.bool an,.slice A n c,.bool an',.slice A' n' c'] 42)).alloc (.cells #[.bool bn,.slice B m d,.bool bn',.slice B' m' d'] 42)).alloc (.cells #[.bool false,.slice none 0 0,.bool false,.slice none 0 0] 42)=W at *;have HSZ:=Hj hsz;clear hsz;obtain ⟨p0,p1,p2,p3,-,-,-,-⟩:=hB0.four;obtain ⟨q0,q1,q2,q3,-,-,-,-⟩:=hB1.four;have s5:=RS4.start hB2
 go_wp2_with fail
 refine (TC.out _ hBW).mono ?_;rintro e w1 ⟨rfl,hb1⟩;have hr2:=s5.call hb1;have HB:=Hj (hBW.trans (hb1.mono hBW.size));have hB0:=hB0.below hb1 hB0.lt;have hB1:=hB1.below hb1 hB1.lt;obtain ⟨p0,p1,p2,p3,-,-,-,-⟩:=hB0.four;obtain ⟨q0,q1,q2,q3,-,-,-,-⟩:=hB1.four;clear hb1 TC s5 hB0 hB1 hB2;cases d1
 ·have hlt:qb<qa:=by have:=HE.out;simpa using this
  obtain rfl:qb=y:=by rw [HY.out,if_pos hlt]
  clear hlt HE HY TA
  go_wp2_with fail
  refine (TB.out _ HB.out).mono ?_;rintro e w9 ⟨A9,k9,c9,A10,k10,c10,rfl,hk9,hk10,hW9,hW10,hF9,hF10,hb9⟩;have hl9:=RS4.lt hr2;have hr9:=hr2.call hb9;obtain ⟨_,_,_,_,f0,f1,f2,f3,f4,f5,f6,f7⟩:=hr9.four;have hfin:=retQ_close hBW (by omega) (by have:=HSZ.out;have h9:=hl9;omega) hr9 hk9 hk10 hW9 hW10 hF9 hF10;obtain ⟨d0,d1,d2,d3,-,-,-,-⟩:=(hr9.done (.bool (decide ((qb).num<0))) (.slice A9 k9 c9) (.bool false) (.slice A10 k10 c10)).four;have HF:=Hj hfin;clear hfin hl9 hr9 hr2 HB;go_wp2;refine bodyPost_ret (v:=.agg #[.bool (decide ((qb).num<0)),.slice A9 k9 c9,.bool false,.slice A10 k10 c10]) ?_ rfl HF.out;simp [results,Tryz.results77,go_sem,d0,d1,d2,d3]
 ·have hlt:¬ qb<qa:=by have:=HE.out;simpa using this
  obtain rfl:qa=y:=by rw [HY.out,if_neg hlt]
  clear hlt HE HY TB
  go_wp2_with fail
  refine (TA.out _ HB.out).mono ?_;rintro e w9 ⟨A9,k9,c9,A10,k10,c10,rfl,hk9,hk10,hW9,hW10,hF9,hF10,hb9⟩;have hl9:=RS4.lt hr2;have hr9:=hr2.call hb9;obtain ⟨_,_,_,_,f0,f1,f2,f3,f4,f5,f6,f7⟩:=hr9.four;have hfin:=retQ_close hBW (by omega) (by have:=HSZ.out;have h9:=hl9;omega) hr9 hk9 hk10 hW9 hW10 hF9 hF10;obtain ⟨d0,d1,d2,d3,-,-,-,-⟩:=(hr9.done (.bool (decide ((qa).num<0))) (.slice A9 k9 c9) (.bool false) (.slice A10 k10 c10)).four;have HF:=Hj hfin;clear hfin hl9 hr9 hr2 HB;go_wp2;refine bodyPost_ret (v:=.agg #[.bool (decide ((qa).num<0)),.slice A9 k9 c9,.bool false,.slice A10 k10 c10]) ?_ rfl HF.out;simp [results,Tryz.results77,go_sem,d0,d1,d2,d3]
end Go.Proofs.YtjajigkacccdgaaGreat
namespace Go.Proofs.YtjajigkacccdgaaGreat
open Go
section
variable {P:Program} {ops:Array Oper} {Q:Exit→Act→World→Prop} {md:Region.Mode} {S:World→Prop}
theorem tkk {oi:Oper} {v:Value} {fuel:Nat} {listed:Array Bool} {a:Act} {w:World} (i:Nat) (hi:ops[i]?=some oi) (hc:(Region.noSelect ops && (Region.free md ops listed i && (Region.ready md ops listed).contains i))=true)
  (hQ:∀ c a w,Q (.panic c) (a.put oi.dst v) w→Q (.panic c) a w) (hy:YieldsIf P ops S oi v a) (hS:S w) (h:wpAnyH P md ops Q S fuel (listed.setIfInBounds i true) (a.put oi.dst v) w):wpAnyH P md ops Q S (fuel+1) listed a w:=by
 simp only [Bool.and_eq_true] at hc;exact wpAnyH_take hi hc.1 hc.2.1 hc.2.2 hQ hy hS h
end
end Go.Proofs.YtjajigkacccdgaaGreat
namespace Go.Proofs.YtjajigkacccdgaaGreat
open Go.RowKit
open Wd
def QsS (s:Nat) (w:World) (A:Option Addr) (n:Nat) (qs:List Rat):Prop :=
 qs.length=n∧(n≠0→∃ b o,A=some ⟨b,o,none⟩∧b<w.heap.size∧∀ j,j<n→∃ an aA ak ac an' aA' ak' ac',w.cell? ⟨b,o+j*4,none⟩=some (.bool an)∧w.cell? ⟨b,o+j*4+1,none⟩=some (.slice aA ak ac)∧w.cell? ⟨b,o+j*4+2,none⟩=some (.bool an')∧w.cell? ⟨b,o+j*4+3,none⟩=some (.slice aA' ak' ac')∧QS s w an aA ak ac an' aA' ak' ac' (qs[j]?.getD 0))
theorem QsS.below {s:Nat} {w w':World} {A:Option Addr} {n:Nat} {qs:List Rat} (h:QsS s w A n qs) (hb:Below w.heap.size w w'):QsS s w' A n qs:=by
 refine ⟨h.1,fun hn=>?_⟩;obtain ⟨b,o,rfl,hlt,hc⟩:=h.2 hn;refine ⟨b,o,rfl,Nat.lt_of_lt_of_le hlt hb.size,fun j hj=>?_⟩;obtain ⟨an,aA,ak,ac,an',aA',ak',ac',h1,h2,h3,h4,h5⟩:=hc j hj;exact ⟨an,aA,ak,ac,an',aA',ak',ac',(hb.cell hlt).trans h1,(hb.cell hlt).trans h2,(hb.cell hlt).trans h3,(hb.cell hlt).trans h4,h5.below hb⟩
end Go.Proofs.YtjajigkacccdgaaGreat
