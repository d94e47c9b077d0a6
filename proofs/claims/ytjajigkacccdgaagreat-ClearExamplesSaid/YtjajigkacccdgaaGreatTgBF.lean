/-
Lemmas of the walk; no further conditions.
-/
import Derived.Test.YtjajigkacccdgaaGreatTgBE
set_option linter.unusedVariables false
set_option linter.unusedSimpArgs false
set_option maxRecDepth 100000
set_option maxHeartbeats 16000000
namespace Go.Proofs.YtjajigkacccdgaaGreat
open Go.RowKit
open Wd
attribute [local go_sem ↓] Go.wp_at_zero Go.wp_at_succ
theorem ls_zero (s:Nat) (hs:1≤s):Ls s (0:Rat):=by
 have h1:WB 1≤WB s:=wb_mono hs;have h2:WB 1=4294967296:=rfl;refine ⟨?_,?_⟩
 ·show 0<WB s;omega
 ·show 1<WB s;omega
theorem costAt_ls {s:Nat} {l:List (Int×Int)} {q:Rat} (hp:∀ k,k<l.length→Ls s (partAt l q k)) (hpr:∀ x∈l,x.2.natAbs≤18446744073709551616):∀ k,k≤l.length→Ls (k*(s+6)+1) (costAt l q k)
 | 0,_=>ls_zero _ (by omega)
 | k+1,hk=>by
  have ih:=costAt_ls hp hpr k (by omega);have h1:=(hp k (by omega)).mul (ls_int (Nat.le_refl 3) (hpr _ (getD_mem (d:=(0,0)) (show k<l.length by omega))));rw [costAt];exact (ih.add h1).mono (by rw [Nat.succ_mul];omega)
theorem bad_price {l:List (Int×Int)} (hok:∀ s∈l,¬ Bad s.1 s.2):∀ x∈l,x.2.natAbs≤18446744073709551616:=fun x hx=>by
 have:=hok x hx;unfold Bad at this;omega
theorem costOK_s {s L:Nat} (hs:3≤s) (hL:1≤L) {l:List (Int×Int)} {q:Rat} (hl:l.length≤L) (hp:∀ k,k<l.length→Ls s (partAt l q k)) (hpr:∀ x∈l,x.2.natAbs≤18446744073709551616) :
  CostOK (WB (2*(L*(s+6)+1)+1)) (WB s) (WB s) (WB (L*(s+6)+1)) (WB (L*(s+6)+1)) l q:=by
 have h3:=wb_three;have h3s:=wb_mono hs;have hLs:s+6≤L*(s+6):=Nat.le_mul_of_pos_left _ hL;have m1:=wb_mul s s;have m2:=wb_mul (L*(s+6)+1) (L*(s+6)+1);have k1:WB (s+s+1)≤WB (2*(L*(s+6)+1)+1):=wb_mono (by omega);have k2:WB (L*(s+6)+1+(L*(s+6)+1)+1)≤WB (2*(L*(s+6)+1)+1):=wb_mono (by omega);have k3:WB s≤WB (2*(L*(s+6)+1)+1):=wb_mono (by omega);have k4:WB (L*(s+6)+1)≤WB (2*(L*(s+6)+1)+1):=wb_mono (by omega);refine ⟨by omega,k3,by omega,by omega,by omega,by omega,k3,k3,by omega,by omega,k4,k4,fun k hk=>?_,fun k hk=>?_⟩
 ·exact (costAt_ls hp hpr k hk).mono (by have:=Nat.mul_le_mul_right (s+6) (Nat.le_trans hk hl);omega)
 ·exact ((hp k hk).mul (ls_int (Nat.le_refl 3) (hpr _ (getD_mem (d:=(0,0)) hk)))).mono (by omega)
theorem scost_s {s:Nat} (hs:3≤s) (hs2:s≤100000) (A:Option Addr) (n c:Nat) (l:List (Int×Int)) (an an':Bool) (aA aA':Option Addr) (ak ac ak' ac':Nat) (q:Rat) (w:World) (h:StAt w A n l) (hq:QS s w an aA ak ac an' aA' ak' ac' q) (he:curveE l=0) (h0:0≤q) (h1:q≤(qsum l:Int)) :
  Calls Tryz.prog 41 #[.slice A n c,.agg #[.bool an,.slice aA ak ac,.bool an',.slice aA' ak' ac']] w (CstPost w (costAt l q n)):=by
 obtain ⟨hn0,hn3,hok⟩:=curve_ok he;have h3:=wb_three;have h3s:=wb_mono hs;have hl:=hq.ls;exact scost_ok (WB (2*(3*(s+6)+1)+1)) (WB s) (WB s) (WB (3*(s+6)+1)) (WB (3*(s+6)+1)) (wb_ok (by omega)) A n c l an an' aA aA' ak ac ak' ac' q w h hq he h0 h1
  (costOK_s hs (by decide) (by omega) (fun k hk=>partAt_bd h0 hok hl.1 hl.2 (by omega) (by omega) hk) (bad_price hok))
theorem pick_lt {α:Type} (d:α) {n:Nat} {P:Nat→α→Prop} (h:∀ j,j<n→∃ x,P j x):∃ F:Nat→α,∀ j,j<n→P j (F j):=by
 classical
 exact ⟨fun j=>if hj:j<n then (h j hj).choose else d,fun j hj=>by simp only [dif_pos hj];exact (h j hj).choose_spec⟩
theorem QsS.raw {s:Nat} {w:World} {A:Option Addr} {n:Nat} {ps:List Rat} (h:QsS s w A n ps):∃ es:List QE,QsAtR w A n es∧∀ j,j<n→QS s w (es[j]?.getD QE0).1 (es[j]?.getD QE0).2.1.1 (es[j]?.getD QE0).2.1.2.1 (es[j]?.getD QE0).2.1.2.2 (es[j]?.getD QE0).2.2.1 (es[j]?.getD QE0).2.2.2.1 (es[j]?.getD QE0).2.2.2.2.1 (es[j]?.getD QE0).2.2.2.2.2 (ps[j]?.getD 0):=by
 by_cases hn:n=0
 ·subst hn;exact ⟨[],⟨rfl,fun h0=>absurd rfl h0⟩,fun j hj=>absurd hj (by omega)⟩
 ·obtain ⟨b,o,rfl,hb,hc⟩:=h.2 hn;have each:∀ j,j<n→∃ e:QE,(w.cell? ⟨b,o+j*4,none⟩=some (.bool e.1)∧w.cell? ⟨b,o+j*4+1,none⟩=some (.slice e.2.1.1 e.2.1.2.1 e.2.1.2.2)∧w.cell? ⟨b,o+j*4+2,none⟩=some (.bool e.2.2.1)∧w.cell? ⟨b,o+j*4+3,none⟩=some (.slice e.2.2.2.1 e.2.2.2.2.1 e.2.2.2.2.2)) ∧
    QS s w e.1 e.2.1.1 e.2.1.2.1 e.2.1.2.2 e.2.2.1 e.2.2.2.1 e.2.2.2.2.1 e.2.2.2.2.2 (ps[j]?.getD 0):=fun j hj=>by
   obtain ⟨an,aA,ak,ac,an',aA',ak',ac',h1,h2,h3,h4,h5⟩:=hc j hj;exact ⟨(an,(aA,ak,ac),an',(aA',ak',ac')),⟨h1,h2,h3,h4⟩,h5⟩
  obtain ⟨F,hF⟩:=pick_lt QE0 each;have e1:∀ j,j<n→((List.range n).map F)[j]?.getD QE0=F j:=fun j hj=>by simp [hj]
  exact ⟨(List.range n).map F,⟨by simp,fun _=>⟨b,o,rfl,hb,fun j hj=>by rw [e1 j hj];exact (hF j hj).1⟩⟩,fun j hj=>by rw [e1 j hj];exact (hF j hj).2⟩
theorem total_bad (A B:Option Addr) (n c d:Nat) (ls:List (List (Int×Int))) (es:List QE) (w:World) (h:CsAt w A n ls) (hq:QsAtR w B n es) (hn:n≤1000) (i0:Nat) (hi0:i0<n) (co m s:Nat→Rat) (m0:m 0=0) (s0:s 0=0)
  (HC:∀ k,k<i0→∀ W,Below w.heap.size w W→∀ A' n' c',StAt W A' n' (ls[k]?.getD [])→Calls Tryz.prog 41 #[.slice A' n' c',.agg #[.bool (es[k]?.getD QE0).1,.slice (es[k]?.getD QE0).2.1.1 (es[k]?.getD QE0).2.1.2.1 (es[k]?.getD QE0).2.1.2.2,.bool (es[k]?.getD QE0).2.2.1,.slice (es[k]?.getD QE0).2.2.2.1 (es[k]?.getD QE0).2.2.2.2.1 (es[k]?.getD QE0).2.2.2.2.2]] W (CstPost W (co k)))
  (HM:∀ k,k<i0→∀ W (A A':Option Addr) (j c j' c':Nat) (B B':Option Addr) (i d i' d':Nat),WQ W (m k) A j c A' j' c'→WQ W (co k) B i d B' i' d'→Calls Tryz.prog 42 #[.agg #[.bool (decide ((m k).num<0)),.slice A j c,.bool false,.slice A' j' c'],.agg #[.bool (decide ((co k).num<0)),.slice B i d,.bool false,.slice B' i' d']] W (RetQ W (m (k+1))))
  (HS:∀ k,k<i0→∀ W,Below w.heap.size w W→∀ (A A':Option Addr) (j c j' c':Nat),WQ W (s k) A j c A' j' c'→Calls Tryz.prog 42 #[.agg #[.bool (decide ((s k).num<0)),.slice A j c,.bool false,.slice A' j' c'],.agg #[.bool (es[k]?.getD QE0).1,.slice (es[k]?.getD QE0).2.1.1 (es[k]?.getD QE0).2.1.2.1 (es[k]?.getD QE0).2.1.2.2,.bool (es[k]?.getD QE0).2.2.1,.slice (es[k]?.getD QE0).2.2.2.1 (es[k]?.getD QE0).2.2.2.2.1 (es[k]?.getD QE0).2.2.2.2.2]] W (RetQ W (s (k+1))))
  (HB:∀ W,Below w.heap.size w W→∀ A' n' c',StAt W A' n' (ls[i0]?.getD [])→Calls Tryz.prog 41 #[.slice A' n' c',.agg #[.bool (es[i0]?.getD QE0).1,.slice (es[i0]?.getD QE0).2.1.1 (es[i0]?.getD QE0).2.1.2.1 (es[i0]?.getD QE0).2.1.2.2,.bool (es[i0]?.getD QE0).2.2.1,.slice (es[i0]?.getD QE0).2.2.2.1 (es[i0]?.getD QE0).2.2.2.2.1 (es[i0]?.getD QE0).2.2.2.2.2]] W (ErrQ W 1)) :
  Calls Tryz.prog 114 #[.slice A n c,.slice B n d] w fun e w'=>e=.returned (.tuple #[.agg #[.bool false,.slice none 0 0,.bool false,.slice none 0 0],.agg #[.bool false,.slice none 0 0,.bool false,.slice none 0 0],.int .i64 1])∧Below w.heap.size w w':=by
 have HX:=Hj h;have HQ:=Hj hq;have HCH:=Hj HC;have HMH:=Hj HM;have HSH:=Hj HS;have HBB:=Hj HB;have M0:=Hj m0;have S0:=Hj s0;clear h hq HC HM HS m0 s0 HB;go_enter Tryz.func114,Tryz.ntmps114
 go_wp2_with fail
 have bx1:=(Blk.new w 42 #[.bool false,.slice none 0 0,.bool false,.slice none 0 0]).alloc (.cells #[.bool false,.slice none 0 0,.bool false,.slice none 0 0] 42);have bx2:=Blk.new (w.alloc (.cells #[.bool false,.slice none 0 0,.bool false,.slice none 0 0] 42)) 42 #[.bool false,.slice none 0 0,.bool false,.slice none 0 0];have hb0:=((Below.refl w.heap.size w).alloc (Nat.le_refl _) (.cells #[.bool false,.slice none 0 0,.bool false,.slice none 0 0] 42)).alloc (by simp only [World.size_alloc];omega) (.cells #[.bool false,.slice none 0 0,.bool false,.slice none 0 0] 42);simp only [World.size_alloc] at bx2;generalize (w.alloc (.cells #[.bool false,.slice none 0 0,.bool false,.slice none 0 0] 42)).alloc (.cells #[.bool false,.slice none 0 0,.bool false,.slice none 0 0] 42)=W at *;have hst:TotR w w.heap.size (w.heap.size+1) (m 0) (s 0) none 0 0 none 0 0 none 0 0 none 0 0 W:=by
  rw [M0.out,S0.out];exact ⟨hb0,bx1,CQ.zero,bx2,CQ.zero⟩
 have HST:=Hj hst;clear bx1 bx2 hb0 hst M0 S0
 go_loopw [13] (fun t wr=>∃ (k:Nat) (A1:Option Addr) (j c:Nat) (A2:Option Addr) (j' c':Nat) (B1:Option Addr) (i d:Nat) (B2:Option Addr) (i' d':Nat),k≤i0∧t=.int .i64 k∧Hid (TotR w w.heap.size (w.heap.size+1) (m k) (s k) A1 j c A2 j' c' B1 i d B2 i' d' wr)) (fun t _=>n-(intOf t).toNat)
 case atStart=>exact ⟨0,none,0,0,none,0,0,none,0,0,none,0,0,Nat.zero_le _,rfl,HST.out⟩
 case round =>
  clear HST;obtain ⟨k,A1,j1,c1,A2,j2,c2,B1,i1,d1,B2,i2,d2,hk,rfl,hR⟩:=hrel;by_cases hlt:k<i0
  ·obtain ⟨b,o,rfl,hb,hc⟩:=HX.out.2 (by omega);obtain ⟨A',n',c',hcell,hst⟩:=hc k (by omega);obtain ⟨b',o',rfl,hb',hq'⟩:=HQ.out.2 (by omega);obtain ⟨e0,e1,e2,e3⟩:=hq' k (by omega);have hki1:(0:Int)≤(k:Int):=by omega
   have hki2:(k:Int)<(n:Int):=by omega
   have HC1:=Hj (fun W (hW:Below w.heap.size w W)=>HCH.out k hlt W hW A' n' c' (hst.below hW));have HM1:=Hj (HMH.out k hlt);have HS1:=Hj (HSH.out k hlt);have hcl:=(hR.out.1.cell (p:=⟨b,o+k,none⟩) hb).trans hcell;have hS0:∀ w',Below w.heap.size w w'→w'.cell? ⟨b',o'+k*4,none⟩=some (.bool (es[k]?.getD QE0).1)∧w'.cell? ⟨b',o'+k*4+1,none⟩=some (.slice (es[k]?.getD QE0).2.1.1 (es[k]?.getD QE0).2.1.2.1 (es[k]?.getD QE0).2.1.2.2)∧w'.cell? ⟨b',o'+k*4+2,none⟩=some (.bool (es[k]?.getD QE0).2.2.1)∧w'.cell? ⟨b',o'+k*4+3,none⟩=some (.slice (es[k]?.getD QE0).2.2.2.1 (es[k]?.getD QE0).2.2.2.2.1 (es[k]?.getD QE0).2.2.2.2.2):=fun w' hk=>⟨(hk.cell (p:=⟨b',_,none⟩) hb').trans e0,(hk.cell (p:=⟨b',_,none⟩) hb').trans e1,(hk.cell (p:=⟨b',_,none⟩) hb').trans e2,(hk.cell (p:=⟨b',_,none⟩) hb').trans e3⟩;generalize es[k]?.getD QE0=x at *;generalize hmz:m (k+1)=mz at *;generalize hsz:s (k+1)=sz at *;have HMZ:=Hj hmz;have HSZ:=Hj hsz;clear hmz hsz;generalize m k=mk at *;generalize s k=sk at *;generalize co k=ck at *;have HS0:=Hj hS0;obtain ⟨u0,u1,u2,u3⟩:=hS0 wr hR.out.1;have hne1:w.heap.size+1≠w.heap.size:=by omega
   have hne2:w.heap.size≠w.heap.size+1:=by omega
   clear hc hq' e0 e1 e2 e3 hcell hst hS0 HCH HMH HSH
   go_wp2_with fail
   refine (HC1.out wr hR.out.1).mono ?_;rintro e w1 ⟨A3,j3,c3,A4,j4,c4,rfl,hcq,hb1⟩;have hr1:=hR.out.call hb1;have kx:=(Kp.refl w1).alloc (.cells #[.bool (decide ((ck).num<0)),.slice A3 j3 c3,.bool false,.slice A4 j4 c4] 42);have hr2:=hr1.call kx;have bx:=Blk.new w1 42 #[.bool (decide ((ck).num<0)),.slice A3 j3 c3,.bool false,.slice A4 j4 c4];have hq2:=hcq.wq.below kx;have HR2:=Hj hr2;have HQ2:=Hj hq2;obtain ⟨f0,f1,f2,f3,-,-,-,-⟩:=bx.four;obtain ⟨p0,p1,p2,p3,-,-,-,-⟩:=hr2.2.1.four;clear hcq hb1 hr1 kx hr2 bx hq2 hR HC1 hcl u0 u1 u2 u3
   go_wp2_with fail
   refine (HM1.out _ _ _ _ _ _ _ _ _ _ _ _ _ HR2.out.2.2.1.wq HQ2.out).mono ?_;rintro e w2 ⟨A5,j5,c5,A6,j6,c6,rfl,hk5,hk6,hW5,hW6,hF5,hF6,hb2⟩;have hp3:=(HR2.out.call hb2).put1 (m2:=mz) (Nat.le_refl _) hne1 ⟨hk5,hk6,hW5,hW6,hF5.mono HR2.out.1.size,hF6.mono HR2.out.1.size⟩;have HP3:=Hj hp3;obtain ⟨z0,z1,z2,z3,z4,z5,z6,z7⟩:=(HR2.out.call hb2).2.1.four;clear hk5 hk6 hW5 hW6 hF5 hF6 hb2 hp3 HR2 HQ2 HM1 f0 f1 f2 f3 p0 p1 p2 p3
   go_wp2_with fail
   clear z0 z1 z2 z3 z4 z5 z6 z7;generalize ((((w2.setCell ⟨w.heap.size,0,none⟩ (.bool (decide ((mz).num<0)))).setCell ⟨w.heap.size,1,none⟩ (.slice A5 j5 c5)).setCell ⟨w.heap.size,2,none⟩ (.bool false)).setCell ⟨w.heap.size,3,none⟩ (.slice A6 j6 c6))=W3 at *;have hr4:=HP3.out;obtain ⟨q0,q1,q2,q3,-,-,-,-⟩:=hr4.2.2.2.1.four;obtain ⟨u0,u1,u2,u3⟩:=HS0.out W3 hr4.1;have s5:=Kp.refl W3;have hbx:=hr4.2.2.2.1;clear hr4
   go_region_with (first
    | (go_at_call 42;refine (HS1.out _ (HP3.out.1.trans (Below.mono (Kp.drew s5) HP3.out.1.size)) _ _ _ _ _ _ (HP3.out.2.2.2.2.wq.below (Kp.drew s5))).mono ?_;rintro e v7 ⟨A7,j7,c7,B7,m7,d7,rfl,hk7,hm7,hW7,hV7,hF7,hG7,hb5⟩;have hp7:Kp W3 v7:=Kp.trans (Kp.drew s5) hb5;obtain ⟨i0,i1,i2,i3,i4,i5,i6,i7⟩:=(Kp.blk hp7 hbx).four;clear hb5))
   all_goals
    have hp8:=(HP3.out.call hp7).put2 (s2:=sz) (by omega) hne2 ⟨hk7,hm7,hW7,hV7,hF7.mono HP3.out.1.size,hG7.mono HP3.out.1.size⟩;generalize ((((v7.setCell ⟨w.heap.size+1,0,none⟩ (.bool (decide ((sz).num<0)))).setCell ⟨w.heap.size+1,1,none⟩ (.slice A7 j7 c7)).setCell ⟨w.heap.size+1,2,none⟩ (.bool false)).setCell ⟨w.heap.size+1,3,none⟩ (.slice B7 m7 d7))=W8 at *;have HF:=Hj hp8;clear hp8 i0 i1 i2 i3 i4 i5 i6 i7 hp7 s5 hk7 hm7 hW7 hV7 hF7 hG7 q0 q1 q2 q3 u0 u1 u2 u3 hbx HP3;go_wp2;go_roundw
    case rel=>exact ⟨k+1,A5,j5,c5,A6,j6,c6,A7,j7,c7,B7,m7,d7,by omega,by go_num,by rw [HMZ.out,HSZ.out];exact HF.out⟩
    case measure=>simp [intOf];omega
  ·obtain rfl:k=i0:=by omega
   obtain ⟨b,o,rfl,hb,hc⟩:=HX.out.2 (by omega);obtain ⟨A',n',c',hcell,hst⟩:=hc k hi0;obtain ⟨b',o',rfl,hb',hq'⟩:=HQ.out.2 (by omega);obtain ⟨e0,e1,e2,e3⟩:=hq' k hi0;have hki1:(0:Int)≤(k:Int):=by omega
   have hki2:(k:Int)<(n:Int):=by omega
   have HC1:=Hj (HBB.out wr hR.out.1 A' n' c' (hst.below hR.out.1));have hcl:=(hR.out.1.cell (p:=⟨b,o+k,none⟩) hb).trans hcell;have u0:=(hR.out.1.cell (p:=⟨b',_,none⟩) hb').trans e0;have u1:=(hR.out.1.cell (p:=⟨b',_,none⟩) hb').trans e1;have u2:=(hR.out.1.cell (p:=⟨b',_,none⟩) hb').trans e2;have u3:=(hR.out.1.cell (p:=⟨b',_,none⟩) hb').trans e3;generalize es[k]?.getD QE0=x at *;generalize m k=mk at *;generalize s k=sk at *;have HR:=Hj hR.out;clear hc hq' e0 e1 e2 e3 hcell hst hR HCH HMH HSH HBB
   go_wp2_with fail
   refine HC1.out.mono ?_;rintro e w1 ⟨rfl,hb1⟩;have hr2:=(HR.out.call hb1).call ((Kp.refl w1).alloc (.cells #[.bool false,.slice none 0 0,.bool false,.slice none 0 0] 42));obtain ⟨p0,p1,p2,p3,p4,p5,p6,p7⟩:=hr2.2.1.four;obtain ⟨q0,q1,q2,q3,q4,q5,q6,q7⟩:=hr2.2.2.2.1.four;have hp9:=(hr2.put1 (m2:=0) (Nat.le_refl _) (by omega) CQ.zero).put2 (s2:=0) (by omega) (by omega) CQ.zero;simp only [show decide ((0:Rat).num<0)=false from rfl] at hp9;obtain ⟨a0,a1,a2,a3,-,-,-,-⟩:=hp9.2.1.four;obtain ⟨b0,b1,b2,b3,-,-,-,-⟩:=hp9.2.2.2.1.four;have HF:=Hj hp9.1;clear hp9 hr2 hb1 HR HC1 hcl u0 u1 u2 u3;go_wp2;refine bodyPost_ret (v:=.tuple #[.agg #[.bool false,.slice none 0 0,.bool false,.slice none 0 0],.agg #[.bool false,.slice none 0 0,.bool false,.slice none 0 0],.int .i64 1]) ?_ rfl ⟨rfl,HF.out⟩;simp [results,Tryz.results114,go_sem,a0,a1,a2,a3,b0,b1,b2,b3]
end Go.Proofs.YtjajigkacccdgaaGreat
namespace Go.Proofs.YtjajigkacccdgaaGreat
open Go.RowKit
open Wd
namespace St
end St
end Go.Proofs.YtjajigkacccdgaaGreat
namespace Go.Proofs.YtjajigkacccdgaaGreat
open Go.RowKit
open Wd
def aL (p:Int) (l:List (Int×Int)):Int:=sumI (l.map fun s=>if s.2<p then s.1 else 0)
def aM (p:Int) (l:List (Int×Int)):Int:=sumI (l.map fun s=>if s.2≤p then s.1 else 0)
def aG (p:Int) (l:List (Int×Int)):Int:=sumI (l.map fun s=>if s.2<p then s.1*(p-s.2) else 0)
namespace St
end St
def gS (p:Int) (ls:List (List (Int×Int))):Int:=sumI (ls.map (aG p))
end Go.Proofs.YtjajigkacccdgaaGreat
namespace Go.Proofs.YtjajigkacccdgaaGreat
open Go.RowKit
open Wd
def sumF (f:Nat→Rat):Nat→Rat
 | 0=>0
 | k+1=>sumF f k+f k
structure LF (n:Nat) (lo up:Nat→Rat) (xs:Nat→Rat) (q:Rat):Prop where
 ge:∀ i,i<n→lo i≤xs i
 le:∀ i,i<n→xs i≤up i
 sum:sumF xs n=q
 last:∀ i,i<n→lo i<xs i→∀ k,k<n→i<k→xs k=up k
namespace St
def ltB (up:Bool) (a b:Int):Bool:=if up then decide (a<b) else decide (b<a)
end St
end Go.Proofs.YtjajigkacccdgaaGreat
namespace Go.Proofs.YtjajigkacccdgaaGreat
open Go.RowKit
open Wd
namespace St
end St
structure Side (ls:List (List (Int×Int))) (p z:Int) (xs:List Int):Prop where
 len:xs.length=ls.length
 lo:∀ i,i<ls.length→aL p (ls[i]?.getD [])≤xs[i]?.getD 0
 hi:∀ i,i<ls.length→xs[i]?.getD 0≤aM p (ls[i]?.getD [])
 sum:sumI xs=z
end Go.Proofs.YtjajigkacccdgaaGreat
namespace Go.Proofs.YtjajigkacccdgaaGreat
open Go.RowKit
open Wd
section
variable {xs:List Int} {n:Nat} {t:Rat}
end
section
variable {xs:List Int} {n:Nat} {t:Rat}
end
end Go.Proofs.YtjajigkacccdgaaGreat
namespace Go.Proofs.YtjajigkacccdgaaGreat
open Go.RowKit
open Wd
attribute [local go_sem ↓] Go.wp_at_zero Go.wp_at_succ
end Go.Proofs.YtjajigkacccdgaaGreat
namespace Go.Proofs.YtjajigkacccdgaaGreat
open Go.RowKit
open Wd
theorem welfare_gen (A B G H:Option Addr) (n c k d gc hc:Nat) (os bs:List (List (Int×Int))) (w:World) (h:CsAt w A n os) (h':CsAt w B k bs) (hck:ckB os bs=0) (m m2 s:Rat)
  (HT1:∀ W,Below w.heap.size w W→Calls Tryz.prog 114 #[.slice A n c,.slice G n gc] W (TotP W m s))
  (HT2:∀ W,Below w.heap.size w W→Calls Tryz.prog 114 #[.slice B k d,.slice H k hc] W (TotP W m2 s))
  (HE:∀ W (A A':Option Addr) (j c j' c':Nat) (B B':Option Addr) (i d i' d':Nat),WQ W s A j c A' j' c'→WQ W s B i d B' i' d'→Calls Tryz.prog 44 #[.agg #[.bool (decide ((s).num<0)),.slice A j c,.bool false,.slice A' j' c'],.agg #[.bool (decide ((s).num<0)),.slice B i d,.bool false,.slice B' i' d']] W fun e W'=>e=.returned (.bool true)∧Below W.heap.size W W')
  (HS:∀ W (A A':Option Addr) (j c j' c':Nat) (B B':Option Addr) (i d i' d':Nat),WQ W m2 A j c A' j' c'→WQ W m B i d B' i' d'→Calls Tryz.prog 55 #[.agg #[.bool (decide ((m2).num<0)),.slice A j c,.bool false,.slice A' j' c'],.agg #[.bool (decide ((m).num<0)),.slice B i d,.bool false,.slice B' i' d']] W (RetQ W (m2-m))) :
  Calls Tryz.prog 56 #[.slice A n c,.slice B k d,.slice G n gc,.slice H k hc] w (CstPost w (m2-m)):=by
 obtain ⟨l1,l2,k3,k4⟩:=ckB_iff.1 hck;have T0:=Hj (fun W (hW:Below w.heap.size w W)=>ccheck_any A B n c k d os bs W (h.below hW) (h'.below hW) (fun l hl=>by have:=(chk_ok (k3 l hl)).2.1;omega) (fun l hl=>by have:=(chk_ok (k4 l hl)).2.1;omega));rw [hck] at T0;have H1:=Hj HT1;have H2:=Hj HT2;have HEQ:=Hj HE;have HSU:=Hj HS;have hn1:((n:Int) != (n:Int))=false:=by simp
 have hn2:((k:Int) != (k:Int))=false:=by simp
 generalize m2-m=df at *;clear h h' hck HT1 HT2 HE HS l1 l2 k3 k4;go_enter Tryz.func56,Tryz.ntmps56
 go_wp2_with fail
 have bx8:=Blk.new w 42 #[.bool false,.slice none 0 0,.bool false,.slice none 0 0];have hb0:Below w.heap.size w (w.alloc (.cells #[.bool false,.slice none 0 0,.bool false,.slice none 0 0] 42)):=(Below.refl _ _).alloc (Nat.le_refl _) _;generalize w.alloc (.cells #[.bool false,.slice none 0 0,.bool false,.slice none 0 0] 42)=W0 at *;refine (T0.out W0 hb0).mono ?_;rintro e w1 ⟨rfl,hb1⟩;have HB1:=Hj (hb0.trans (hb1.mono hb0.size));have HX8:=Hj (bx8.below hb1 bx8.lt);clear bx8 hb0 hb1 T0
 go_wp2_with fail
 refine (H1.out w1 HB1.out).mono ?_;rintro e w2 ⟨A1,j1,c1,A2,j2,c2,B1,i1,d1,B2,i2,d2,rfl,hc1,hc2,hb2⟩;have HB2:=Hj (HB1.out.trans (hb2.mono HB1.out.size));have HX8b:=Hj (HX8.out.below hb2 HX8.out.lt);have HQ1:=Hj (And.intro hc1.wq hc2.wq);clear hc1 hc2 hb2 HB1 H1 HX8
 go_wp2_with fail
 have b11:=(Blk.new w2 42 #[.bool (decide ((m).num<0)),.slice A1 j1 c1,.bool false,.slice A2 j2 c2]).alloc (.cells #[.bool (decide ((s).num<0)),.slice B1 i1 d1,.bool false,.slice B2 i2 d2] 42);have b12:=Blk.new (w2.alloc (.cells #[.bool (decide ((m).num<0)),.slice A1 j1 c1,.bool false,.slice A2 j2 c2] 42)) 42 #[.bool (decide ((s).num<0)),.slice B1 i1 d1,.bool false,.slice B2 i2 d2];simp only [World.size_alloc] at b12;have k2:=((Kp.refl w2).alloc (.cells #[.bool (decide ((m).num<0)),.slice A1 j1 c1,.bool false,.slice A2 j2 c2] 42)).alloc (.cells #[.bool (decide ((s).num<0)),.slice B1 i1 d1,.bool false,.slice B2 i2 d2] 42);generalize (w2.alloc (.cells #[.bool (decide ((m).num<0)),.slice A1 j1 c1,.bool false,.slice A2 j2 c2] 42)).alloc (.cells #[.bool (decide ((s).num<0)),.slice B1 i1 d1,.bool false,.slice B2 i2 d2] 42)=W2 at *;generalize w2.heap.size=g11 at *;have HB3:=Hj (HB2.out.trans (Below.mono k2 HB2.out.size));have HX8c:=Hj (Kp.blk k2 HX8b.out);have HQ2:=Hj (And.intro (HQ1.out.1.below k2) (HQ1.out.2.below k2));clear k2 HB2 HX8b HQ1;refine (H2.out W2 HB3.out).mono ?_;rintro e w3 ⟨A3,j3,c3,A4,j4,c4,B3,i3,d3,B4,i4,d4,rfl,hc3,hc4,hb3⟩;have HB4:=Hj (HB3.out.trans (hb3.mono HB3.out.size));have HX8d:=Hj (HX8c.out.below hb3 HX8c.out.lt);have hb11:=b11.below hb3 b11.lt;have hb12:=b12.below hb3 b12.lt;have HQ3:=Hj (And.intro (HQ2.out.1.below hb3) (And.intro (HQ2.out.2.below hb3) (And.intro hc3.wq hc4.wq)));have k3:=((Kp.refl w3).alloc (.cells #[.bool (decide ((m2).num<0)),.slice A3 j3 c3,.bool false,.slice A4 j4 c4] 42)).alloc (.cells #[.bool (decide ((s).num<0)),.slice B3 i3 d3,.bool false,.slice B4 i4 d4] 42);have b14:=(Blk.new w3 42 #[.bool (decide ((m2).num<0)),.slice A3 j3 c3,.bool false,.slice A4 j4 c4]).alloc (.cells #[.bool (decide ((s).num<0)),.slice B3 i3 d3,.bool false,.slice B4 i4 d4] 42);have b15:=Blk.new (w3.alloc (.cells #[.bool (decide ((m2).num<0)),.slice A3 j3 c3,.bool false,.slice A4 j4 c4] 42)) 42 #[.bool (decide ((s).num<0)),.slice B3 i3 d3,.bool false,.slice B4 i4 d4];simp only [World.size_alloc] at b15;have hb11:=Kp.blk k3 hb11;have hb12:=Kp.blk k3 hb12;obtain ⟨x0,x1,x2,x3,-,-,-,-⟩:=hb12.four;obtain ⟨y0,y1,y2,y3,-,-,-,-⟩:=b15.four;have HB5:=Hj (HB4.out.trans (Below.mono k3 HB4.out.size));have HX8e:=Hj (Kp.blk k3 HX8d.out);have HQ4:=Hj (And.intro (HQ3.out.1.below k3) (And.intro (HQ3.out.2.1.below k3) (And.intro (HQ3.out.2.2.1.below k3) (HQ3.out.2.2.2.below k3))));have HBB:=Hj (And.intro hb11 b14);clear k3 HB4 HX8d HQ3 hc3 hc4 hb3 HB3 HX8c b11 b12 HQ2 H2 hb11 hb12 b14 b15
 go_wp2_with fail
 refine (HEQ.out _ _ _ _ _ _ _ _ _ _ _ _ _ HQ4.out.2.1 HQ4.out.2.2.2).mono ?_;rintro e w4 ⟨rfl,hb4⟩;have HB6:=Hj (HB5.out.trans (hb4.mono HB5.out.size));have HX8f:=Hj (HX8e.out.below hb4 HX8e.out.lt);have hb11:=HBB.out.1.below hb4 HBB.out.1.lt;have hb14:=HBB.out.2.below hb4 HBB.out.2.lt;obtain ⟨z0,z1,z2,z3,-,-,-,-⟩:=hb11.four;obtain ⟨v0,v1,v2,v3,-,-,-,-⟩:=hb14.four;have HQ5:=Hj (And.intro (HQ4.out.1.below hb4) (HQ4.out.2.2.1.below hb4));clear hb4 HB5 HX8e HBB HQ4 HEQ x0 x1 x2 x3 y0 y1 y2 y3 hb11 hb14
 go_wp2_with fail
 refine (HSU.out _ _ _ _ _ _ _ _ _ _ _ _ _ HQ5.out.2 HQ5.out.1).mono ?_;rintro e w5 ⟨A5,k5,c5,A6,k6,c6,rfl,hk5,hk6,hW5,hW6,hF5,hF6,hb5⟩;have hx:=HX8f.out.below hb5 HX8f.out.lt;have hB:=HB6.out.trans (hb5.mono HB6.out.size);obtain ⟨a0,a1,a2,a3,a4,a5,a6,a7⟩:=hx.four;have hcq:CQ w.heap.size w5 df A5 k5 c5 A6 k6 c6:=⟨hk5,hk6,hW5,hW6,hF5.mono HB6.out.size,hF6.mono HB6.out.size⟩;have e8:(((w5.setCell ⟨w.heap.size,0,none⟩ (.bool (decide (df.num<0)))).setCell ⟨w.heap.size,1,none⟩ (.slice A5 k5 c5)).setCell ⟨w.heap.size,2,none⟩ (.bool false)).setCell ⟨w.heap.size,3,none⟩ (.slice A6 k6 c6)=qst w5 w.heap.size 0 (decide (df.num<0)) false A5 A6 k5 c5 k6 c6:=rfl;have hfin:CstPost w df (.returned (.tuple #[.agg #[.bool (decide ((df).num<0)),.slice A5 k5 c5,.bool false,.slice A6 k6 c6],.int .i64 0])) (qst w5 w.heap.size 0 (decide (df.num<0)) false A5 A6 k5 c5 k6 c6) :=
  ⟨A5,k5,c5,A6,k6,c6,rfl,hcq.put4 hx NoInt.four,below_qst hB (Nat.le_refl _)⟩
 have hb8:Blk (qst w5 w.heap.size 0 (decide (df.num<0)) false A5 A6 k5 c5 k6 c6) w.heap.size _ _:=hx.put4 (o:=0);obtain ⟨d0,d1,d2,d3,-⟩:=Blk.four hb8;have HF:=Hj hfin;have HE8:=Hj e8;clear hfin hb8 e8 hcq hx hB hk5 hk6 hW5 hW6 hF5 hF6 hb5 HX8f HB6 HQ5 HSU z0 z1 z2 z3 v0 v1 v2 v3;go_wp2;rw [HE8.out];refine bodyPost_ret (v:=.tuple #[.agg #[.bool (decide ((df).num<0)),.slice A5 k5 c5,.bool false,.slice A6 k6 c6],.int .i64 0]) ?_ rfl HF.out;simp [results,Tryz.results56,go_sem,d0,d1,d2,d3]
theorem curve_good {up:Bool} {l:List (Int×Int)} (h:chk up l=0):curveE l=0:=by
 cases up
 ·unfold curveE;rw [if_pos h]
 ·unfold curveE;split
  ·rfl
  ·exact h
end Go.Proofs.YtjajigkacccdgaaGreat
