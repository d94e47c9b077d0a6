/-
Lemmas of the walk; no further conditions.
-/
import Derived.Test.YtjajigkacccdgaaGreatTiAJ
import Derived.BigRegion
set_option linter.unusedVariables false
set_option linter.unusedSimpArgs false
set_option maxRecDepth 100000
set_option maxHeartbeats 16000000
namespace Go.Proofs.YtjajigkacccdgaaGreat
open Go.RowKit
open Wd
theorem Rw.sub {w:World} {b o N k m:Nat} {P:List Nat} (h:Rw w b o N P) (hk:k+m≤N):Wat w (some ⟨b,o+k,none⟩) m ((P.drop k).take m):=by
 obtain ⟨h1,h2,h3,h4,h5⟩:=h;refine ⟨win_of_len (by omega),(h2.drop k).take m,fun _=>⟨b,o+k,rfl,h3,fun j hj=>?_⟩⟩;rw [Nat.add_assoc,h4 (k+j) (by omega),List.getElem?_take_of_lt hj,List.getElem?_drop]
structure LdS (w:World) (gu gv gq N n m:Nat) (v U Q:List Nat) (wr:World):Prop where
 hu:Rw wr gu 0 N U
 hv:Wat wr (some ⟨gv,0,none⟩) n v
 hq:Rw wr gq 0 m Q
 hb:Below w.heap.size w wr
theorem LdS.keep {w wr wr':World} {gu gv gq N n m:Nat} {v U Q:List Nat} (h:LdS w gu gv gq N n m v U Q wr) (hb:Below wr.heap.size wr wr'):LdS w gu gv gq N n m v U Q wr' :=
 ⟨h.hu.below hb h.hu.2.2.1,h.hv.below hb,h.hq.below hb h.hq.2.2.1,h.hb.trans (hb.mono h.hb.size)⟩
theorem Bx.wat {b n:Nat} {w w':World} {A:Option Addr} {l:List Nat} (h:Bx b w w') (hw:Wat w A n l) (hne:∀ b' o',A=some ⟨b',o',none⟩→b'≠b):Wat w' A n l:=by
 refine ⟨hw.1,hw.2.1,fun hn=>?_⟩;obtain ⟨b',o',rfl,hlt,hc⟩:=hw.2.2 hn;exact ⟨b',o',rfl,Nat.lt_of_lt_of_le hlt h.size,fun j hj=>(World.cell?_of_block (a:=⟨b',o'+j,none⟩) (h.block b' hlt (hne b' o' rfl))).trans (hc j hj)⟩
theorem Wat.setB {w:World} {g n:Nat} {l:List Nat} (h:Wat w (some ⟨g,0,none⟩) n l) {p:Addr} (hp:g≠p.block) (v:Value):Wat (w.setCell p v) (some ⟨g,0,none⟩) n l:=by
 refine ⟨h.1,h.2.1,fun hn=>?_⟩;obtain ⟨b',o',e,hlt,hc⟩:=h.2.2 hn;simp only [Option.some.injEq,Addr.mk.injEq] at e;obtain ⟨rfl,rfl,_⟩:=e;exact ⟨g,0,rfl,by rw [World.size_setCell];exact hlt,fun j hj=>(World.cell?_of_block (a:=⟨g,0+j,none⟩) (Below.heap_setCell w p v g hp)).trans (hc j hj)⟩
def AbS (gu N k m:Nat) (U p v:List Nat) (w6:World) (i:Nat) (wr:World):Prop :=
 Rw wr gu 0 N (win U k m (abk p v i))∧Blk wr w6.heap.size 164 #[.int .u64 ((cout 0 (sumW p v i):Nat):Int)]∧Bx gu w6 wr
theorem AbS.step {gu N k m i:Nat} {U p v:List Nat} {w6 wr:World} (h:AbS gu N k m U p v w6 i wr) (hi:i<m) (hpl:p.length=m) (hk:k+m≤U.length) (hN:N=U.length) (hgu:gu<w6.heap.size) :
  (wr.cell? ⟨gu,k+i,none⟩=some (.int .u32 ((p[i]?.getD 0:Nat):Int))∧wr.frozen? ⟨gu,k+i,none⟩=false) ∧
  ((wr.setCell ⟨w6.heap.size,0,none⟩ (.int .u64 (((p[i]?.getD 0+v[i]?.getD 0+cout 0 (sumW p v i)) / 4294967296:Nat):Int))).cell? ⟨gu,k+i,none⟩=some (.int .u32 ((p[i]?.getD 0:Nat):Int))∧(wr.setCell ⟨w6.heap.size,0,none⟩ (.int .u64 (((p[i]?.getD 0+v[i]?.getD 0+cout 0 (sumW p v i)) / 4294967296:Nat):Int))).frozen? ⟨gu,k+i,none⟩=false) ∧
  AbS gu N k m U p v w6 (i+1) ((wr.setCell ⟨w6.heap.size,0,none⟩ (.int .u64 (((p[i]?.getD 0+v[i]?.getD 0+cout 0 (sumW p v i)) / 4294967296:Nat):Int))).setCell ⟨gu,k+i,none⟩ (.int .u32 (((p[i]?.getD 0+v[i]?.getD 0+cout 0 (sumW p v i)) % 4294967296:Nat):Int))):=by
 obtain ⟨h1,h2,h3⟩:=h;have hal:(abk p v i).length=m:=by rw [abk_len (by omega),hpl]
 have c1:=h1.2.2.2.1 (k+i) (by omega);have f1:=h1.2.2.2.2 (k+i) (by omega);rw [win_get hk hal hi,abk_get (by omega),Nat.zero_add] at c1;rw [Nat.zero_add] at f1;have h4:=h1.heap (w':=wr.setCell ⟨w6.heap.size,0,none⟩ (.int .u64 (((p[i]?.getD 0+v[i]?.getD 0+cout 0 (sumW p v i)) / 4294967296:Nat):Int))) (by rw [World.size_setCell];exact Nat.le_refl _) (Below.heap_setCell wr ⟨w6.heap.size,0,none⟩ _ gu (by dsimp only;omega));have c2:=h4.2.2.2.1 (k+i) (by omega);have f2:=h4.2.2.2.2 (k+i) (by omega);rw [win_get hk hal hi,abk_get (by omega),Nat.zero_add] at c2;rw [Nat.zero_add] at f2;have h5:=h4.set (i:=k+i) (d:=(p[i]?.getD 0+v[i]?.getD 0+cout 0 (sumW p v i)) % 4294967296) (by omega) (Nat.mod_lt _ (by decide));rw [win_set hk hal hi,abk_set (by omega),Nat.zero_add] at h5;refine ⟨⟨c1,f1⟩,⟨c2,f2⟩,h5,?_,(h3.put (p:=⟨w6.heap.size,0,none⟩) (Nat.le_refl _) _).set (k+i) _⟩;have h6:=Blk.far (Blk.set h2 0 (.int .u64 (((p[i]?.getD 0+v[i]?.getD 0+cout 0 (sumW p v i)) / 4294967296:Nat):Int))) (p:=⟨gu,k+i,none⟩) (by dsimp only;omega) (.int .u32 (((p[i]?.getD 0+v[i]?.getD 0+cout 0 (sumW p v i)) % 4294967296:Nat):Int));rw [sumW_succ,cout_snoc];exact h6
theorem div_cast (X s:Nat):(X:Int) / 2 ^ s % 4294967296=((X / 2 ^ s % 4294967296:Nat):Int):=by
 have h:((2:Int) ^ s)=((2 ^ s:Nat):Int):=by push_cast;rfl
 rw [h]
 rfl
theorem digs_top {y n:Nat} (h:(digs y).length=n+1):(digs y)[n]?.getD 0≠0:=by
 have h1:=digs_last y;rw [List.getLast?_eq_getElem?,h,Nat.add_sub_cancel] at h1;intro h2;rw [List.getElem?_eq_getElem (by omega)] at h1 h2;simp only [Option.getD_some] at h2;exact h1 (by rw [h2])
theorem longDiv_any (A A':Option Addr) (na n m c c' x y:Nat) (w:World) (h:Wat w A na (digs x)) (h':Wat w A' (n+2) (digs y)) (hle:na=m+(n+2)) (hna:na≤10000000000) :
  Calls Tryz.prog 219 #[.slice A na c,.slice A' (n+2) c'] w (RetDiv w x y):=by
 have htop:=digs_top h'.1;have htB:=h'.2.1.get (n+1);obtain ⟨b',o',rfl,hb',hc'⟩:=h'.2.2 (by omega);have d0:=hc' (n+1) (by omega);have TL:=Hj (fun W=>lz_any ((digs y)[n+1]?.getD 0) W htop htB);obtain ⟨nn,hnn⟩:∃ k,k=n+2:=⟨_,rfl⟩;obtain ⟨n1,hn1⟩:∃ k,k=n+1:=⟨_,rfl⟩;rw [← hn1] at d0 TL;have w1:IntKind.i64.wrap ((nn:Int)-1)=(n1:Int):=by rw [IntWalk.i64_in _ (by omega)];omega
 have i1:(0:Int)≤(n1:Int):=by omega
 have i2:(n1:Int)<(nn:Int):=by omega
 have HH:=Hj h;have HH':=Hj h';rw [← hnn] at h' HH' ⊢;have HD0:=Hj d0;generalize hdt:(digs y)[n1]?.getD 0=dt at *;have HDT:=Hj hdt;have HNN:=Hj (And.intro hnn (And.intro hn1 hle));clear h h' htop htB hc' hb' hdt hnn hn1 hle;go_enter Tryz.func219,Tryz.ntmps219
 go_wp2_with fail
 refine (TL.out w).mono ?_;rintro e w2 ⟨s,rfl,hs1,hs2,hs3,rfl⟩;have HS:=Hj (And.intro hs1 (And.intro hs2 hs3));have ws:IntKind.u64.wrap (s:Int)=(s:Int):=by rw [IntKind.wrap_u64];omega
 have hnnb:nn≤10000000000:=by have:=HNN.out;omega
 have j1:(0:Int)≤(nn:Int):=by omega
 have j2:(nn:Int)≤(nn:Int)+1:=by omega
 clear TL hs1 hs2 hs3 d0
 go_wp2_with fail
 have hk0:=Kp.refl w2;have HT:=Hj (show ∀ w',Kp w2 w'→True∧Kp w2 w' from fun w' hk=>⟨trivial,hk⟩)
 go_region_held3 (fun w'=>(True)∧Kp w2 w')
  (with_reducible first|(refine HT.out _ ?_;assumption)|(refine HT.out _ (Kp.drew ?_);assumption)|(refine' HT.out _ (Kp.drew (And.right ?_));rotate_left;assumption))
  (first
   | (go_at_call_of 223 (Value.slice A na c);have hk:=And.right ‹_∧Kp w2 _›;refine (shiftLeft_any A na c s (digs x) _ (HH.out.below hk) hna HS.out.1).mono ?_;rintro e w3 ⟨gu,U0,rfl,hgu,hbu,hul,huw,huv,hb3⟩;have hk3:=Kp.trans hk hb3;have hgu2:=Nat.le_trans (Below.size hk) hgu)
   | (go_at_call_of 223 (Value.slice (some ⟨b',o',none⟩) nn c');have hk':=And.right ‹_∧Kp w2 _›;refine (shiftLeft_any (some ⟨b',o',none⟩) nn c' s (digs y) _ (HH'.out.below hk') (by omega) HS.out.1).mono ?_;rintro e w4 ⟨gv,V0,rfl,hgv,hbv,hvl,hvw,hvv,hb4⟩;have hk4:=Kp.trans hk' hb4))
 have hHl:=HNN.out;have hbw:=HH'.out.2.1;have hbl:=HH'.out.1;have haw:=HH.out.2.1;have hal:=HH.out.1;have hS:=HS.out;have hdt:=HDT.out;obtain ⟨v1,v2,v3⟩:=shift_div (n:=n1) (s:=s) hbw (by omega) hvw (by omega) hvv (by rw [hdt];exact hS.2.1) (by rw [hdt];exact hS.2.2) hS.1;have hlow:=shift_low (n:=n1) (m:=m+1) haw (by omega) huw (by omega) huv hS.1 v3;rw [show n1+1=nn by omega] at v1 v2 v3 hlow;have hLd:=LdI.start (v:=V0.take nn) (Q:=List.replicate (m+1) 0) (n:=nn) (m:=m+1) huw (fun d hd=>by rw [List.eq_of_mem_replicate hd];decide) (by omega) (by simp) hlow;have hvB:Ws (V0.take nn):=hvw.take nn;have hvL:(V0.take nn).length=nn:=by rw [List.length_take];omega
 have hvW:Wat w4 (some ⟨gv,0,none⟩) nn (V0.take nn):=by
  have:=(Rw.blk hbv hvw).wat;rw [hvl] at this;exact this.shorter (by omega)
 have huW:Rw w4 gu 0 (na+1) U0:=by
  have:=Rw.blk hbu huw;rw [hul] at this;exact this.below hb4 hbu.lt
 have hgv2:gu<gv:=Nat.lt_of_lt_of_le hbu.lt hgv;have hgq:gv<w4.heap.size:=hbv.lt;have hst:LdS w2 gu gv w4.heap.size (na+1) nn (m+1) (V0.take nn) U0 (List.replicate (m+1) 0) (w4.alloc (.cells (wcells (List.replicate (m+1) 0)) 59)) :=
  ⟨huW.below ((Below.refl _ w4).alloc (Nat.le_refl _) _) huW.2.2.1,hvW.alloc _,by
   have:=Rw.blk (Blk.new w4 59 (wcells (List.replicate (m+1) 0))) (fun d hd=>by rw [List.eq_of_mem_replicate hd];decide);simpa using this,Below.alloc hk4 (Below.size hk4) _⟩
 have HST:=Hj (And.intro hLd hst);have HV:=Hj (And.intro v1 (And.intro v2 (And.intro hvB (And.intro hvL (And.intro v3 huv)))));have HG:=Hj (And.intro hgu2 (And.intro hgv2 hgq));have wq1:IntKind.i64.wrap ((na:Int)-(nn:Int))=(m:Int):=by rw [IntWalk.i64_in _ (by omega)];omega
 have wq2:IntKind.i64.wrap ((m:Int)+1)=(m:Int)+1:=IntWalk.i64_in _ (by omega);have hmk:∀ W:World,_:=fun W=>run_make_u32 (m+1) (by omega) W;rw [show (((m+1:Nat)):Int)=(m:Int)+1 by omega] at hmk;have hmb:m≤10000000000:=by omega
 generalize V0.take nn=v at *;clear hHl hbw hbl haw hal hS hdt v1 v2 v3 hlow hLd hvB hvL hvW huW hgv2 hgq hst hk hk' hgu hbu hul huw huv hb3 hk3 hgu2 hgv hbv hvl hvw hvv hb4 hk4
 go_wp2_with fail
 generalize hgqe:w4.heap.size=gq at *
 go_loopw [10] (fun t10 wr=>∃ (k:Nat) (i:Int) (U Q:List Nat),k≤m+1∧t10=.int .i64 i∧i=(k:Int)-1∧Hid (LdI U0 v nn k U Q∧LdS w2 gu gv gq (na+1) nn (m+1) v U Q wr)) (fun t _=>(intOf t+1).toNat)
 case atStart=>exact ⟨m+1,_,_,_,Nat.le_refl _,rfl,by omega,HST.out⟩
 case round =>
  clear HST;obtain ⟨k,i,U,Q,hk,rfl,hi,hR⟩:=hrel;obtain ⟨wu,rfl⟩:∃ v,v=wr:=⟨_,rfl⟩;cases k with
  | zero =>
   have hz:¬ (0:Int)≤i:=by omega
   obtain ⟨hI,hS⟩:=hR.out;obtain ⟨q1,q2⟩:=hI.done;have hpos:0<2 ^ s:=Nat.pos_of_ne_zero (by simp);rw [HV.out.2.2.2.2.2,HV.out.1,val_digs,val_digs,Nat.mul_div_mul_right _ _ hpos] at q1;rw [HV.out.2.2.2.2.2,HV.out.1,val_digs,val_digs,Nat.mul_mod_mul_right] at q2;have hyB:y<4294967296 ^ nn:=digs_len_le.1 (by rw [HH'.out.1];exact Nat.le_refl _);have hy0:0<y:=by
    have h1:=HV.out.1;have h2:=HV.out.2.2.2.2.1;rw [val_digs] at h1;rcases Nat.eq_zero_or_pos y with h0|h0
    ·rw [h1,h0,Nat.zero_mul] at h2;have:0<4294967296 ^ n1:=Nat.pos_of_ne_zero (by simp);omega
    ·exact h0
   have hrv:=shr_val (s:=s) (by have:=HS.out.1;omega) nn U hS.hu.2.1;rw [q2,Nat.mul_div_cancel _ hpos,Nat.mod_eq_of_lt (Nat.lt_trans (Nat.mod_lt x hy0) hyB)] at hrv;have HE:=Hj (And.intro q1 (And.intro hrv hS));have hmk2:∀ W:World,_:=fun W=>run_make_u32 nn (by omega) W;have hr0:Blk (wu.alloc (.cells (wcells (List.replicate nn 0)) 59)) wu.heap.size 59 (rowC nn (shr U s 0)):=by
    have:=Blk.new wu 59 (wcells (List.replicate nn 0));simpa [rowC,shr,wcells] using this
   have HR0:=Hj (And.intro hr0 ((Kp.refl wu).alloc (Nat.le_refl _) (.cells (wcells (List.replicate nn 0)) 59)));clear hR hI hS q1 q2 hrv hr0 hi hmk hyB hy0 hpos
   go_wp2_with fail
   go_loopw [116] (fun t wr=>∃ j:Nat,j≤nn∧t=.int .i64 j∧Hid (Blk wr wu.heap.size 59 (rowC nn (shr U s j))∧Kp wu wr)) (fun t _=>nn-(intOf t).toNat)
   case atStart=>exact ⟨0,Nat.zero_le _,rfl,HR0.out⟩
   case round =>
    clear HR0;obtain ⟨j,hj,rfl,hRR⟩:=hrel;obtain ⟨w9,rfl⟩:∃ v,v=wr:=⟨_,rfl⟩;have hlen:(shr U s j).length=j:=by simp [shr]
    by_cases hlt:j<nn
    ·have hu9:=HE.out.2.2.hu.below hRR.out.2 HE.out.2.2.hu.2.2.1;have d1:=hu9.2.2.2.1 j (by have:=HNN.out;omega);have d2:=hu9.2.2.2.1 (j+1) (by have:=HNN.out;omega);rw [Nat.zero_add] at d1 d2;have hu1:=hu9.2.1.get j;have hu2:=hu9.2.1.get (j+1);have e1:=rowC_next hRR.out.1 hlen (by omega);have e2:=hRR.out.1.frozen j;have hbl:=hRR.out.1.set j (.int .u32 (((U[j]?.getD 0+4294967296*U[j+1]?.getD 0) / 2 ^ s % 4294967296:Nat):Int));rw [rowC_set hlen (by omega)] at hbl;have hsn:shr U s (j+1)=shr U s j ++ [(U[j]?.getD 0+4294967296*U[j+1]?.getD 0) / 2 ^ s % 4294967296]:=by simp [shr,List.range_succ]
     rw [← hsn] at hbl;have hkp:=Below.setCell hRR.out.2 (p:=⟨wu.heap.size,j,none⟩) (Nat.le_refl _) (.int .u32 (((U[j]?.getD 0+4294967296*U[j+1]?.getD 0) / 2 ^ s % 4294967296:Nat):Int));have HN:=Hj (And.intro hbl (show Kp wu _ from hkp));have wu1:IntKind.u64.wrap ((U[j]?.getD 0:Nat):Int)=((U[j]?.getD 0:Nat):Int):=by rw [IntKind.wrap_u64];omega
     have wu2:IntKind.u64.wrap ((U[j+1]?.getD 0:Nat):Int)=((U[j+1]?.getD 0:Nat):Int):=by rw [IntKind.wrap_u64];omega
     have wu3:IntKind.u64.wrap (((U[j+1]?.getD 0:Nat):Int)*4294967296)=((U[j+1]?.getD 0:Nat):Int)*4294967296:=by rw [IntKind.wrap_u64];omega
     have hor:Go.bits .or .u64 ((U[j]?.getD 0:Nat):Int) (((U[j+1]?.getD 0:Nat):Int)*4294967296)=((U[j]?.getD 0+4294967296*U[j+1]?.getD 0:Nat):Int):=by
      rw [show (((U[j+1]?.getD 0:Nat):Int)*4294967296)=((U[j+1]?.getD 0*4294967296:Nat):Int) by omega,u64_or_nat _ _ (by omega) (by omega),or_shift _ _ hu1 hu2]
     have hmn:min s 64=s:=by have:=HS.out.1;omega
     have hdv:((U[j]?.getD 0+4294967296*U[j+1]?.getD 0:Nat):Int) / 2 ^ s % 4294967296=(((U[j]?.getD 0+4294967296*U[j+1]?.getD 0) / 2 ^ s % 4294967296:Nat):Int):=div_cast _ s;have wj:IntKind.i64.wrap ((j:Int)+1)=(j:Int)+1:=IntWalk.i64_in _ (by omega);have a1:(0:Int)≤(j:Int):=by omega
     have a2:(j:Int)<(nn:Int):=by omega
     have a3:(j:Int)<(na:Int)+1:=by have:=HNN.out;omega
     have a4:(j:Int)+1<(na:Int)+1:=by have:=HNN.out;omega
     have a5:(0:Int)≤(j:Int)+1:=by omega
     generalize (U[j]?.getD 0+4294967296*U[j+1]?.getD 0) / 2 ^ s % 4294967296=dd at *;generalize U[j]?.getD 0+4294967296*U[j+1]?.getD 0=X at *;generalize U[j]?.getD 0=ua at *;generalize U[j+1]?.getD 0=ub at *;clear hRR hlen hu9 hu1 hu2 hbl hsn hkp;have d1':w9.drew.cell? ⟨gu,j,none⟩=_:=d1;have d2':w9.drew.cell? ⟨gu,j+1,none⟩=_:=d2;have e1':w9.drew.cell? ⟨wu.heap.size,j,none⟩=_:=e1;have e2':w9.drew.frozen? ⟨wu.heap.size,j,none⟩=_:=e2;go_wp2
     go_region
     all_goals go_wp2
     all_goals go_roundw
     case rel=>exact ⟨j+1,by omega,by go_num,Hj ⟨HN.out.1.drew,Kp.drew HN.out.2⟩⟩
     case measure=>simp [intOf];omega
    ·obtain rfl:nn=j:=by omega
     have hrow:rowC nn (shr U s nn)=wcells (shr U s nn):=by
      unfold rowC wcells;rw [hlen,Nat.sub_self];simp
     have hb9:=hRR.out.1;rw [hrow] at hb9;have hwat:=Blk.wat (base:=w2.heap.size) hb9 (fun d hd=>by
      obtain ⟨i,_,rfl⟩:=List.mem_map.1 hd;exact Nat.mod_lt _ (by decide)) HE.out.2.2.hb.size
     rw [hlen] at hwat;have hq9:=HE.out.2.2.hq.below hRR.out.2 HE.out.2.2.hq.2.2.1;have hbb:=HE.out.2.2.hb.trans (Below.mono hRR.out.2 HE.out.2.2.hb.size);have hfin:RetDiv w2 x y (.returned (.tuple #[.slice (some ⟨gq,0,none⟩) (m+1) (m+1),.slice (some ⟨wu.heap.size,0,none⟩) nn nn])) w9 :=
      ⟨_,_,_,Q,_,_,_,_,rfl,Nat.le_refl _,Nat.le_refl _,by omega,by omega,hq9.wat,hwat.1,hq9.fresh (by have:=HG.out;omega),hwat.2,HE.out.1,HE.out.2.1,hbb⟩
     have HF:=Hj hfin;clear hfin hbb hq9 hwat hb9 hrow hRR hlen;go_wp2;go_ret2;exact HF.out
  | succ k =>
   obtain rfl:i=(k:Int):=by omega
   clear hi;have i3:(0:Int)≤(k:Int):=by omega
   have wk1:IntKind.i64.wrap ((k:Int)+(nn:Int))=(k:Int)+(nn:Int):=IntWalk.i64_in _ (by omega);have wk2:IntKind.i64.wrap ((k:Int)+(nn:Int)+1)=(k:Int)+(nn:Int)+1:=IntWalk.i64_in _ (by omega);have i4:(k:Int)≤(k:Int)+(nn:Int)+1:=by omega
   have i5:(k:Int)+(nn:Int)+1≤(na:Int)+1:=by have:=HNN.out;omega
   have he:k+nn+1-k=nn+1:=by omega
   obtain ⟨hI,hS⟩:=hR.out;have hUl:=hS.hu.1;have hQl:=hS.hq.1;have hkU:k+(nn+1)≤U.length:=by have:=HNN.out;omega
   obtain ⟨x1,x2⟩:=hI.window hkU;have hWw:Wat wu (some ⟨gu,k,none⟩) (nn+1) ((U.drop k).take (nn+1)):=by
    have:=hS.hu.sub (k:=k) (m:=nn+1) (by omega)
    rwa [Nat.zero_add] at this
   have TE:=Hj (estimate_any (some ⟨gu,k,none⟩) (some ⟨gv,0,none⟩) nn n (na+1-k) (nn+1) ((U.drop k).take (nn+1)) v wu hWw hS.hv HNN.out.1 (by omega) (by rw [← HNN.out.2.1];exact HV.out.2.1) x2);have HR:=Hj (And.intro hI (And.intro hS (And.intro hkU x2)));clear hR hI hS hUl hQl hkU x1 x2 hWw
   go_wp2_with fail
   refine TE.out.mono ?_;rintro e w5 ⟨g,rfl,hg1,hg2,hg3,hb5⟩;clear TE;have hS5:LdS w2 gu gv gq (na+1) nn (m+1) v U Q w5:=HR.out.2.1.keep hb5;have TS:=subMul_any gu 0 (na+1) k nn (na+1-k) (nn+1) g (some ⟨gv,0,none⟩) U v w5 hS5.hu (by have:=HR.out.2.2.1;have:=hS5.hu.1;omega) hS5.hv (fun b0 o0 e=>by simp only [Option.some.injEq,Addr.mk.injEq] at e;have:=HG.out.2.1;omega) hg3 (by omega);rw [Nat.zero_add] at TS;have TS:=Hj TS;have HG5:=Hj (And.intro hg1 (And.intro hg2 (And.intro hg3 hS5)));clear hg1 hg2 hg3 hS5 hb5
   go_wp2_with fail
   refine TS.out.mono ?_;rintro e w6 ⟨p,cc,bb,rfl,hsm,hrw,hbx⟩;clear TS;have hvw:=HV.out.2.2.1;have hvl:=HV.out.2.2.2.1;have hkU:=HR.out.2.2.1;have hIws:=HR.out.1.ws;have hwl:((U.drop k).take (nn+1)).length=nn+1:=win_of_len hkU;have hVp:0<val v:=by
    rcases Nat.eq_zero_or_pos (val v) with h0|h0
    ·have:=HR.out.2.2.2;rw [h0] at this;omega
    ·exact h0
   have hdr:=digit_rest (u:=(U.drop k).take (nn+1)) (v:=v) (g:=g) (b:=bb) (c:=cc) (p:=p) (by rw [hwl];exact hsm) ((hIws.drop k).take _) hvw (by rw [hwl,hvl]) hVp HG5.out.1 HG5.out.2.1;rw [hwl] at hdr;have hpl:p.length=nn+1:=by rw [hsm.len];exact hwl
   have hkQ:k<Q.length:=by rw [HR.out.2.1.hq.1];omega
   have hS6v:=hbx.wat HG5.out.2.2.2.hv (by rintro b0 o0 e;simp only [Option.some.injEq,Addr.mk.injEq] at e;have:=HG.out.2.1;omega);have hS6q:=hbx.rw HG5.out.2.2.2.hq (by have:=HG.out.2;omega);have hS6b:=Bx.below HG5.out.2.2.2.hb hbx HG.out.1;by_cases hb0:bb=0
   ·have hbb:(((bb:Nat):Int) != 0)=false:=by simp [hb0]
    obtain ⟨y1,y2⟩:=hdr.1 hb0;obtain ⟨z1,z2⟩:=HR.out.1.step hvw hvl hkU hkQ hpl hsm.ws y1 y2;have hqc:=hS6q.2.2.2.1 k (by omega);have hqf:=hS6q.2.2.2.2 k (by omega);rw [Nat.zero_add] at hqc hqf;have hqs:=hS6q.set (i:=k) (by omega) z2;rw [Nat.zero_add] at hqs;have hSN:LdS w2 gu gv gq (na+1) nn (m+1) v (win U k (nn+1) p) (Q.set k g) (w6.setCell ⟨gq,k,none⟩ (.int .u32 (g:Int))) :=
     ⟨hrw.heap (by rw [World.size_setCell];exact Nat.le_refl _) (Below.heap_setCell _ ⟨gq,k,none⟩ _ gu (by have:=HG.out.2;dsimp only;omega)),hS6v.setB (by dsimp only;have:=HG.out.2;omega) _,hqs,Below.setCell hS6b (p:=⟨gq,k,none⟩) (by have:=HG.out;dsimp only;omega) _⟩
    have HN:=Hj (And.intro z1 hSN);have wg:IntKind.u32.wrap (g:Int)=(g:Int):=by rw [IntKind.wrap_u32];omega
    have wg':(g:Int) % 4294967296=(g:Int):=by omega
    have i6:(k:Int)<(m:Int)+1:=by omega
    have wk3:IntKind.i64.wrap ((k:Int)-1)=(k:Int)-1:=IntWalk.i64_in _ (by omega);generalize Q[k]?.getD 0=qold at hqc;clear hSN z1 z2 hqs y1 y2 hdr hsm hrw hbx hS6v hS6q hS6b hb0 hvw hvl hkU hIws hwl hVp hpl hkQ;go_wp2;go_roundw
    case rel=>exact ⟨k,_,_,_,by omega,rfl,rfl,HN.out⟩
    case measure=>simp [intOf]
   ·have hbb:(((bb:Nat):Int) != 0)=true:=by simp [hb0]
    obtain ⟨y1,y2⟩:=hdr.2 hb0;obtain ⟨qd,hqd,hqe⟩:∃ qd,g=qd+1∧qd=val ((U.drop k).take (nn+1)) / val v:=⟨_,y1,rfl⟩;obtain ⟨z1,z2⟩:=HR.out.1.step (p:=abk p v (nn+1)) (q:=qd) hvw hvl hkU hkQ (by rw [abk_len (by omega),hpl]) (abk_ws hsm.ws) hqe (by rw [abk_all hpl];exact y2);have hA0:AbS gu (na+1) k (nn+1) U p v w6 0 (w6.alloc (.cells #[.int .u64 0] 164)) :=
     ⟨by rw [abk_zero];exact hrw.below ((Below.refl _ w6).alloc (Nat.le_refl _) _) hrw.2.2.1,Blk.new w6 _ _,Bx.of ((Below.refl _ w6).alloc (Nat.le_refl _) _)⟩
    have HA0:=Hj hA0;have HPW:=Hj hsm.ws;have HPL:=Hj hpl;have HVW:=Hj hvw;have HVL:=Hj hvl;have HKU:=Hj (And.intro hkU (show na+1=U.length from HR.out.2.1.hu.1.symm));have HGU:=Hj (show gu<w6.heap.size from hrw.2.2.1);have HZ:=Hj (And.intro z1 z2);have H6:=Hj (And.intro hS6v (And.intro hS6q hS6b));have wg:IntKind.u64.wrap ((g:Int)-1)=(qd:Int):=by rw [IntKind.wrap_u64];have:=HG5.out.2.2.1;omega
    have hgvu:gv≠gu:=by have:=HG.out.2.1;omega
    clear z1 z2 hA0 y1 y2 hdr hsm hrw hbx hS6v hS6q hS6b hb0 hvw hvl hkU hIws hwl hVp hpl hkQ hqd hqe
    go_wp2_with fail
    refine (carrier_any 0 w6).mono ?_;rintro e w7 ⟨rfl,rfl⟩
    go_wp2_with fail
    go_loopw [71] (fun t wr=>∃ i:Nat,i≤nn∧t=.int .i64 i∧Hid (AbS gu (na+1) k (nn+1) U p v w6 i wr)) (fun t _=>nn-(intOf t).toNat)
    case atStart=>exact ⟨0,Nat.zero_le _,rfl,HA0.out⟩
    case round =>
     clear HA0;obtain ⟨i,hi,rfl,hRA⟩:=hrel;obtain ⟨w8,rfl⟩:∃ v,v=wr:=⟨_,rfl⟩;have hcar:=sumW_carry HPW.out HVW.out i;have hpi:=HPW.out.get i;have hvi:=HVW.out.get i;by_cases hlt:i<nn
     ·obtain ⟨⟨c1,f1⟩,⟨c2,f2⟩,hN⟩:=hRA.out.step (show i<nn+1 by omega) HPL.out HKU.out.1 HKU.out.2 HGU.out;obtain ⟨bv,ov,ev,hbv,hcv⟩:=H6.out.1.2.2 (by omega);simp only [Option.some.injEq,Addr.mk.injEq] at ev;obtain ⟨rfl,rfl,_⟩:=ev;have d1:=(World.cell?_of_block (a:=⟨gv,0+i,none⟩) (hRA.out.2.2.block gv hbv hgvu)).trans (hcv i hlt);rw [Nat.zero_add] at d1;have HNX:=Hj (fun W (hW:Blk W w6.heap.size 164 #[.int .u64 ((cout 0 (sumW p v i):Nat):Int)])=>next_nat w6.heap.size (p[i]?.getD 0+v[i]?.getD 0) (cout 0 (sumW p v i)) (((p[i]?.getD 0:Nat):Int)+((v[i]?.getD 0:Nat):Int)) (by omega) W hW (by omega));have Q3:=Hj hRA.out.2.1;have HN:=Hj hN;have wpi:IntKind.u64.wrap ((p[i]?.getD 0:Nat):Int)=((p[i]?.getD 0:Nat):Int):=by rw [IntKind.wrap_u64];omega
      have wvi:IntKind.u64.wrap ((v[i]?.getD 0:Nat):Int)=((v[i]?.getD 0:Nat):Int):=by rw [IntKind.wrap_u64];omega
      have wsum:IntKind.u64.wrap (((p[i]?.getD 0:Nat):Int)+((v[i]?.getD 0:Nat):Int))=((p[i]?.getD 0:Nat):Int)+((v[i]?.getD 0:Nat):Int):=by rw [IntKind.wrap_u64];omega
      have wki:IntKind.i64.wrap ((k:Int)+(i:Int))=(k:Int)+(i:Int):=IntWalk.i64_in _ (by omega);have a1:(0:Int)≤(k:Int)+(i:Int):=by omega
      have a2:(k:Int)+(i:Int)<(na:Int)+1:=by omega
      have a3:(0:Int)≤(i:Int):=by omega
      have a4:(i:Int)<(nn:Int):=by omega
      generalize (p[i]?.getD 0+v[i]?.getD 0+cout 0 (sumW p v i)) / 4294967296=c2' at *;generalize (p[i]?.getD 0+v[i]?.getD 0+cout 0 (sumW p v i)) % 4294967296=d2' at *;generalize cout 0 (sumW p v i)=cc2 at *;generalize p[i]?.getD 0=pi at *;generalize v[i]?.getD 0=vi at *;clear hN hRA hcv hcar hpi hvi
      go_wp2_with fail
      refine (HNX.out _ Q3.out).mono ?_;rintro e w9 ⟨rfl,rfl⟩;clear HNX;go_wp2;go_roundw
      case rel=>exact ⟨i+1,by omega,by go_num,HN.out⟩
      case measure=>simp [intOf];omega
     ·obtain rfl:nn=i:=by omega
      have hv0:v[nn]?.getD 0=0:=by rw [List.getElem?_eq_none (by rw [HVL.out];exact Nat.le_refl _)];rfl
      obtain ⟨⟨c1,f1⟩,⟨c2,f2⟩,hN⟩:=hRA.out.step (Nat.lt_succ_self nn) HPL.out HKU.out.1 HKU.out.2 HGU.out;have HNX:=Hj (fun W (hW:Blk W w6.heap.size 164 #[.int .u64 ((cout 0 (sumW p v nn):Nat):Int)])=>next_nat w6.heap.size (p[nn]?.getD 0+v[nn]?.getD 0) (cout 0 (sumW p v nn)) ((p[nn]?.getD 0:Nat):Int) (by rw [hv0,Nat.add_zero]) W hW (by omega));have Q3:=Hj hRA.out.2.1;have hNq:=hN.2.2.rw H6.out.2.1 (by have:=HG.out.2;omega);have hNv:=hN.2.2.wat H6.out.1 (by rintro b0 o0 e;simp only [Option.some.injEq,Addr.mk.injEq] at e;omega);have hNb:=Bx.below H6.out.2.2 hN.2.2 HG.out.1;have hqc:=hNq.2.2.2.1 k (by omega);have hqf:=hNq.2.2.2.2 k (by omega);rw [Nat.zero_add] at hqc hqf;have hqs:=hNq.set (i:=k) (by omega) HZ.out.2;rw [Nat.zero_add] at hqs;have hFin:∃ wz,wz=_∧LdS w2 gu gv gq (na+1) nn (m+1) v (win U k (nn+1) (abk p v (nn+1))) (Q.set k qd) wz:=⟨_,rfl,
       hN.1.heap (by simp only [World.size_setCell];exact Nat.le_refl _) (Below.heap_setCell _ ⟨gq,k,none⟩ (.int .u32 (qd:Int)) gu (by have:=HG.out.2;dsimp only;omega)),hNv.setB (by dsimp only;have:=HG.out.2;omega) _,hqs,Below.setCell hNb (p:=⟨gq,k,none⟩) (by have:=HG.out;dsimp only;omega) _⟩
      obtain ⟨wz,hwz,hFin⟩:=hFin;subst hwz;have HN:=Hj (And.intro HZ.out.1 hFin);have wpi:IntKind.u64.wrap ((p[nn]?.getD 0:Nat):Int)=((p[nn]?.getD 0:Nat):Int):=by rw [IntKind.wrap_u64];omega
      have wgq:(qd:Int) % 4294967296=(qd:Int):=by have:=HZ.out.2;omega
      have a1:(0:Int)≤(k:Int)+(nn:Int):=by omega
      have a2:(k:Int)+(nn:Int)<(na:Int)+1:=by omega
      have i6:(k:Int)<(m:Int)+1:=by omega
      have wk3:IntKind.i64.wrap ((k:Int)-1)=(k:Int)-1:=IntWalk.i64_in _ (by omega);generalize Q[k]?.getD 0=qold at hqc;generalize (p[nn]?.getD 0+v[nn]?.getD 0+cout 0 (sumW p v nn)) / 4294967296=c2' at *;generalize (p[nn]?.getD 0+v[nn]?.getD 0+cout 0 (sumW p v nn)) % 4294967296=d2' at *;generalize cout 0 (sumW p v nn)=cc2 at *;generalize p[nn]?.getD 0=pi at *;clear hN hRA hNq hNv hNb hqs hFin hv0 hvi hpi hcar
      go_wp2_with fail
      refine (HNX.out _ Q3.out).mono ?_;rintro e w9 ⟨rfl,rfl⟩;clear HNX;go_wp2;go_roundw
      case rel=>exact ⟨k,_,_,_,by omega,rfl,rfl,HN.out⟩
      case measure=>simp [intOf]
end Go.Proofs.YtjajigkacccdgaaGreat
