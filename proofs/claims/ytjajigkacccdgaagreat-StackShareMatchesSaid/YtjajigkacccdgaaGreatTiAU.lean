/-
Lemmas of the walk; no further conditions.
-/
import Derived.Test.YtjajigkacccdgaaGreatTiAT
import Derived.Laws.EntriesVeiled
set_option linter.unusedVariables false
set_option linter.unusedSimpArgs false
set_option maxRecDepth 100000
set_option maxHeartbeats 16000000
namespace Go.Proofs.YtjajigkacccdgaaGreat
open Go.RowKit
open Wd
def lvQ (lv:List St.Lv):List (Int×Int):=lv.map fun x=>(x.2.1,x.1)
theorem lvQ_len (lv:List St.Lv):(lvQ lv).length=lv.length:=by simp [lvQ]
theorem lvQ_fst (lv:List St.Lv) (k:Nat):((lvQ lv)[k]?.getD (0,0)).1=(lv[k]?.getD Lv0).2.1:=by
 unfold lvQ;rw [List.getElem?_map];cases lv[k]?<;>rfl
theorem lvQ_snd (lv:List St.Lv) (k:Nat):((lvQ lv)[k]?.getD (0,0)).2=(lv[k]?.getD Lv0).1:=by
 unfold lvQ;rw [List.getElem?_map];cases lv[k]?<;>rfl
def OkQ (l:List (Int×Int)):Prop:=∀ s∈l,0<s.1∧s.1≤16000000
theorem VL.okQ {up:Bool} {n:Nat} {lv:List St.Lv} (h:VL up n lv):OkQ (lvQ lv):=fun s hs=>by
 obtain ⟨x,hx,rfl⟩:=List.mem_map.1 hs;exact h.qty x hx
theorem restL_bd {l:List (Int×Int)} {q:Rat} {Nn Nd:Nat} (h0:0≤q) (hok:OkQ l) (hn:q.num.natAbs<Nn) (hd:q.den<Nd):∀ k,k≤l.length→0≤restAt l q k∧(restAt l q k).num.natAbs<Nn∧(restAt l q k).den<Nd
 | 0,_=>⟨h0,hn,hd⟩
 | k+1,hk=>by
  obtain ⟨i1,i2,i3⟩:=restL_bd h0 hok hn hd k (by omega);have hb:=hok _ (getD_mem (d:=(0,0)) (show k<l.length by omega));exact rest_bd i1 (by omega) i2 i3
theorem partL_bd {l:List (Int×Int)} {q:Rat} {Nn Nd:Nat} (h0:0≤q) (hok:OkQ l) (hn:q.num.natAbs<Nn) (hd:q.den<Nd) (hN:16000000<Nn) (hD:1<Nd) {k:Nat} (hk:k<l.length):(partAt l q k).num.natAbs<Nn∧(partAt l q k).den<Nd:=by
 obtain ⟨i1,i2,i3⟩:=restL_bd h0 hok hn hd k (by omega);have hb:=hok _ (getD_mem (d:=(0,0)) hk);unfold partAt lessQ;split
 ·refine ⟨?_,hD⟩;show (l[k]?.getD (0,0)).1.natAbs<Nn;omega
 ·exact ⟨i2,i3⟩
theorem fill_ok (M Nn Nd:Nat) (HO:WOK M) (hM1:2*(Nn*Nd)≤M) (hM2:Nd*Nd≤M) (hnm:Nn≤M) (hdm:Nd≤M) (hN:768000000<Nn) (hN2:Nn≤M) (hD:1<Nd)
  (up:Bool) (A:Option Addr) (n nn c:Nat) (lv:List St.Lv) (an an':Bool) (aA aA':Option Addr) (ak ac ak' ac':Nat) (q:Rat) (w:World) (h:LvAt w A n nn lv) (hq:QAt Nn Nd w an aA ak ac an' aA' ak' ac' q)
  (hv:VL up nn lv) (h0:0≤q) (h1:q≤(totI lv:Int)) :
  Calls Tryz.prog 84 #[.slice A n c,.agg #[.bool an,.slice aA ak ac,.bool an',.slice aA' ak' ac']] w
   (fun e w'=>∃ g ps,e=.returned (.tuple #[.slice (some ⟨g,0,none⟩) n n,.int .i64 0])∧QRow w' g n ps∧(∀ j,j<n→ps[j]?.getD 0=partAt (lvQ lv) q j)∧w.heap.size≤g∧Below w.heap.size w w'):=by
 have hln:=h.1;have hn:n≤48:=by have:=hv.len;omega
 have hbd:=tot_bd lv hv.qty;have hok:=hv.okQ;have hN3:16000000<Nn:=by omega
 have CC:=fun W (hW:Below w.heap.size w W)=>check_ok up A n nn c lv W (h.below hW) hv;have SM:=fun W (hW:Below w.heap.size w W)=>total_ok up A n nn c lv W (h.below hW) hv;have SG:=fun W (hW:Below w.heap.size w W)=>qsign_any an an' aA aA' ak ac ak' ac' q W (hq.below hW);have hsg:decide (sgnQ q<0)=false:=by
  have:=Rat.num_nonneg.2 h0;unfold sgnQ cmpI;split
  ·omega
  ·split<;>simp
 have hcm:decide (0<cmpQ q ((totI lv:Int):Rat))=false:=by
  unfold cmpQ;split
  ·simp
  ·rw [if_neg (by grind)];simp
 have FI:=fun W=>qfromInt64_any (totI lv) W (by omega) (by omega);have hCM:∀ W (hW:Below w.heap.size w W) (B B':Option Addr) (k d k' d':Nat),k≤d→k'≤d'→Wat W B k (digs ((totI lv:Int):Rat).num.natAbs)→Wat W B' k' (denW ((totI lv:Int):Rat).den) →
   Calls Tryz.prog 43 #[.agg #[.bool an,.slice aA ak ac,.bool an',.slice aA' ak' ac'],.agg #[.bool (decide (((totI lv:Int):Rat).num<0)),.slice B k d,.bool false,.slice B' k' d']] W fun e w'=>e=.returned (.int .i64 (cmpQ q ((totI lv:Int):Rat)))∧Below W.heap.size W w':=by
  intro W hW B B' k d k' d' hk hk' h5 h6;refine qcmp_any (Nn:=Nn) (Nd:=Nd) an an' _ false aA aA' B B' ak ac ak' ac' k d k' d' q _ W (hq.below hW) (qat_canon hk hk' h5 h6 ?_ ?_ ?_ hD)
  ·rw [← h5.1,show ((totI lv:Int):Rat).num=totI lv from rfl];exact Nat.le_trans (len_le_two (by omega)) (by omega)
  ·rw [← h6.1,show ((totI lv:Int):Rat).den=1 from rfl];simp [denW]
  ·show (totI lv).natAbs<Nn;omega
 have HLN:Hid ((lvQ lv).length=n):=Hj (by rw [lvQ_len];exact hln);generalize sgnQ q=sq at *;generalize cmpQ q ((totI lv:Int):Rat)=cq at *;generalize hqr:((totI lv:Int):Rat)=qs at *;have hs1:0≤totI lv:=by omega
 have hs2:totI lv≤768000000:=by omega
 generalize totI lv=sl at *;have CC:=Hj CC;have SM:=Hj SM;have SG:=Hj SG;have FI:=Hj FI;have HCM:=Hj hCM;have HQ:=Hj hq;have HST:=Hj h;generalize hlq:lvQ lv=l at *;have HLQ:=Hj hlq;clear hlq hln;have hmk:=fun w=>run_make_Q n (by omega) w;clear hCM hbd hqr h h1 hv hq;go_enter Tryz.func84,Tryz.ntmps84
 go_wp2_with fail
 obtain ⟨hB0,hBW,hsz⟩:=pre1 w 42 #[.bool an,.slice aA ak ac,.bool an',.slice aA' ak' ac'];generalize w.alloc (.cells #[.bool an,.slice aA ak ac,.bool an',.slice aA' ak' ac'] 42)=W at *;have HSZ:=Hj hsz;clear hsz;refine (CC.out W hBW).mono ?_;rintro e w1 ⟨rfl,hb1⟩;have hB0:=hB0.below hb1 hB0.lt;have hBW:Below w.heap.size w w1:=hBW.trans (hb1.mono hBW.size);clear hb1 HSZ CC;have hBK:∀ w',Kp w1 w'→Below w.heap.size w w':=fun w' hk=>hBW.trans (Below.mono hk hBW.size);have HBK:=Hj hBK;clear hBK;have s5:=Kp.refl w1
 go_wp2_with fail
 have hS:∀ w',Kp w1 w'→(w'.cell? ⟨w.heap.size,0,none⟩=some (.bool an)∧w'.cell? ⟨w.heap.size,1,none⟩=some (.slice aA ak ac)∧w'.cell? ⟨w.heap.size,2,none⟩=some (.bool an')∧w'.cell? ⟨w.heap.size,3,none⟩=some (.slice aA' ak' ac'))∧Kp w1 w':=fun w' hk=>⟨⟨(hk.blk hB0).cell 0,(hk.blk hB0).cell 1,(hk.blk hB0).cell 2,(hk.blk hB0).cell 3⟩,hk⟩;have HS:=Hj hS;clear hS
 go_region_held3 (fun w'=>(w'.cell? ⟨w.heap.size,0,none⟩=some (.bool an)∧w'.cell? ⟨w.heap.size,1,none⟩=some (.slice aA ak ac)∧w'.cell? ⟨w.heap.size,2,none⟩=some (.bool an')∧w'.cell? ⟨w.heap.size,3,none⟩=some (.slice aA' ak' ac'))∧Kp w1 w')
  (with_reducible first|(refine HS.out _ ?_;assumption)|(refine HS.out _ (Kp.drew ?_);assumption)|(refine' HS.out _ (Kp.drew (And.right ?_));rotate_left;assumption))
  (first
   | (go_at_call 57;have hk:=And.right ‹_∧Kp w1 _›;refine (SG.out _ (HBK.out _ hk)).mono ?_;rintro e v1 ⟨rfl,hb1⟩;have hr1:=hk.trans hb1;clear hb1)
   | (go_at_call 29;have hk:=And.right ‹_∧Kp w1 _›;refine (SM.out _ (HBK.out _ hk)).mono ?_;rintro e v2 ⟨rfl,hb2⟩;have hr2:=hk.trans hb2;clear hb2)
   | (go_at_call 40;have hk:=And.right ‹_∧Kp w1 _›;refine (FI.out _).mono ?_;rintro e v3 ⟨A3,k3,c3,A4,k4,c4,rfl,hk3,hk4,hW3,hW4,hF3,hF4,hb3⟩;have hr3:=hk.trans hb3;clear hb3)
   | (go_at_call 43;have hk:=And.right ‹_∧Kp w1 _›;refine (HCM.out _ (HBK.out _ hk) A3 A4 k3 c3 k4 c4 hk3 hk4 hW3 hW4).mono ?_;rintro e v4 ⟨rfl,hb4⟩;have hr4:=hk.trans hb4;clear hb4))
 rename_i hHeld
 obtain ⟨⟨c0,c1,c2,c3⟩,-⟩:=hHeld;have hB4:Below w.heap.size w v4:=HBK.out _ hr4;have hB5:Below w.heap.size w ((v4.alloc (.cells #[.bool an,.slice aA ak ac,.bool an',.slice aA' ak' ac'] 42)).alloc (.cells (madeCells qzero (n*4)) 42)):=(hB4.alloc hB4.size _).alloc (Nat.le_trans hB4.size (by simp)) _;have hQR:=QRow.start (v4.alloc (.cells #[.bool an,.slice aA ak ac,.bool an',.slice aA' ak' ac'] 42)) n;rw [World.size_alloc] at hQR;have hst:AllR w Nn Nd v4.heap.size n l q 0 (List.replicate n 0) an aA ak ac an' aA' ak' ac' ((v4.alloc (.cells #[.bool an,.slice aA ak ac,.bool an',.slice aA' ak' ac'] 42)).alloc (.cells (madeCells qzero (n*4)) 42)) :=
  ⟨hB5,(Blk.new v4 _ _).alloc _,HQ.out.below hB5,hQR,fun j hj=>absurd hj (by omega)⟩
 have hgs:w.heap.size≤v4.heap.size:=hB4.size;clear hB4 hB5 hQR hW3 hW4 hF3 hF4 hk3 hk4 HCM FI SG SM HBK s5 hr1 hr2 hr3 hr4 HS
 go_wp2_with fail
 generalize (v4.alloc (.cells #[.bool an,.slice aA ak ac,.bool an',.slice aA' ak' ac'] 42)).alloc (.cells (madeCells qzero (n*4)) 42)=W0 at *;generalize List.replicate n (0:Rat)=ps0 at *;generalize v4.heap.size=g at *;clear c0 c1 c2 c3 hmk
 go_loopw [33] (fun t wr=>∃ (k:Nat) (ps:List Rat) (bn:Bool) (bA:Option Addr) (bk bc:Nat) (bn':Bool) (bA':Option Addr) (bk' bc':Nat),k≤n∧t=.int .i64 k∧Hid (AllR w Nn Nd g n l q k ps bn bA bk bc bn' bA' bk' bc' wr)) (fun t _=>n-(intOf t).toNat)
 case atStart=>exact ⟨0,ps0,an,aA,ak,ac,an',aA',ak',ac',Nat.zero_le _,rfl,hst⟩
 case round =>
  clear hst;obtain ⟨k,ps,bn,bA,bk,bc,bn',bA',bk',bc',hk,rfl,hR⟩:=hrel;by_cases hlt:k<n
  ·obtain ⟨hB,hBx,hQx,hRow,hPs⟩:=hR.out;obtain ⟨b,o,rfl,hb,hcell⟩:=HST.out.2 (by omega);obtain ⟨A2,c2',⟨ck',ck,ck2⟩,-⟩:=hcell k hlt;rw [← lvQ_snd,HLQ.out] at ck';rw [← lvQ_fst,HLQ.out] at ck;have hck':=(hB.cell (p:=⟨b,o+k*3,none⟩) hb).trans ck';have hck:=(hB.cell (p:=⟨b,o+k*3+1,none⟩) hb).trans ck;have hck2:=(hB.cell (p:=⟨b,o+k*3+2,none⟩) hb).trans ck2;have hbad:=hok _ (getD_mem (d:=(0,0)) (show k<l.length by rw [HLN.out];exact hlt));have hrb:=restL_bd (l:=l) (q:=q) h0 hok (HQ.out.bd).1 (HQ.out.bd).2 (k+1) (by rw [HLN.out];omega);have hr1:restAt l q (k+1)=restAt l q k-lessQ (restAt l q k) (l[k]?.getD (0,0)).1:=rfl;have hp1:partAt l q k=lessQ (restAt l q k) (l[k]?.getD (0,0)).1:=rfl;have hz1:g+1<wr.heap.size:=by obtain ⟨_,cs,hbk,_⟩:=hRow;exact hbk.lt
   have FI:=fun W=>qfromInt64_any (l[k]?.getD (0,0)).1 W (by omega) (by omega);have HMIN:=fun (W:World) (B B':Option Addr) (j d j' d':Nat) (hW:QAt Nn Nd W bn bA bk bc bn' bA' bk' bc' (restAt l q k)) (h1:j≤d) (h2:j'≤d') (h3:Wat W B j (digs (((l[k]?.getD (0,0)).1:Int):Rat).num.natAbs)) (h4:Wat W B' j' (denW (((l[k]?.getD (0,0)).1:Int):Rat).den))=>qless_any M Nn Nd HO hnm hdm hW h1 h2 h3 h4 (by omega) hD hN2;rw [← hp1] at hr1 HMIN;have hpb:=partL_bd (l:=l) (q:=q) h0 hok (HQ.out.bd).1 (HQ.out.bd).2 hN3 hD (k:=k) (by rw [HLN.out];exact hlt);have HSUB:=fun (W:World) (B B':Option Addr) (j d j' d':Nat) (hW:QAt Nn Nd W bn bA bk bc bn' bA' bk' bc' (restAt l q k)) (h1:j≤d) (h2:j'≤d') (h3:Wat W B j (digs (partAt l q k).num.natAbs)) (h4:Wat W B' j' (denW (partAt l q k).den))=>qsub_any M Nn Nd HO hM1 hM2 bn bn' _ false bA bA' B B' bk bc bk' bc' j d j' d' (restAt l q k) (partAt l q k) W hW (qat_len HO hnm hdm h1 h2 h3 h4 hpb.1 hpb.2);rw [← hr1] at HSUB;have FI:=Hj FI;have HMIN:=Hj HMIN;have HSUB:=Hj HSUB;have HRB:=Hj hrb;generalize hqv:(((l[k]?.getD (0,0)).1:Int):Rat)=qk at *;generalize (l[k]?.getD (0,0)).1=sq1 at *;generalize (l[k]?.getD (0,0)).2=sp1 at *;have hPs:=Hj hPs;have hcell:=Hj hcell;clear hbad hrb hr1 hp1 hqv hpb ck ck' ck2
   go_wp2_with fail
   have hBx:=hBx.alloc (.cells #[.int .i64 sp1,.int .i64 sq1,.slice A2 nn c2'] 64);have hb9:Below wr.heap.size wr (wr.alloc (.cells #[.int .i64 sp1,.int .i64 sq1,.slice A2 nn c2'] 64)):=(Below.refl _ _).alloc (Nat.le_refl _) _;have hRow:=hRow.below hb9;have hQx:=hQx.below hb9;have hSt:=Blk.new wr 64 #[.int .i64 sp1,.int .i64 sq1,.slice A2 nn c2'];have hBw:=hB.alloc hB.size (.cells #[.int .i64 sp1,.int .i64 sq1,.slice A2 nn c2'] 64);generalize wr.alloc (.cells #[.int .i64 sp1,.int .i64 sq1,.slice A2 nn c2'] 64)=W2 at *;clear hb9 hck hck' hck2 hB;have hRow':=Hj hRow;have hQx':=Hj hQx;have s5:=Kp.refl W2;have s6:RGB (g+1) 42 W2 W2:=by obtain ⟨_,cs,hbk,_⟩:=hRow;exact RGB.start hbk
   have hki:(0:Int)≤(k:Int)∧(k:Int)<(n:Int):=by omega
   obtain ⟨hki1,hki2⟩:=hki;clear hRow hQx;have hS:∀ w',RGB (g+1) 42 W2 w'→(w'.cell? ⟨g,0,none⟩=some (.bool bn)∧w'.cell? ⟨g,1,none⟩=some (.slice bA bk bc)∧w'.cell? ⟨g,2,none⟩=some (.bool bn')∧w'.cell? ⟨g,3,none⟩=some (.slice bA' bk' bc')∧w'.cell? ⟨wr.heap.size,1,none⟩=some (.int .i64 sq1))∧RGB (g+1) 42 W2 w':=fun w' hk=>⟨⟨(hk.blk hBx (by omega)).cell 0,(hk.blk hBx (by omega)).cell 1,(hk.blk hBx (by omega)).cell 2,(hk.blk hBx (by omega)).cell 3,(hk.blk hSt (by omega)).cell 1⟩,hk⟩;have HS:=Hj hS;clear hS
   go_region_held3 (fun w'=>(w'.cell? ⟨g,0,none⟩=some (.bool bn)∧w'.cell? ⟨g,1,none⟩=some (.slice bA bk bc)∧w'.cell? ⟨g,2,none⟩=some (.bool bn')∧w'.cell? ⟨g,3,none⟩=some (.slice bA' bk' bc')∧w'.cell? ⟨wr.heap.size,1,none⟩=some (.int .i64 sq1))∧RGB (g+1) 42 W2 w')
    (with_reducible first|(refine HS.out _ ?_;assumption)|(refine HS.out _ (RGB.drew ?_);assumption)|(refine' HS.out _ (RGB.drew (And.right ?_));rotate_left;assumption)|(refine' HS.out _ (RGB.set (And.right ?_) _ _ _ _ _ _ _ _);rotate_left;assumption))
    (first
     | (go_at_call 40;have hk:=And.right ‹_∧RGB (g+1) 42 W2 _›;refine (FI.out _).mono ?_;rintro e v5 ⟨A3,k3,c3,A4,k4,c4,rfl,hk3,hk4,hW3,hW4,hF3,hF4,hb3⟩;have hr3:=hk.call hb3;have hp3:Kp W2 v5:=Kp.trans (Kp.drew s5) hb3;clear hb3)
     | (go_at_call 85;have hk:=And.right ‹_∧RGB (g+1) 42 W2 _›;refine (HMIN.out _ A3 A4 k3 c3 k4 c4 (hQx'.out.below hp3) hk3 hk4 hW3 hW4).mono ?_;rintro e v6 ⟨A5,k5,c5,A6,k6,c6,rfl,hk5,hk6,hW5,hW6,hF5,hF6,hb4⟩;have hr4:=hk.call hb4;have hp4:Kp W2 v6:=Kp.trans hp3 hb4;obtain ⟨_,_,_,_,_,_,i0,i1,i2,i3,i4,i5,i6,i7,-⟩:=(hRow'.out.below hp4).cells hlt;clear hb4))
   rename_i hHeld
   clear hHeld;have e7:(((v6.setCell ⟨g+1,k*4,none⟩ (.bool (decide ((partAt l q k).num<0)))).setCell ⟨g+1,k*4+1,none⟩ (.slice A5 k5 c5)).setCell ⟨g+1,k*4+2,none⟩ (.bool false)).setCell ⟨g+1,k*4+3,none⟩ (.slice A6 k6 c6)=qst v6 (g+1) (k*4) (decide ((partAt l q k).num<0)) false A5 A6 k5 c5 k6 c6:=rfl;rw [e7];have hRow6:=hRow'.out.below hp4;have hRow7:=hRow6.put hlt hk5 hk6 hW5 hW6;obtain ⟨hlen6,cs6,hbk6,hni6,-⟩:=hRow6;have hBx7:Blk (qst v6 (g+1) (k*4) (decide ((partAt l q k).num<0)) false A5 A6 k5 c5 k6 c6) g _ _:=(Kp.blk hp4 hBx).far4 (by omega);have hQx7:=(hQx'.out.below hp4).put4 (o:=k*4) (a:=decide ((partAt l q k).num<0)) (b:=false) (A:=A5) (A':=A6) (k:=k5) (c:=c5) (k':=k6) (c':=c6) hbk6 hni6;have hB6:Below w.heap.size w v6:=hBw.trans (Below.mono hp4 hBw.size);have hB7:Below w.heap.size w (qst v6 (g+1) (k*4) (decide ((partAt l q k).num<0)) false A5 A6 k5 c5 k6 c6):=below_qst hB6 (by omega);generalize qst v6 (g+1) (k*4) (decide ((partAt l q k).num<0)) false A5 A6 k5 c5 k6 c6=W7 at *;clear e7 hr3 hr4 hp3 hp4 i0 i1 i2 i3 i4 i5 i6 i7 hW3 hW4 hF3 hF4 hk3 hk4 hW5 hW6 hF5 hF6 hk5 hk6 hbk6 hni6 s5 s6 hBw HS hSt hBx hRow' hQx' HMIN FI hB6;have epk:(ps.set k (partAt l q k))[k]?.getD 0=partAt l q k:=by simp [hlen6,hlt]
   have hPs':∀ j,j<k+1→(ps.set k (partAt l q k))[j]?.getD 0=partAt l q j:=by
    intro j hj;by_cases hjk:j=k
    ·rw [hjk];exact epk
    ·rw [List.getElem?_set_ne (Ne.symm hjk)];exact hPs.out j (by omega)
   have hPs':=Hj hPs';obtain ⟨A8,k8,c8,A9,k9,c9,j0,j1,j2,j3,-,-,-,-,hk8,hk9,hW8,hW9⟩:=hRow7.cells hlt;rw [epk] at j0 hW8 hW9;generalize ps.set k (partAt l q k)=ps' at *;have hrow:=Hj hRow7;have hqx:=Hj hQx7;have s5:=Kp.refl W7;have s6:=RG4.start hBx7;obtain ⟨x0,x1,x2,x3,y0,y1,y2,y3⟩:=hBx7.four;clear hRow7 hQx7
   go_wp2_with fail
   go_region_with (first|(go_at_call 55;refine (HSUB.out _ A8 A9 k8 c8 k9 c9 (hqx.out.below (Kp.drew s5)) hk8 hk9 hW8 hW9).mono ?_;rintro e v8 ⟨A5,k5,c5,A6,k6,c6,rfl,hk5,hk6,hW5,hW6,hF5,hF6,hb4⟩;have hp4:Kp W7 v8:=Kp.trans (Kp.drew s5) hb4;obtain ⟨i0,i1,i2,i3,i4,i5,i6,i7⟩:=(Kp.blk hp4 hBx7).four;clear hb4))
   all_goals
    have e8:(((v8.setCell ⟨g,0,none⟩ (.bool (decide ((restAt l q (k+1)).num<0)))).setCell ⟨g,1,none⟩ (.slice A5 k5 c5)).setCell ⟨g,2,none⟩ (.bool false)).setCell ⟨g,3,none⟩ (.slice A6 k6 c6)=qst v8 g 0 (decide ((restAt l q (k+1)).num<0)) false A5 A6 k5 c5 k6 c6:=rfl;rw [e8];have hbx8:=Kp.blk hp4 hBx7;have hfin:AllR w Nn Nd g n l q (k+1) ps' (decide ((restAt l q (k+1)).num<0)) A5 k5 c5 false A6 k6 c6 (qst v8 g 0 (decide ((restAt l q (k+1)).num<0)) false A5 A6 k5 c5 k6 c6):=by
     refine ⟨below_qst (hB7.trans (Below.mono hp4 hB7.size)) hgs,hbx8.put4,?_,?_,hPs'.out⟩
     ·exact qat_len HO hnm hdm hk5 hk6 (hW5.put4 hbx8 NoInt.four) (hW6.put4 hbx8 NoInt.four) HRB.out.2.1 HRB.out.2.2
     ·exact (hrow.out.below hp4).far4 (by omega) hbx8 NoInt.four
    generalize qst v8 g 0 (decide ((restAt l q (k+1)).num<0)) false A5 A6 k5 c5 k6 c6=W8 at *;have HF:=Hj hfin;clear e8 hfin hbx8 i0 i1 i2 i3 i4 i5 i6 i7 x0 x1 x2 x3 y0 y1 y2 y3 hp4 hW5 hW6 hF5 hF6 hk5 hk6 hW8 hW9 hB7 j0 j1 j2 j3;go_wp2;go_roundw
    case rel=>exact ⟨k+1,ps',_,A5,k5,c5,false,A6,k6,c6,by omega,by go_num,HF.out⟩
    case measure=>simp [intOf];omega
  ·obtain rfl:k=n:=by omega
   obtain ⟨hB,hBx,hQx,hRow,hPs⟩:=hR.out;clear hR;go_wp2;go_ret2;exact ⟨g+1,ps,rfl,hRow,hPs,by omega,hB⟩
end Go.Proofs.YtjajigkacccdgaaGreat
namespace Go.Proofs.YtjajigkacccdgaaGreat
open Go.RowKit
open Wd
attribute [local go_sem ↓] Go.wp_at_zero Go.wp_at_succ
theorem VL.prQ {up:Bool} {n:Nat} {lv:List St.Lv} (h:VL up n lv):∀ s∈lvQ lv,-1000000≤s.2∧s.2≤1000000:=fun s hs=>by
 obtain ⟨x,hx,rfl⟩:=List.mem_map.1 hs;exact h.price x hx
theorem kcost_ok (M Nn Nd Cn Cd:Nat) (HO:WOK M) (hNL:768000000<Nn)
  (up:Bool) (A:Option Addr) (n nn c:Nat) (lv:List St.Lv) (an an':Bool) (aA aA':Option Addr) (ak ac ak' ac':Nat) (q:Rat) (w:World) (h:LvAt w A n nn lv) (hq:QAt Nn Nd w an aA ak ac an' aA' ak' ac' q)
  (hv:VL up nn lv) (h0:0≤q) (h1:q≤(totI lv:Int)) (HC:CostOK M Nn Nd Cn Cd (lvQ lv) q) :
  Calls Tryz.prog 32 #[.slice A n c,.agg #[.bool an,.slice aA ak ac,.bool an',.slice aA' ak' ac']] w (CstPost w (costAt (lvQ lv) q n)):=by
 have hln:=h.1;have hn:n≤48:=by have:=hv.len;omega
 have hok:=hv.okQ;have hpr:=hv.prQ;have T:=fun W (hW:Below w.heap.size w W)=>fill_ok M Nn Nd HO HC.nd HC.dd HC.nm HC.dm hNL HC.hn2 HC.hd up A n nn c lv an an' aA aA' ak ac ak' ac' q W (h.below hW) (hq.below hW) hv h0 h1;have HT:=Hj T;have HB:=Hj (hq.bd);have HST:=Hj h;have HOK:=Hj hok;have HPR:=Hj hpr;have HLN:Hid ((lvQ lv).length=n):=Hj (by rw [lvQ_len];exact hln);generalize hlq:lvQ lv=l at *;have HLQ:=Hj hlq;clear hlq h hq hv h1 hok hpr hln T;go_enter Tryz.func32,Tryz.ntmps32
 go_wp2_with fail
 obtain ⟨hB0,hB1,hBW,hsz⟩:=pre2 w 42 #[.bool an,.slice aA ak ac,.bool an',.slice aA' ak' ac'] 42 #[.bool false,.slice none 0 0,.bool false,.slice none 0 0];generalize (w.alloc (.cells #[.bool an,.slice aA ak ac,.bool an',.slice aA' ak' ac'] 42)).alloc (.cells #[.bool false,.slice none 0 0,.bool false,.slice none 0 0] 42)=W at *;have HSZ:=Hj hsz;clear hsz;refine (HT.out W hBW).mono ?_;rintro e w1 ⟨gr,ps,rfl,hRow,hPs,hgr,hb1⟩;have hB0:=hB0.below hb1 hB0.lt;have hB1:=hB1.below hb1 hB1.lt;have hgs:w.heap.size+1+1≤W.heap.size:=by have:=HSZ.out;omega
 have hBw:=hBW.trans (hb1.mono hBW.size);have hz1:=hb1.size;have hrow:=Hj (hRow.below ((Below.refl _ w1).alloc (Nat.le_refl _) (.cells #[.bool false,.slice none 0 0,.bool false,.slice none 0 0] 42)));have HPS:=Hj hPs;have hB1:=hB1.alloc (.cells #[.bool false,.slice none 0 0,.bool false,.slice none 0 0] 42);have hg:=Blk.new w1 42 #[.bool false,.slice none 0 0,.bool false,.slice none 0 0];have hgl:gr<w1.heap.size:=by obtain ⟨_,cs,hbk,_⟩:=hRow;exact hbk.lt
 have hBw2:=hBw.alloc hBw.size (.cells #[.bool false,.slice none 0 0,.bool false,.slice none 0 0] 42);have hst:CstR w w1.heap.size gr n l q ps 0 none 0 0 none 0 0 (w1.alloc (.cells #[.bool false,.slice none 0 0,.bool false,.slice none 0 0] 42)):=⟨hBw2,hg,CQ.zero,hrow.out⟩;clear hPs HT hBW hb1 HSZ hBw hRow hB0 hBw2 hg hrow
 go_wp2_with fail
 generalize w1.alloc (.cells #[.bool false,.slice none 0 0,.bool false,.slice none 0 0] 42)=W0 at *;generalize w1.heap.size=g at *;have HST0:=Hj hst;have HB1:=Hj hB1;clear hst hB1
 go_loopw [23] (fun t wr=>∃ (k:Nat) (A:Option Addr) (j c:Nat) (A':Option Addr) (j' c':Nat),k≤n∧t=.int .i64 k∧Hid (CstR w g gr n l q ps k A j c A' j' c' wr)∧Hid (Blk wr (w.heap.size+1) 42 #[.bool false,.slice none 0 0,.bool false,.slice none 0 0])) (fun t _=>n-(intOf t).toNat)
 case atStart=>exact ⟨0,none,0,0,none,0,0,Nat.zero_le _,rfl,HST0.out,HB1.out⟩
 case round =>
  clear HST0 HB1;obtain ⟨k,B,bk,bc,B',bk',bc',hk,rfl,hR,hRB⟩:=hrel;by_cases hlt:k<n
  ·obtain ⟨hB,hBx,hCx,hRow⟩:=hR.out;obtain ⟨b,o,rfl,hb,hcell⟩:=HST.out.2 (by omega);obtain ⟨A2,c2',⟨ck',ck,ck2⟩,-⟩:=hcell k hlt;rw [← lvQ_snd,HLQ.out] at ck';rw [← lvQ_fst,HLQ.out] at ck;have hck':=(hB.cell (p:=⟨b,o+k*3,none⟩) hb).trans ck';have hck:=(hB.cell (p:=⟨b,o+k*3+1,none⟩) hb).trans ck;have hck2:=(hB.cell (p:=⟨b,o+k*3+2,none⟩) hb).trans ck2;have hlen:k<l.length:=by have:=HLN.out;omega
   have hbad:=HPR.out _ (getD_mem (d:=(0,0)) hlen);have hr1:costAt l q (k+1)=costAt l q k+partAt l q k*(((l[k]?.getD (0,0)).2:Int):Rat):=rfl;have hpb:=partL_bd (l:=l) (q:=q) h0 HOK.out HB.out.1 HB.out.2 (by omega) HC.hd hlen;have hs1:=HC.sum k (by omega);have hs2:=HC.sum (k+1) hlen;have hs3:=HC.prod k hlen;have hps:=HPS.out k hlt;have FI:=fun W=>qfromInt64_any (l[k]?.getD (0,0)).2 W (by omega) (by omega);have hpn:(((l[k]?.getD (0,0)).2:Int):Rat).num.natAbs<Nn:=by have:=HC.hn;rw [Rat.num_intCast];omega
   have hpd:(((l[k]?.getD (0,0)).2:Int):Rat).den<Nd:=by rw [Rat.den_intCast];exact HC.hd
   have HMUL:=fun (W:World) (B1 B1' B2 B2':Option Addr) (j1 d1 j1' d1' j2 d2 j2' d2':Nat) (h1:j1≤d1) (h2:j1'≤d1') (h3:Wat W B1 j1 (digs (partAt l q k).num.natAbs)) (h4:Wat W B1' j1' (denW (partAt l q k).den)) (h5:j2≤d2) (h6:j2'≤d2') (h7:Wat W B2 j2 (digs (((l[k]?.getD (0,0)).2:Int):Rat).num.natAbs)) (h8:Wat W B2' j2' (denW (((l[k]?.getD (0,0)).2:Int):Rat).den)) =>
    qmulq_any M Nn Nd HO HC.nn HC.dd _ false _ false B1 B1' B2 B2' j1 d1 j1' d1' j2 d2 j2' d2' (partAt l q k) (((l[k]?.getD (0,0)).2:Int):Rat) W (qat_len HO HC.nm HC.dm h1 h2 h3 h4 hpb.1 hpb.2) (qat_len HO HC.nm HC.dm h5 h6 h7 h8 hpn hpd)
   have HADD:=fun (W:World) (B2 B2':Option Addr) (j2 d2 j2' d2':Nat) (hx:CQ w.heap.size W (costAt l q k) B bk bc B' bk' bc') (h5:j2≤d2) (h6:j2'≤d2') (h7:Wat W B2 j2 (digs (partAt l q k*(((l[k]?.getD (0,0)).2:Int):Rat)).num.natAbs)) (h8:Wat W B2' j2' (denW (partAt l q k*(((l[k]?.getD (0,0)).2:Int):Rat)).den)) =>
    qadd_any M Cn Cd HO HC.cnd HC.cdd _ false _ false B B' B2 B2' bk bc bk' bc' j2 d2 j2' d2' (costAt l q k) (partAt l q k*(((l[k]?.getD (0,0)).2:Int):Rat)) W (hx.at HO HC.cn HC.cd hs1.1 hs1.2) (qat_len HO HC.cn HC.cd h5 h6 h7 h8 hs3.1 hs3.2)
   rw [← hr1] at HADD;obtain ⟨A8,k8,c8,A9,k9,c9,j0,j1,j2,j3,-,-,-,-,hk8,hk9,hW8,hW9⟩:=hRow.cells hlt;rw [hps] at j0 hW8 hW9;have HFI:=Hj FI;have HMULH:=Hj HMUL;have HADDH:=Hj HADD;generalize hqv:(((l[k]?.getD (0,0)).2:Int):Rat)=qk at *;generalize partAt l q k*qk=qm at *;generalize partAt l q k=qp at *;generalize (l[k]?.getD (0,0)).1=sq1 at *;generalize (l[k]?.getD (0,0)).2=sp1 at *;clear FI HMUL HADD hqv hps hr1 hbad hpb hs1 hs3 hs2 hpn hpd ck ck' ck2 hcell;have hki:(0:Int)≤(k:Int)∧(k:Int)<(n:Int):=by omega
   obtain ⟨hki1,hki2⟩:=hki;have hbRB:=hRB.out;clear hRB
   go_wp2_with fail
   have hBx:=hBx.alloc (.cells #[.int .i64 sp1,.int .i64 sq1,.slice A2 nn c2'] 64);have hbRB:=hbRB.alloc (.cells #[.int .i64 sp1,.int .i64 sq1,.slice A2 nn c2'] 64);have hb9:Below wr.heap.size wr (wr.alloc (.cells #[.int .i64 sp1,.int .i64 sq1,.slice A2 nn c2'] 64)):=(Below.refl _ _).alloc (Nat.le_refl _) _;have hRow:=hRow.below hb9;have hCx:=hCx.below hb9;have hW8:=hW8.below hb9;have hW9:=hW9.below hb9;have hSt:=Blk.new wr 64 #[.int .i64 sp1,.int .i64 sq1,.slice A2 nn c2'];have hBw:=hB.alloc hB.size (.cells #[.int .i64 sp1,.int .i64 sq1,.slice A2 nn c2'] 64);have hRW:∃ cs,Blk (wr.alloc (.cells #[.int .i64 sp1,.int .i64 sq1,.slice A2 nn c2'] 64)) gr 42 cs∧cs[k*4]?=some (.bool (decide (qp.num<0)))∧cs[k*4+1]?=some (.slice A8 k8 c8)∧cs[k*4+2]?=some (.bool false)∧cs[k*4+3]?=some (.slice A9 k9 c9):=by
    obtain ⟨_,cs,hbk,_⟩:=hR.out.2.2.2;exact ⟨cs,hbk.alloc _,(hbk.cell _).symm.trans j0,(hbk.cell _).symm.trans j1,(hbk.cell _).symm.trans j2,(hbk.cell _).symm.trans j3⟩
   obtain ⟨cs7,hb7,f0,f1,f2,f3⟩:=hRW;generalize hWW:wr.alloc (.cells #[.int .i64 sp1,.int .i64 sq1,.slice A2 nn c2'] 64)=W2 at *;have hgz:g≠w.heap.size+1:=by omega
   clear hWW hb9 hck hck' hck2 hB hR j0 j1 j2 j3;have HCX:=Hj hCx;have HROW:=Hj hRow;have s5:=Kp.refl W2;obtain ⟨t1,-,-⟩:=hSt.three;obtain ⟨q0,q1,q2,q3,-⟩:=hBx.four;have p0:=(hb7.cell (k*4)).trans f0;have p1:=(hb7.cell (k*4+1)).trans f1;have p2:=(hb7.cell (k*4+2)).trans f2;have p3:=(hb7.cell (k*4+3)).trans f3;have F0:=Hj f0;have F1:=Hj f1;have F2:=Hj f2;have F3:=Hj f3;clear hCx hRow f0 f1 f2 f3 hSt
   go_region_with (first
    | (go_at_call 40;refine (HFI.out _).mono ?_;rintro e v5 ⟨A3,k3,c3,A4,k4,c4,rfl,hk3,hk4,hW3,hW4,hF3,hF4,hb3⟩;have hp5:Kp W2 v5:=Kp.trans (Kp.drew s5) hb3;have p0':=((Kp.blk hp5 hb7).cell (k*4)).trans F0.out;have p1':=((Kp.blk hp5 hb7).cell (k*4+1)).trans F1.out;have p2':=((Kp.blk hp5 hb7).cell (k*4+2)).trans F2.out;have p3':=((Kp.blk hp5 hb7).cell (k*4+3)).trans F3.out;obtain ⟨q0',q1',q2',q3',-⟩:=(Kp.blk hp5 hBx).four;clear hb3 hF3 hF4)
    | (go_at_call 54;refine (HMULH.out _ A8 A9 A3 A4 k8 c8 k9 c9 k3 c3 k4 c4 hk8 hk9 (hW8.below hp5) (hW9.below hp5) hk3 hk4 hW3 hW4).mono ?_;rintro e v6 ⟨A5,k5,c5,A6,k6,c6,rfl,hk5,hk6,hW5,hW6,hF5,hF6,hb4⟩;have hp6:Kp W2 v6:=Kp.trans hp5 hb4;obtain ⟨q0'',q1'',q2'',q3'',-⟩:=(Kp.blk hp6 hBx).four;clear hb4 hF5 hF6)
    | (go_at_call 42;refine (HADDH.out _ A5 A6 k5 c5 k6 c6 (HCX.out.below hp6) hk5 hk6 hW5 hW6).mono ?_;rintro e v7 ⟨A7,k7,c7,B7,m7,d7,rfl,hk7,hm7,hW7,hV7,hF7,hG7,hb5⟩;have hp7:Kp W2 v7:=Kp.trans hp6 hb5;have hz7:=Below.size hp6;obtain ⟨i0,i1,i2,i3,i4,i5,i6,i7⟩:=(Kp.blk hp7 hBx).four;clear hb5))
   all_goals
    have e8:(((v7.setCell ⟨g,0,none⟩ (.bool (decide ((costAt l q (k+1)).num<0)))).setCell ⟨g,1,none⟩ (.slice A7 k7 c7)).setCell ⟨g,2,none⟩ (.bool false)).setCell ⟨g,3,none⟩ (.slice B7 m7 d7)=qst v7 g 0 (decide ((costAt l q (k+1)).num<0)) false A7 B7 k7 c7 m7 d7:=rfl;rw [e8];have hbx8:=Kp.blk hp7 hBx;have hz2:=hBw.size;have hfin:CstR w g gr n l q ps (k+1) A7 k7 c7 B7 m7 d7 (qst v7 g 0 (decide ((costAt l q (k+1)).num<0)) false A7 B7 k7 c7 m7 d7):=by
     refine ⟨below_qst (hBw.trans (Below.mono hp7 hBw.size)) (by omega),hbx8.put4,?_,(HROW.out.below hp7).far4 (by omega) hbx8 NoInt.four⟩;exact CQ.put4 ⟨hk7,hm7,hW7,hV7,hF7.mono (by omega),hG7.mono (by omega)⟩ hbx8 NoInt.four
    have hfin2:Blk (qst v7 g 0 (decide ((costAt l q (k+1)).num<0)) false A7 B7 k7 c7 m7 d7) (w.heap.size+1) 42 #[.bool false,.slice none 0 0,.bool false,.slice none 0 0]:=(Kp.blk hp7 hbRB).far4 (by omega);generalize qst v7 g 0 (decide ((costAt l q (k+1)).num<0)) false A7 B7 k7 c7 m7 d7=W8 at *;have HF:=Hj hfin;have HF2:=Hj hfin2;clear e8 hfin hfin2 hbx8 i0 i1 i2 i3 i4 i5 i6 i7 hp5 hp6 hp7 hW3 hW4 hW5 hW6 hW7 hV7 hF7 hG7 hk3 hk4 hk5 hk6 hk7 hm7 q0 q1 q2 q3 p0 p1 p2 p3 t1 hBw hBx hbRB hb7;go_wp2;go_roundw
    case rel=>exact ⟨k+1,A7,k7,c7,B7,m7,d7,by omega,by go_num,HF.out,HF2.out⟩
    case measure=>simp [intOf];omega
  ·obtain rfl:k=n:=by omega
   obtain ⟨hB,hBx,hCx,hRow⟩:=hR.out;have hbRB:=hRB.out;obtain ⟨q0,q1,q2,q3,-⟩:=hBx.four;obtain ⟨r0,r1,r2,r3,r4,r5,r6,r7⟩:=hbRB.four;have hfin:CstPost w (costAt l q k) (.returned (.tuple #[.agg #[.bool (decide ((costAt l q k).num<0)),.slice B bk bc,.bool false,.slice B' bk' bc'],.int .i64 0])) (qst wr (w.heap.size+1) 0 (decide ((costAt l q k).num<0)) false B B' bk bc bk' bc') :=
    ⟨B,bk,bc,B',bk',bc',rfl,hCx.put4 hbRB NoInt.four,below_qst hB (by omega)⟩
   have hb8:Blk (qst wr (w.heap.size+1) 0 (decide ((costAt l q k).num<0)) false B B' bk bc bk' bc') (w.heap.size+1) _ _:=hbRB.put4 (o:=0);have e8:(((wr.setCell ⟨w.heap.size+1,0,none⟩ (.bool (decide ((costAt l q k).num<0)))).setCell ⟨w.heap.size+1,1,none⟩ (.slice B bk bc)).setCell ⟨w.heap.size+1,2,none⟩ (.bool false)).setCell ⟨w.heap.size+1,3,none⟩ (.slice B' bk' bc')=qst wr (w.heap.size+1) 0 (decide ((costAt l q k).num<0)) false B B' bk bc bk' bc':=rfl;obtain ⟨d0,d1,d2,d3,-⟩:=Blk.four hb8;have HF:=Hj hfin;have HE:=Hj e8;clear hfin hb8 hR hRB hCx hRow hB e8;go_wp2;rw [HE.out];refine bodyPost_ret (v:=.tuple #[.agg #[.bool (decide ((costAt l q k).num<0)),.slice B bk bc,.bool false,.slice B' bk' bc'],.int .i64 0]) ?_ rfl HF.out;simp [results,Tryz.results32,go_sem,d0,d1,d2,d3]
def shRest (xs:List Int) (n:Nat) (t:Int):Nat→Int
 | 0=>t
 | j+1=>shRest xs n t j-min (shRest xs n t j) (xs[n-1-j]?.getD 0)
def shPart (xs:List Int) (n:Nat) (t:Int) (j:Nat):Int:=min (shRest xs n t j) (xs[n-1-j]?.getD 0)
def shRow (xs:List Int) (n:Nat) (t:Int) (ys:List Int):Nat→List Int
 | 0=>ys
 | j+1=>(shRow xs n t ys j).set (n-1-j) ((shRow xs n t ys j)[n-1-j]?.getD 0+shPart xs n t j)
def shAll (lv:List St.Lv) (n:Nat) (z:Int):Nat→List Int
 | 0=>List.replicate n 0
 | i+1=>shRow (lv[i]?.getD Lv0).2.2 n (partI (lvQ lv) z i) (shAll lv n z i) n
theorem shRow_len (xs:List Int) (n:Nat) (t:Int) (ys:List Int):∀ j,(shRow xs n t ys j).length=ys.length
 | 0=>rfl
 | j+1=>by rw [shRow,List.length_set,shRow_len xs n t ys j]
theorem shAll_len (lv:List St.Lv) (n:Nat) (z:Int):∀ i,(shAll lv n z i).length=n
 | 0=>by simp [shAll]
 | i+1=>by rw [shAll,shRow_len,shAll_len lv n z i]
theorem shRest_bd {xs:List Int} {n:Nat} {t:Int} (hx:∀ y∈xs,0≤y∧y≤1000000) (hl:xs.length=n) (h0:0≤t):∀ j,j≤n→0≤shRest xs n t j∧shRest xs n t j≤t
 | 0,_=>⟨h0,Int.le_refl _⟩
 | j+1,hj=>by
  obtain ⟨i1,i2⟩:=shRest_bd hx hl h0 j (by omega);have:=hx _ (getD_mem (d:=0) (show n-1-j<xs.length by omega));rw [shRest];omega
theorem shPart_bd {xs:List Int} {n:Nat} {t:Int} (hx:∀ y∈xs,0≤y∧y≤1000000) (hl:xs.length=n) (h0:0≤t) {j:Nat} (hj:j<n):0≤shPart xs n t j∧shPart xs n t j≤1000000:=by
 obtain ⟨i1,i2⟩:=shRest_bd hx hl h0 j (by omega);have:=hx _ (getD_mem (d:=0) (show n-1-j<xs.length by omega));unfold shPart;omega
def BdR (c:Int) (ys:List Int):Prop:=∀ i:Nat,0≤ys[i]?.getD 0∧ys[i]?.getD 0≤c
theorem shRow_bd {xs:List Int} {n:Nat} {t c:Int} {ys:List Int} (hx:∀ y∈xs,0≤y∧y≤1000000) (hl:xs.length=n) (hy:ys.length=n) (h0:0≤t) (hc:BdR c ys) :
  ∀ j,j≤n→(∀ i:Nat,0≤(shRow xs n t ys j)[i]?.getD 0∧(shRow xs n t ys j)[i]?.getD 0≤c+1000000)∧∀ i:Nat,i<n-j→(shRow xs n t ys j)[i]?.getD 0=ys[i]?.getD 0
 | 0,_=>⟨fun i=>by have:=hc i;simp only [shRow];omega,fun i _=>rfl⟩
 | j + 1,hj=>by
  obtain ⟨i1,i2⟩:=shRow_bd hx hl hy h0 hc j (by omega);have hp:=shPart_bd hx hl h0 (show j<n by omega);have hlen:=shRow_len xs n t ys j;constructor
  ·intro i;rw [shRow,List.getElem?_set];split
   ·rename_i he
    subst he;have e:=i2 (n-1-j) (by omega);have:=hc (n-1-j);rw [if_pos (by omega)];simp only [Option.getD_some];omega
   ·exact i1 i
  ·intro i hi;rw [shRow,List.getElem?_set_ne (by omega)];exact i2 i (by omega)
theorem shAll_bd {up:Bool} {n:Nat} {lv:List St.Lv} (hv:VL up n lv) {z:Int} (h0:∀ i,i<lv.length→0≤partI (lvQ lv) z i):∀ i,i≤lv.length→BdR (1000000*(i:Int)) (shAll lv n z i)
 | 0,_=>fun i=>by simp [shAll,List.getElem?_replicate];split<;>simp
 | i+1,hi=>fun k=>by
  have ih:=shAll_bd hv h0 i (by omega);have hp:=hv.parts _ (getD_mem (d:=Lv0) (show i<lv.length by omega));have:=(shRow_bd hp.2 hp.1 (shAll_len lv n z i) (h0 i (by omega)) ih n (Nat.le_refl _)).1 k;rw [shAll];have e:(1000000:Int)*((i+1:Nat):Int)=1000000*(i:Int)+1000000:=by omega
  rw [e];exact this
def castR (ys:List Int):List Rat:=ys.map fun y=>((y:Int):Rat)
theorem castR_get (ys:List Int) (i:Nat):(castR ys)[i]?.getD 0=((ys[i]?.getD 0:Int):Rat):=by
 unfold castR;rw [List.getElem?_map];cases ys[i]?<;>rfl
theorem castR_set (ys:List Int) (i:Nat) (y:Int):castR (ys.set i y)=(castR ys).set i ((y:Int):Rat):=by
 unfold castR;rw [List.map_set]
def WQ (w:World) (q:Rat) (A:Option Addr) (k c:Nat) (A':Option Addr) (k' c':Nat):Prop:=k≤c∧k'≤c'∧Wat w A k (digs q.num.natAbs)∧Wat w A' k' (denW q.den)
section
variable {w w':World} {q:Rat} {A A':Option Addr} {k c k' c':Nat}
theorem WQ.below (h:WQ w q A k c A' k' c') (hb:Below w.heap.size w w'):WQ w' q A k c A' k' c':=⟨h.1,h.2.1,h.2.2.1.below hb,h.2.2.2.below hb⟩
theorem WQ.put4 {g o:Nat} {a b:Bool} {B B':Option Addr} {j d j' d':Nat} {t:TypeId} {cs:Array Value} (h:WQ w q A k c A' k' c') (hb:Blk w g t cs) (hn:NoInt cs):WQ (qst w g o a b B B' j d j' d') q A k c A' k' c' :=
 ⟨h.1,h.2.1,h.2.2.1.put4 hb hn,h.2.2.2.put4 hb hn⟩
theorem WQ.at (h:WQ w q A k c A' k' c') (hn:q.num.natAbs<1152921504606846976) (hd:q.den<2):QAt 1152921504606846976 2 w (decide (q.num<0)) A k c false A' k' c' q :=
 qat_len wok_small (by omega) (by omega) h.1 h.2.1 h.2.2.1 h.2.2.2 hn hd
end
theorem qaddI (x y:Int) (hx:x.natAbs<1000000000000) (hy:y.natAbs<1000000000000) {W:World} {B B' B2 B2':Option Addr} {bk bc bk' bc' j d j' d':Nat} (h1:WQ W (x:Rat) B bk bc B' bk' bc') (h2:WQ W (y:Rat) B2 j d B2' j' d') :
  Calls Tryz.prog 42 #[.agg #[.bool (decide (((x:Int):Rat).num<0)),.slice B bk bc,.bool false,.slice B' bk' bc'],.agg #[.bool (decide (((y:Int):Rat).num<0)),.slice B2 j d,.bool false,.slice B2' j' d']] W (RetQ W ((x+y:Int):Rat)):=by
 have:=qadd_any 4611686018427387904 1152921504606846976 2 wok_small (by omega) (by omega) _ false _ false B B' B2 B2' bk bc bk' bc' j d j' d' (x:Rat) (y:Rat) W (h1.at (by rw [Rat.num_intCast];omega) (by rw [Rat.den_intCast];omega)) (h2.at (by rw [Rat.num_intCast];omega) (by rw [Rat.den_intCast];omega))
 rwa [← Rat.intCast_add] at this
theorem qsubI (x y:Int) (hx:x.natAbs<1000000000000) (hy:y.natAbs<1000000000000) {W:World} {B B' B2 B2':Option Addr} {bk bc bk' bc' j d j' d':Nat} (h1:WQ W (x:Rat) B bk bc B' bk' bc') (h2:WQ W (y:Rat) B2 j d B2' j' d') :
  Calls Tryz.prog 55 #[.agg #[.bool (decide (((x:Int):Rat).num<0)),.slice B bk bc,.bool false,.slice B' bk' bc'],.agg #[.bool (decide (((y:Int):Rat).num<0)),.slice B2 j d,.bool false,.slice B2' j' d']] W (RetQ W ((x-y:Int):Rat)):=by
 have:=qsub_any 4611686018427387904 1152921504606846976 2 wok_small (by omega) (by omega) _ false _ false B B' B2 B2' bk bc bk' bc' j d j' d' (x:Rat) (y:Rat) W (h1.at (by rw [Rat.num_intCast];omega) (by rw [Rat.den_intCast];omega)) (h2.at (by rw [Rat.num_intCast];omega) (by rw [Rat.den_intCast];omega))
 rwa [← Rat.intCast_sub] at this
theorem qminI (x y:Int) (hx:x.natAbs<1000000000000) (hy:y.natAbs<1000000000000) {W:World} {B B' B2 B2':Option Addr} {bk bc bk' bc' j d j' d':Nat} (h1:WQ W (x:Rat) B bk bc B' bk' bc') (h2:WQ W (y:Rat) B2 j d B2' j' d') :
  Calls Tryz.prog 85 #[.agg #[.bool (decide (((x:Int):Rat).num<0)),.slice B bk bc,.bool false,.slice B' bk' bc'],.agg #[.bool (decide (((y:Int):Rat).num<0)),.slice B2 j d,.bool false,.slice B2' j' d']] W (RetQ W ((min x y:Int):Rat)):=by
 have:=qless_any 4611686018427387904 1152921504606846976 2 wok_small (by omega) (by omega) (h1.at (by rw [Rat.num_intCast];omega) (by rw [Rat.den_intCast];omega)) h2.1 h2.2.1 h2.2.2.1 h2.2.2.2 (by omega) (by omega) (by omega)
 rwa [lessQ_whole] at this
end Go.Proofs.YtjajigkacccdgaaGreat
namespace Go.Proofs.YtjajigkacccdgaaGreat
open Go.RowKit
open Wd
namespace St
end St
end Go.Proofs.YtjajigkacccdgaaGreat
namespace Go.Proofs.YtjajigkacccdgaaGreat
open Go.RowKit
open Wd
def QArg (w:World) (an:Bool) (aA:Option Addr) (ak ac:Nat) (an':Bool) (aA':Option Addr) (ak' ac':Nat) (q:Rat):Prop:=∃ Nn Nd,QAt Nn Nd w an aA ak ac an' aA' ak' ac' q
theorem QArg.below {w w':World} {an an':Bool} {aA aA':Option Addr} {ak ac ak' ac':Nat} {q:Rat} (h:QArg w an aA ak ac an' aA' ak' ac' q) (hb:Below w.heap.size w w'):QArg w' an aA ak ac an' aA' ak' ac' q:=by
 obtain ⟨Nn,Nd,h⟩:=h;exact ⟨Nn,Nd,h.below hb⟩
theorem QAt.more {Nn Nd Mn Md:Nat} {w:World} {an an':Bool} {aA aA':Option Addr} {ak ac ak' ac':Nat} {q:Rat} (h:QAt Nn Nd w an aA ak ac an' aA' ak' ac' q) (hn:Nn≤Mn) (hd:Nd≤Md):QAt Mn Md w an aA ak ac an' aA' ak' ac' q:=by
 obtain ⟨na,da,h1,h2,h3,h4⟩:=h;exact ⟨na,da,h1,by omega,by omega,h4⟩
theorem qcmp_arg (an an' bn bn':Bool) (aA aA' bA bA':Option Addr) (ak ac ak' ac' bk bc bk' bc':Nat) (qa qb:Rat) (w:World) (ha:QArg w an aA ak ac an' aA' ak' ac' qa) (hb:QArg w bn bA bk bc bn' bA' bk' bc' qb) :
  Calls Tryz.prog 43 #[.agg #[.bool an,.slice aA ak ac,.bool an',.slice aA' ak' ac'],.agg #[.bool bn,.slice bA bk bc,.bool bn',.slice bA' bk' bc']] w fun e w'=>e=.returned (.int .i64 (cmpQ qa qb))∧Below w.heap.size w w':=by
 obtain ⟨N1,D1,h1⟩:=ha;obtain ⟨N2,D2,h2⟩:=hb;exact qcmp_any an an' bn bn' aA aA' bA bA' ak ac ak' ac' bk bc bk' bc' qa qb w (h1.more (Mn:=max N1 N2) (Md:=max D1 D2) (by omega) (by omega)) (h2.more (by omega) (by omega))
theorem WQ.arg {w:World} {z:Int} {A A':Option Addr} {k c k' c':Nat} (h:WQ w (z:Rat) A k c A' k' c') (hz:z.natAbs<1000000000000):QArg w (decide (((z:Int):Rat).num<0)) A k c false A' k' c' (z:Rat) :=
 ⟨_,_,h.at (by rw [Rat.num_intCast];omega) (by rw [Rat.den_intCast];omega)⟩
def wlL (side:Int) (q:Rat) (l:List (Int×Int)):Int:=sumI (l.map fun s=>if cmpQ (s.2:Rat) q=side then s.1 else 0)
def wlM (side:Int) (q:Rat) (l:List (Int×Int)):Int:=sumI (l.map fun s=>if cmpQ (s.2:Rat) q=side∨cmpQ (s.2:Rat) q=0 then s.1 else 0)
def PB (k:Nat):Nat:=4294967296 ^ (7*3 ^ k)
def Lv (k:Nat) (q:Rat):Prop:=q.num.natAbs<PB k∧q.den<PB k
theorem lv_mk {n:Int} {d N:Nat} (hd:d≠0) (h1:n.natAbs<N) (h2:d<N):(mkRat n d).num.natAbs<N∧(mkRat n d).den<N:=by
 rw [mk_num _ _ hd,mk_den _ _ hd,Int.natAbs_tdiv,Int.natAbs_natCast];exact ⟨Nat.lt_of_le_of_lt (Nat.div_le_self _ _) h1,Nat.lt_of_le_of_lt (Nat.div_le_self _ _) h2⟩
theorem Lv.self (q:Rat):q=mkRat q.num ((q.den:Nat):Int).natAbs:=by rw [Int.natAbs_natCast,Rat.mkRat_self]
section
variable {k:Nat} {a b:Rat}
end
def QK (k:Nat) (w:World) (neg:Bool) (A:Option Addr) (n c:Nat) (neg':Bool) (A':Option Addr) (n' c':Nat) (q:Rat):Prop:=QAt (PB k) (PB k) w neg A n c neg' A' n' c' q
section
variable {k j:Nat} {w w':World} {an an' bn bn':Bool} {aA aA' bA bA':Option Addr} {ak ac ak' ac' bk bc bk' bc':Nat} {q qa qb:Rat}
end
def RQ (w:World) (q:Rat) (A:Option Addr) (k c:Nat) (A':Option Addr) (k' c':Nat):Prop:=k≤c∧k'≤c'∧Wat w A k (digs q.num.natAbs)∧Wat w A' k' (denW q.den)
section
variable {w w':World} {q:Rat} {A A':Option Addr} {k c k' c':Nat}
theorem RQ.below (h:RQ w q A k c A' k' c') (hb:Below w.heap.size w w'):RQ w' q A k c A' k' c':=⟨h.1,h.2.1,h.2.2.1.below hb,h.2.2.2.below hb⟩
theorem RQ.put4 {g o:Nat} {a b:Bool} {B B':Option Addr} {j d j' d':Nat} {t:TypeId} {cs:Array Value} (h:RQ w q A k c A' k' c') (hb:Blk w g t cs) (hn:NoInt cs):RQ (qst w g o a b B B' j d j' d') q A k c A' k' c' :=
 ⟨h.1,h.2.1,h.2.2.1.put4 hb hn,h.2.2.2.put4 hb hn⟩
end
def tl (hs:List Int):Nat→Nat
 | 0=>0
 | k+1=>if hs[k]?.getD 0=0 then tl hs k else k+1
theorem tl_le (hs:List Int):∀ k,tl hs k≤k
 | 0=>Nat.le_refl _
 | k+1=>by
  have:=tl_le hs k;rw [tl];split<;>omega
theorem IsAt.take {w:World} {A:Option Addr} {n k:Nat} {us:List Int} (h:IsAt w A n us) (hk:k≤n):IsAt w A k (us.take k):=by
 refine ⟨by simp [h.1,hk],fun h0=>?_⟩;obtain ⟨b,o,e,hlt,hc⟩:=h.2 (by omega);exact ⟨b,o,e,hlt,fun j hj=>by rw [List.getElem?_take,if_pos hj];exact hc j (by omega)⟩
theorem info_int:(Tryz.prog.info? 3).map (fun i=>(i.zero,i.size,i.bytes))=some (some (.int .i64 0),1,8):=by kernel_rfl
theorem rtrim_at (A:Option Addr) (n c:Nat) (hs:List Int) (w:World) (h:IsAt w A n hs) (hnc:n≤c) (hn:n≤1000000000000) :
  Calls Tryz.prog 211 #[.slice A n c] w fun e w'=>∃ A1,e=.returned (.slice A1 (tl hs n) c)∧IsAt w' A1 (tl hs n) (hs.take (tl hs n))∧w'=w∧∀ b o,A=some ⟨b,o,none⟩→A1=some ⟨b,o,none⟩:=by
 have HX:=Hj h;have HE:∀ k,k≤n→∃ A1,(∀ W,(Instr.sliceAt 199 (.slice A n c) none (some (.int .i64 (k:Int))) none).run Tryz.prog W=.ok (.slice A1 k c) W)∧IsAt w A1 k (hs.take k)∧∀ b o,A=some ⟨b,o,none⟩→A1=some ⟨b,o,none⟩:=fun k hk=>by
  obtain ⟨ii,hii,_⟩:=info_parts info_int;obtain ⟨A1,h1,h2⟩:=slice_lo (P:=Tryz.prog) Tryz.underlying199 hii A n c k (by omega);refine ⟨A1,h1,⟨(h.take hk).1,fun h0=>?_⟩,h2⟩;obtain ⟨b,o,e,hh⟩:=(h.take hk).2 h0;exact ⟨b,o,h2 b o e,hh⟩
 have HSL:=Hj HE;clear h HE;go_enter Tryz.func211,Tryz.ntmps211
 go_wp2_with fail
 go_loopw [3] (fun t wr=>∃ k:Nat,k≤n∧t=.int .i64 k∧Hid (tl hs n=tl hs k)∧Hid (wr=w)) (fun t _=>(intOf t).toNat)
 case atStart=>exact ⟨n,Nat.le_refl _,rfl,rfl,by first|exact Hj rfl|exact Hj trivial⟩
 case round =>
  obtain ⟨k,hk,rfl,hR,hW⟩:=hrel;obtain rfl:=hW.out;by_cases h0:k=0
  ·subst h0;have hr:=hR.out;rw [tl] at hr;obtain ⟨A1,hsl,hI,hAA⟩:=HSL.out 0 (by omega);clear hAA;have HR:=Hj hr;have HI:=Hj hI;clear hr hI HSL hR;go_wp2;go_ret;rw [HR.out];exact ⟨A,rfl,HX.out.take (Nat.zero_le _),rfl,fun b o h=>h⟩
  ·obtain ⟨j,rfl⟩:∃ j,k=j+1:=⟨k-1,by omega⟩;obtain ⟨b,o,rfl,hb,hc⟩:=HX.out.2 (by omega);have cj:=hc j (by omega);have hr:=hR.out;rw [tl] at hr;have d1:decide ((0:Int)<(j:Int)+1)=true:=decide_eq_true (by omega);have xw:IntKind.i64.wrap ((j:Int)+1-1)=(j:Int):=by rw [show (j:Int)+1-1=(j:Int) by omega];exact IntWalk.i64_in _ (by omega)
   have xw2:IntKind.i64.wrap (j:Int)=(j:Int):=IntWalk.i64_in _ (by omega);have j1:(0:Int)≤(j:Int):=by omega
   have j2:(j:Int)<(n:Int):=by omega
   obtain ⟨A1,hsl,hI,hAA⟩:=HSL.out (j+1) (by omega);have HAA:=Hj hAA;clear hAA;generalize hs[j]?.getD 0=x at *;clear hc hR;by_cases hx:x=0
   ·subst hx;rw [if_pos rfl] at hr;have HR:=Hj hr;clear hr hI hsl;go_wp2;go_roundw
    case rel=>exact ⟨j,by omega,by go_num,HR.out,by first|exact Hj rfl|exact Hj trivial⟩
    case measure=>simp [intOf]
   ·rw [if_neg hx] at hr;have HR:=Hj hr;have HI:=Hj hI;have hxz:(x == 0)=false:=by simpa using hx
    have ej:((j+1:Nat):Int)=(j:Int)+1:=rfl;rw [ej] at hsl;clear hr hI hx;go_wp2;go_ret;rw [HR.out];exact ⟨A1,rfl,HI.out,rfl,by first|exact HAA.out|exact HAA.out _ _ rfl⟩
theorem rtrim_any (A:Option Addr) (n c:Nat) (hs:List Int) (w:World) (h:IsAt w A n hs) (hnc:n≤c) (hn:n≤1000000000000) :
  Calls Tryz.prog 211 #[.slice A n c] w fun e w'=>∃ A1,e=.returned (.slice A1 (tl hs n) c)∧IsAt w' A1 (tl hs n) (hs.take (tl hs n))∧w'=w :=
 (rtrim_at A n c hs w h hnc hn).mono fun e w' ⟨A1,h1,h2,h3,_⟩=>⟨A1,h1,h2,h3⟩
theorem rat_any (A:Option Addr) (n c i:Nat) (hs:List Int) (w:World) (h:IsAt w A n hs) :
  Calls Tryz.prog 212 #[.slice A n c,.int .i64 i] w fun e w'=>e=.returned (.int .i64 (hs[i]?.getD 0))∧w'=w:=by
 by_cases hi:i<n
 ·obtain ⟨b,o,rfl,hb,hc⟩:=h.2 (by omega);have ci:=hc i hi;have i1:(0:Int)≤(i:Int):=by omega
  have i2:(i:Int)<(n:Int):=by omega
  generalize hs[i]?.getD 0=x at *;clear h hc;go_enter Tryz.func212,Tryz.ntmps212;go_wp2;go_ret;exact ⟨rfl,rfl⟩
 ·have e:hs[i]?.getD 0=0:=by rw [List.getElem?_eq_none (by rw [h.1];omega)];rfl
  have d1:decide ((i:Int)<(n:Int))=false:=by simp;omega
  rw [e];clear e h;go_enter Tryz.func212,Tryz.ntmps212;go_wp2;go_ret;exact ⟨rfl,rfl⟩
end Go.Proofs.YtjajigkacccdgaaGreat
