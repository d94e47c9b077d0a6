/-
Lemmas of the walk; no further conditions.
-/
import Derived.Test.YtjajigkacccdgaaGreatTgAT
import Derived.Deep.RegionWith
import Derived.Deep.DrawnRows
set_option linter.unusedVariables false
set_option linter.unusedSimpArgs false
set_option maxRecDepth 100000
set_option maxHeartbeats 16000000
namespace Go.Proofs.YtjajigkacccdgaaGreat
open Go.RowKit
open Wd
theorem qless_any (M Nn Nd:Nat) (HO:WOK M) (hnm:Nn≤M) (hdm:Nd≤M) {w:World} {an an':Bool} {aA aA' bA bA':Option Addr} {ak ac ak' ac' bk bc bk' bc':Nat} {r:Rat} {a:Int}
  (ha:QAt Nn Nd w an aA ak ac an' aA' ak' ac' r) (hk:bk≤bc) (hk':bk'≤bc') (hW:Wat w bA bk (digs ((a:Int):Rat).num.natAbs)) (hW':Wat w bA' bk' (denW ((a:Int):Rat).den)) (h1:a.natAbs<Nn) (h2:1<Nd) (h3:Nn≤M) :
  Calls Tryz.prog 85 #[.agg #[.bool an,.slice aA ak ac,.bool an',.slice aA' ak' ac'],.agg #[.bool (decide (((a:Int):Rat).num<0)),.slice bA bk bc,.bool false,.slice bA' bk' bc']] w (RetQ w (lessQ r a)):=by
 have hl:bk≤10000000000:=by
  rw [← hW.1,show ((a:Int):Rat).num=a from rfl];exact HO.len _ (by omega)
 have hl':bk'≤10000000000:=by
  rw [← hW'.1,show ((a:Int):Rat).den=1 from rfl];simp [denW]
 exact qmin_any M Nn Nd HO hnm hdm an an' _ false aA aA' bA bA' ak ac ak' ac' bk bc bk' bc' r (a:Rat) w ha (qat_canon hk hk' hW hW' hl hl' h1 h2)
def RGB (g:Nat) (t:TypeId) (W w':World):Prop:=W.grownBy w' (some g)∧∃ cs,Blk w' g t cs
section
variable {g:Nat} {t:TypeId} {W w w':World}
theorem RGB.start {cs:Array Value} (h:Blk W g t cs):RGB g t W W:=⟨⟨rfl,rfl,rfl,Nat.le_refl _,fun _ _ _=>rfl⟩,cs,h⟩
theorem RGB.drew (h:RGB g t W w):RGB g t W w.drew:=⟨⟨h.1.os,h.1.tape,h.1.output,h.1.size,h.1.block⟩,h.2⟩
theorem RGB.call (h:RGB g t W w) (hb:Below w.heap.size w w'):RGB g t W w':=by
 obtain ⟨h1,cs,h2⟩:=h;exact ⟨⟨hb.os.trans h1.os,hb.tape.trans h1.tape,hb.output.trans h1.output,Nat.le_trans h1.size hb.size,fun k hk hne=>(hb.block k (Nat.lt_of_lt_of_le hk h1.size)).trans (h1.block k hk hne)⟩,cs,h2.below hb h2.lt⟩
theorem RGB.set (h:RGB g t W w) (o1 o2 o3 o4:Nat) (a b c d:Value):RGB g t W ((((w.setCell ⟨g,o1,none⟩ a).setCell ⟨g,o2,none⟩ b).setCell ⟨g,o3,none⟩ c).setCell ⟨g,o4,none⟩ d):=by
 obtain ⟨h1,cs,h2⟩:=h;refine ⟨⟨h1.os,h1.tape,h1.output,by simpa [World.setCell] using h1.size,fun k hk hne=>?_⟩,_,(((h2.set o1 a).set o2 b).set o3 c).set o4 d⟩;have hkg:k≠g:=fun e=>hne (by rw [e]);rw [Below.heap_setCell _ _ _ _ (by simpa using hkg),Below.heap_setCell _ _ _ _ (by simpa using hkg),Below.heap_setCell _ _ _ _ (by simpa using hkg),Below.heap_setCell _ _ _ _ (by simpa using hkg)];exact h1.block k hk hne
theorem RGB.blk {g':Nat} {t':TypeId} {cs:Array Value} (h:RGB g t W w) (hg:Blk W g' t' cs) (hne:g'≠g):Blk w g' t' cs:=(h.1.block g' hg.lt (fun e=>hne (by injection e))).trans hg
end
theorem QRow.cells {w:World} {g n:Nat} {ps:List Rat} (h:QRow w g n ps) {j:Nat} (hj:j<n):∃ A k c A' k' c',
  w.cell? ⟨g,j*4,none⟩=some (.bool (decide ((ps[j]?.getD 0).num<0)))∧w.cell? ⟨g,j*4+1,none⟩=some (.slice A k c)∧w.cell? ⟨g,j*4+2,none⟩=some (.bool false)∧w.cell? ⟨g,j*4+3,none⟩=some (.slice A' k' c') ∧
  w.frozen? ⟨g,j*4,none⟩=false∧w.frozen? ⟨g,j*4+1,none⟩=false∧w.frozen? ⟨g,j*4+2,none⟩=false∧w.frozen? ⟨g,j*4+3,none⟩=false ∧
  k≤c∧k'≤c'∧Wat w A k (digs (ps[j]?.getD 0).num.natAbs)∧Wat w A' k' (denW (ps[j]?.getD 0).den):=by
 obtain ⟨_,cs,hb,_,_,hc⟩:=h;obtain ⟨A,k,c,A',k',c',e1,e2,e3,e4,e5,e6,e7,e8⟩:=hc j hj;exact ⟨A,k,c,A',k',c',(hb.cell _).trans e1,(hb.cell _).trans e2,(hb.cell _).trans e3,(hb.cell _).trans e4,hb.frozen _,hb.frozen _,hb.frozen _,hb.frozen _,e5,e6,e7,e8⟩
def AllR (w:World) (Nn Nd g n:Nat) (l:List (Int×Int)) (q:Rat) (k:Nat) (ps:List Rat) (bn:Bool) (bA:Option Addr) (bk bc:Nat) (bn':Bool) (bA':Option Addr) (bk' bc':Nat) (wr:World):Prop :=
 Below w.heap.size w wr∧Blk wr g 42 #[.bool bn,.slice bA bk bc,.bool bn',.slice bA' bk' bc']∧QAt Nn Nd wr bn bA bk bc bn' bA' bk' bc' (restAt l q k)∧QRow wr (g+1) n ps∧∀ j,j<k→ps[j]?.getD 0=partAt l q j
theorem qat_len {M Nn Nd:Nat} (HO:WOK M) (hnm:Nn≤M) (hdm:Nd≤M) {w:World} {A A':Option Addr} {k c k' c':Nat} {q:Rat} (hk:k≤c) (hk':k'≤c') (hW:Wat w A k (digs q.num.natAbs)) (hW':Wat w A' k' (denW q.den)) (hn:q.num.natAbs<Nn) (hd:q.den<Nd) :
  QAt Nn Nd w (decide (q.num<0)) A k c false A' k' c' q:=by
 refine qat_canon hk hk' hW hW' ?_ ?_ hn hd
 ·rw [← hW.1];exact HO.len _ (by omega)
 ·rw [← hW'.1];unfold denW;split
  ·simp
  ·exact HO.len _ (by omega)
theorem partAt_bd {l:List (Int×Int)} {q:Rat} {Nn Nd:Nat} (h0:0≤q) (hok:∀ s∈l,¬ Bad s.1 s.2) (hn:q.num.natAbs<Nn) (hd:q.den<Nd) (hN:3000000<Nn) (hD:1<Nd) {k:Nat} (hk:k<l.length):(partAt l q k).num.natAbs<Nn∧(partAt l q k).den<Nd:=by
 obtain ⟨i1,i2,i3⟩:=restAt_bd h0 hok hn hd k (by omega);have hm:(l[k]?.getD (0,0))∈l:=by rw [List.getElem?_eq_getElem (by omega)];exact List.getElem_mem _
 have hb:=hok _ hm;unfold Bad at hb;unfold partAt lessQ;split
 ·refine ⟨?_,hD⟩;show (l[k]?.getD (0,0)).1.natAbs<Nn;omega
 ·exact ⟨i2,i3⟩
theorem salloc_ok (M Nn Nd:Nat) (HO:WOK M) (hM1:2*(Nn*Nd)≤M) (hM2:Nd*Nd≤M) (hnm:Nn≤M) (hdm:Nd≤M) (hN:3000000<Nn) (hN2:Nn≤M) (hD:1<Nd)
  (A:Option Addr) (n c:Nat) (l:List (Int×Int)) (an an':Bool) (aA aA':Option Addr) (ak ac ak' ac':Nat) (q:Rat) (w:World) (h:StAt w A n l) (hq:QAt Nn Nd w an aA ak ac an' aA' ak' ac' q)
  (he:curveE l=0) (h0:0≤q) (h1:q≤(qsum l:Int)) :
  Calls Tryz.prog 89 #[.slice A n c,.agg #[.bool an,.slice aA ak ac,.bool an',.slice aA' ak' ac']] w
   (fun e w'=>∃ g ps,e=.returned (.tuple #[.slice (some ⟨g,0,none⟩) n n,.int .i64 0])∧QRow w' g n ps∧(∀ j,j<n→ps[j]?.getD 0=partAt l q j)∧w.heap.size≤g∧Below w.heap.size w w'):=by
 obtain ⟨hn0,hn3,hok⟩:=curve_ok he;have hln:=h.1;have hn:n≤3:=by omega
 have hbd:=qsum_bd l hok;have hlen:(l.length:Int)≤3:=by omega
 have hsum:sumS l=qsum l:=by unfold sumS;rw [if_pos he]
 have CC:=fun W (hW:Below w.heap.size w W)=>checkCurve_any A n c l W (h.below hW) (by omega);have SM:=fun W (hW:Below w.heap.size w W)=>sum_any A n c l W (h.below hW) (by omega);have SG:=fun W (hW:Below w.heap.size w W)=>qsign_any an an' aA aA' ak ac ak' ac' q W (hq.below hW);have hsg:decide (sgnQ q<0)=false:=by
  have:=Rat.num_nonneg.2 h0;unfold sgnQ cmpI;split
  ·omega
  ·split<;>simp
 have hcm:decide (0<cmpQ q ((qsum l:Int):Rat))=false:=by
  unfold cmpQ;split
  ·simp
  ·rw [if_neg (by grind)];simp
 have FI:=fun W=>qfromInt64_any (qsum l) W (by omega) (by omega);have hCM:∀ W (hW:Below w.heap.size w W) (B B':Option Addr) (k d k' d':Nat),k≤d→k'≤d'→Wat W B k (digs ((qsum l:Int):Rat).num.natAbs)→Wat W B' k' (denW ((qsum l:Int):Rat).den) →
   Calls Tryz.prog 43 #[.agg #[.bool an,.slice aA ak ac,.bool an',.slice aA' ak' ac'],.agg #[.bool (decide (((qsum l:Int):Rat).num<0)),.slice B k d,.bool false,.slice B' k' d']] W fun e w'=>e=.returned (.int .i64 (cmpQ q ((qsum l:Int):Rat)))∧Below W.heap.size W w':=by
  intro W hW B B' k d k' d' hk hk' h5 h6;refine qcmp_any (Nn:=Nn) (Nd:=Nd) an an' _ false aA aA' B B' ak ac ak' ac' k d k' d' q _ W (hq.below hW) (qat_canon hk hk' h5 h6 ?_ ?_ ?_ hD)
  ·rw [← h5.1,show ((qsum l:Int):Rat).num=qsum l from rfl];exact HO.len _ (by omega)
  ·rw [← h6.1,show ((qsum l:Int):Rat).den=1 from rfl];simp [denW]
  ·show (qsum l).natAbs<Nn;omega
 rw [he] at CC;rw [hsum] at SM;generalize sgnQ q=sq at *;generalize cmpQ q ((qsum l:Int):Rat)=cq at *;generalize hqr:((qsum l:Int):Rat)=qs at *;have hs1 : -3000000≤qsum l:=by omega
 have hs2:qsum l≤3000000:=by omega
 generalize qsum l=sl at *;have CC:=Hj CC;have SM:=Hj SM;have SG:=Hj SG;have FI:=Hj FI;have HCM:=Hj hCM;have HQ:=Hj hq;have HST:=Hj h;have hn0:n≠0:=by omega
 have hmk:=fun w=>run_make_Q n (by omega) w;clear hCM hbd hlen hsum hqr h he h1 hn3 hq;go_enter Tryz.func89,Tryz.ntmps89
 go_wp2_with fail
 obtain ⟨hB0,hBW,hsz⟩:=pre1 w 42 #[.bool an,.slice aA ak ac,.bool an',.slice aA' ak' ac'];generalize w.alloc (.cells #[.bool an,.slice aA ak ac,.bool an',.slice aA' ak' ac'] 42)=W at *;have HSZ:=Hj hsz;clear hsz;refine (CC.out W hBW).mono ?_;rintro e w1 ⟨rfl,hb1⟩;have hB0:=hB0.below hb1 hB0.lt;have hBW:Below w.heap.size w w1:=hBW.trans (hb1.mono hBW.size);clear hb1 HSZ CC;have hBK:∀ w',Kp w1 w'→Below w.heap.size w w':=fun w' hk=>hBW.trans (Below.mono hk hBW.size);have HBK:=Hj hBK;clear hBK;have s5:=Kp.refl w1
 go_wp2_with fail
 have hS:∀ w',Kp w1 w'→(w'.cell? ⟨w.heap.size,0,none⟩=some (.bool an)∧w'.cell? ⟨w.heap.size,1,none⟩=some (.slice aA ak ac)∧w'.cell? ⟨w.heap.size,2,none⟩=some (.bool an')∧w'.cell? ⟨w.heap.size,3,none⟩=some (.slice aA' ak' ac'))∧Kp w1 w':=fun w' hk=>⟨⟨(hk.blk hB0).cell 0,(hk.blk hB0).cell 1,(hk.blk hB0).cell 2,(hk.blk hB0).cell 3⟩,hk⟩;have HS:=Hj hS;clear hS
 go_region_held3 (fun w'=>(w'.cell? ⟨w.heap.size,0,none⟩=some (.bool an)∧w'.cell? ⟨w.heap.size,1,none⟩=some (.slice aA ak ac)∧w'.cell? ⟨w.heap.size,2,none⟩=some (.bool an')∧w'.cell? ⟨w.heap.size,3,none⟩=some (.slice aA' ak' ac'))∧Kp w1 w')
  (with_reducible first|(refine HS.out _ ?_;assumption)|(refine HS.out _ (Kp.drew ?_);assumption)|(refine' HS.out _ (Kp.drew (And.right ?_));rotate_left;assumption))
  (first
   | (go_at_call 57;have hk:=And.right ‹_∧Kp w1 _›;refine (SG.out _ (HBK.out _ hk)).mono ?_;rintro e v1 ⟨rfl,hb1⟩;have hr1:=hk.trans hb1;clear hb1)
   | (go_at_call 137;have hk:=And.right ‹_∧Kp w1 _›;refine (SM.out _ (HBK.out _ hk)).mono ?_;rintro e v2 ⟨rfl,hb2⟩;have hr2:=hk.trans hb2;clear hb2)
   | (go_at_call 40;have hk:=And.right ‹_∧Kp w1 _›;refine (FI.out _).mono ?_;rintro e v3 ⟨A3,k3,c3,A4,k4,c4,rfl,hk3,hk4,hW3,hW4,hF3,hF4,hb3⟩;have hr3:=hk.trans hb3;clear hb3)
   | (go_at_call 43;have hk:=And.right ‹_∧Kp w1 _›;refine (HCM.out _ (HBK.out _ hk) A3 A4 k3 c3 k4 c4 hk3 hk4 hW3 hW4).mono ?_;rintro e v4 ⟨rfl,hb4⟩;have hr4:=hk.trans hb4;clear hb4))
 rename_i hHeld
 obtain ⟨⟨c0,c1,c2,c3⟩,-⟩:=hHeld;have hB4:Below w.heap.size w v4:=HBK.out _ hr4;have hB5:Below w.heap.size w ((v4.alloc (.cells #[.bool an,.slice aA ak ac,.bool an',.slice aA' ak' ac'] 42)).alloc (.cells (madeCells qzero (n*4)) 42)):=(hB4.alloc hB4.size _).alloc (Nat.le_trans hB4.size (by simp)) _;have hQR:=QRow.start (v4.alloc (.cells #[.bool an,.slice aA ak ac,.bool an',.slice aA' ak' ac'] 42)) n;rw [World.size_alloc] at hQR;have hst:AllR w Nn Nd v4.heap.size n l q 0 (List.replicate n 0) an aA ak ac an' aA' ak' ac' ((v4.alloc (.cells #[.bool an,.slice aA ak ac,.bool an',.slice aA' ak' ac'] 42)).alloc (.cells (madeCells qzero (n*4)) 42)) :=
  ⟨hB5,(Blk.new v4 _ _).alloc _,HQ.out.below hB5,hQR,fun j hj=>absurd hj (by omega)⟩
 have hgs:w.heap.size≤v4.heap.size:=hB4.size;clear hB4 hB5 hQR hW3 hW4 hF3 hF4 hk3 hk4 HCM FI SG SM HBK s5 hr1 hr2 hr3 hr4 HS
 go_wp2_with fail
 generalize (v4.alloc (.cells #[.bool an,.slice aA ak ac,.bool an',.slice aA' ak' ac'] 42)).alloc (.cells (madeCells qzero (n*4)) 42)=W0 at *;generalize List.replicate n (0:Rat)=ps0 at *;generalize v4.heap.size=g at *;clear c0 c1 c2 c3 hmk
 go_loopw [33] (fun t wr=>∃ (k:Nat) (ps:List Rat) (bn:Bool) (bA:Option Addr) (bk bc:Nat) (bn':Bool) (bA':Option Addr) (bk' bc':Nat),k≤n∧t=.int .i64 k∧Hid (AllR w Nn Nd g n l q k ps bn bA bk bc bn' bA' bk' bc' wr)) (fun t _=>n-(intOf t).toNat)
 case atStart=>exact ⟨0,ps0,an,aA,ak,ac,an',aA',ak',ac',Nat.zero_le _,rfl,hst⟩
 case round =>
  clear hst;obtain ⟨k,ps,bn,bA,bk,bc,bn',bA',bk',bc',hk,rfl,hR⟩:=hrel;by_cases hlt:k<n
  ·obtain ⟨hB,hBx,hQx,hRow,hPs⟩:=hR.out;obtain ⟨b,o,rfl,hb,hcell⟩:=HST.out.2.2 hn0;obtain ⟨ck,ck'⟩:=hcell k hlt;have hck:=(hB.cell (p:=⟨b,o+k*2,none⟩) hb).trans ck;have hck':=(hB.cell (p:=⟨b,o+k*2+1,none⟩) hb).trans ck';have hmem:(l[k]?.getD (0,0))∈l:=by rw [List.getElem?_eq_getElem (by omega)];exact List.getElem_mem _
   have hbad:=hok _ hmem;unfold Bad at hbad;have hrb:=restAt_bd (l:=l) (q:=q) h0 hok (HQ.out.bd).1 (HQ.out.bd).2 (k+1) (by omega);have hr1:restAt l q (k+1)=restAt l q k-lessQ (restAt l q k) (l[k]?.getD (0,0)).1:=rfl;have hp1:partAt l q k=lessQ (restAt l q k) (l[k]?.getD (0,0)).1:=rfl;have hz1:g+1<wr.heap.size:=by obtain ⟨_,cs,hbk,_⟩:=hRow;exact hbk.lt
   have FI:=fun W=>qfromInt64_any (l[k]?.getD (0,0)).1 W (by omega) (by omega);have HMIN:=fun (W:World) (B B':Option Addr) (j d j' d':Nat) (hW:QAt Nn Nd W bn bA bk bc bn' bA' bk' bc' (restAt l q k)) (h1:j≤d) (h2:j'≤d') (h3:Wat W B j (digs (((l[k]?.getD (0,0)).1:Int):Rat).num.natAbs)) (h4:Wat W B' j' (denW (((l[k]?.getD (0,0)).1:Int):Rat).den))=>qless_any M Nn Nd HO hnm hdm hW h1 h2 h3 h4 (by omega) hD hN2;rw [← hp1] at hr1 HMIN;have hpb:=partAt_bd (l:=l) (q:=q) h0 hok (HQ.out.bd).1 (HQ.out.bd).2 hN hD (k:=k) (by omega);have HSUB:=fun (W:World) (B B':Option Addr) (j d j' d':Nat) (hW:QAt Nn Nd W bn bA bk bc bn' bA' bk' bc' (restAt l q k)) (h1:j≤d) (h2:j'≤d') (h3:Wat W B j (digs (partAt l q k).num.natAbs)) (h4:Wat W B' j' (denW (partAt l q k).den))=>qsub_any M Nn Nd HO hM1 hM2 bn bn' _ false bA bA' B B' bk bc bk' bc' j d j' d' (restAt l q k) (partAt l q k) W hW (qat_len HO hnm hdm h1 h2 h3 h4 hpb.1 hpb.2);rw [← hr1] at HSUB;have FI:=Hj FI;have HMIN:=Hj HMIN;have HSUB:=Hj HSUB;have HRB:=Hj hrb;generalize hqv:(((l[k]?.getD (0,0)).1:Int):Rat)=qk at *;generalize (l[k]?.getD (0,0)).1=sq1 at *;generalize (l[k]?.getD (0,0)).2=sp1 at *;have hPs:=Hj hPs;have hcell:=Hj hcell;clear hbad hrb hr1 hp1 hmem hqv hpb ck ck'
   go_wp2_with fail
   have hBx:=hBx.alloc (.cells #[.int .i64 sq1,.int .i64 sp1] 107);have hb9:Below wr.heap.size wr (wr.alloc (.cells #[.int .i64 sq1,.int .i64 sp1] 107)):=(Below.refl _ _).alloc (Nat.le_refl _) _;have hRow:=hRow.below hb9;have hQx:=hQx.below hb9;have hSt:=Blk.new wr 107 #[.int .i64 sq1,.int .i64 sp1];have hBw:=hB.alloc hB.size (.cells #[.int .i64 sq1,.int .i64 sp1] 107);generalize wr.alloc (.cells #[.int .i64 sq1,.int .i64 sp1] 107)=W2 at *;clear hb9 hck hck' hB;have hRow':=Hj hRow;have hQx':=Hj hQx;have s5:=Kp.refl W2;have s6:RGB (g+1) 42 W2 W2:=by obtain ⟨_,cs,hbk,_⟩:=hRow;exact RGB.start hbk
   have hki:(0:Int)≤(k:Int)∧(k:Int)<(n:Int):=by omega
   obtain ⟨hki1,hki2⟩:=hki;clear hRow hQx;have hS:∀ w',RGB (g+1) 42 W2 w'→(w'.cell? ⟨g,0,none⟩=some (.bool bn)∧w'.cell? ⟨g,1,none⟩=some (.slice bA bk bc)∧w'.cell? ⟨g,2,none⟩=some (.bool bn')∧w'.cell? ⟨g,3,none⟩=some (.slice bA' bk' bc')∧w'.cell? ⟨wr.heap.size,0,none⟩=some (.int .i64 sq1))∧RGB (g+1) 42 W2 w':=fun w' hk=>⟨⟨(hk.blk hBx (by omega)).cell 0,(hk.blk hBx (by omega)).cell 1,(hk.blk hBx (by omega)).cell 2,(hk.blk hBx (by omega)).cell 3,(hk.blk hSt (by omega)).cell 0⟩,hk⟩;have HS:=Hj hS;clear hS
   go_region_held3 (fun w'=>(w'.cell? ⟨g,0,none⟩=some (.bool bn)∧w'.cell? ⟨g,1,none⟩=some (.slice bA bk bc)∧w'.cell? ⟨g,2,none⟩=some (.bool bn')∧w'.cell? ⟨g,3,none⟩=some (.slice bA' bk' bc')∧w'.cell? ⟨wr.heap.size,0,none⟩=some (.int .i64 sq1))∧RGB (g+1) 42 W2 w')
    (with_reducible first|(refine HS.out _ ?_;assumption)|(refine HS.out _ (RGB.drew ?_);assumption)|(refine' HS.out _ (RGB.drew (And.right ?_));rotate_left;assumption)|(refine' HS.out _ (RGB.set (And.right ?_) _ _ _ _ _ _ _ _);rotate_left;assumption))
    (first
     | (go_at_call 40;have hk:=And.right ‹_∧RGB (g+1) 42 W2 _›;refine (FI.out _).mono ?_;rintro e v5 ⟨A3,k3,c3,A4,k4,c4,rfl,hk3,hk4,hW3,hW4,hF3,hF4,hb3⟩;have hr3:=hk.call hb3;have hp3:Kp W2 v5:=Kp.trans (Kp.drew s5) hb3;clear hb3)
     | (go_at_call 85;have hk:=And.right ‹_∧RGB (g+1) 42 W2 _›;refine (HMIN.out _ A3 A4 k3 c3 k4 c4 (hQx'.out.below hp3) hk3 hk4 hW3 hW4).mono ?_;rintro e v6 ⟨A5,k5,c5,A6,k6,c6,rfl,hk5,hk6,hW5,hW6,hF5,hF6,hb4⟩;have hr4:=hk.call hb4;have hp4:Kp W2 v6:=Kp.trans hp3 hb4;obtain ⟨_,_,_,_,_,_,i0,i1,i2,i3,i4,i5,i6,i7,-⟩:=(hRow'.out.below hp4).cells hlt;clear hb4))
   rename_i hHeld
   clear hHeld;have e7:(((v6.setCell ⟨g+1,k*4,none⟩ (.bool (decide ((partAt l q k).num<0)))).setCell ⟨g+1,k*4+1,none⟩ (.slice A5 k5 c5)).setCell ⟨g+1,k*4+2,none⟩ (.bool false)).setCell ⟨g+1,k*4+3,none⟩ (.slice A6 k6 c6)=qst v6 (g+1) (k*4) (decide ((partAt l q k).num<0)) false A5 A6 k5 c5 k6 c6:=rfl;rw [e7];have hRow6:=hRow'.out.below hp4;have hRow7:=hRow6.put hlt hk5 hk6 hW5 hW6;obtain ⟨hlen6,cs6,hbk6,hni6,-⟩:=hRow6;have hBx7:Blk (qst v6 (g+1) (k*4) (decide ((partAt l q k).num<0)) false A5 A6 k5 c5 k6 c6) g _ _:=(Kp.blk hp4 hBx).far4 (by omega);have hQx7:=(hQx'.out.below hp4).put4 (o:=k*4) (a:=decide ((partAt l q k).num<0)) (b:=false) (A:=A5) (A':=A6) (k:=k5) (c:=c5) (k':=k6) (c':=c6) hbk6 hni6;have hB6:Below w.heap.size w v6:=hBw.trans (Below.mono hp4 hBw.size);have hB7:Below w.heap.size w (qst v6 (g+1) (k*4) (decide ((partAt l q k).num<0)) false A5 A6 k5 c5 k6 c6):=below_qst hB6 (by omega);generalize qst v6 (g+1) (k*4) (decide ((partAt l q k).num<0)) false A5 A6 k5 c5 k6 c6=W7 at *;clear e7 hr3 hr4 hp3 hp4 i0 i1 i2 i3 i4 i5 i6 i7 hW3 hW4 hF3 hF4 hk3 hk4 hW5 hW6 hF5 hF6 hk5 hk6 hbk6 hni6 s5 s6 hBw HS hSt hBx hRow' hQx' HMIN FI hB6;have epk:(ps.set k (partAt l q k))[k]?.getD 0=partAt l q k:=by simp [hlen6,hlt]
   have hPs':∀ j,j<k+1→(ps.set k (partAt l q k))[j]?.getD 0=partAt l q j:=by
    intro j hj;by_cases hjk:j=k
    ·rw [hjk];exact epk
    ·rw [List.getElem?_set_ne (Ne.symm hjk)];exact hPs.out j (by omega)
   have hPs':=Hj hPs';obtain ⟨A8,k8,c8,A9,k9,c9,j0,j1,j2,j3,-,-,-,-,hk8,hk9,hW8,hW9⟩:=hRow7.cells hlt;rw [epk] at j0 hW8 hW9;generalize ps.set k (partAt l q k)=ps' at *;have hrow:=Hj hRow7;have hqx:=Hj hQx7;have s5:=Kp.refl W7;have s6:=RG4.start hBx7;obtain ⟨x0,x1,x2,x3,y0,y1,y2,y3⟩:=hBx7.four;clear hRow7 hQx7
   go_wp2_with fail
   go_region_with (first|(go_at_call 55;refine (HSUB.out _ A8 A9 k8 c8 k9 c9 (hqx.out.below (Kp.drew s5)) hk8 hk9 hW8 hW9).mono ?_;rintro e v8 ⟨A5,k5,c5,A6,k6,c6,rfl,hk5,hk6,hW5,hW6,hF5,hF6,hb4⟩;have hp4:Kp W7 v8:=Kp.trans (Kp.drew s5) hb4;obtain ⟨i0,i1,i2,i3,i4,i5,i6,i7⟩:=(Kp.blk hp4 hBx7).four;clear hb4))
   all_goals
    have e8:(((v8.setCell ⟨g,0,none⟩ (.bool (decide ((restAt l q (k+1)).num<0)))).setCell ⟨g,1,none⟩ (.slice A5 k5 c5)).setCell ⟨g,2,none⟩ (.bool false)).setCell ⟨g,3,none⟩ (.slice A6 k6 c6)=qst v8 g 0 (decide ((restAt l q (k+1)).num<0)) false A5 A6 k5 c5 k6 c6:=rfl;rw [e8];have hbx8:=Kp.blk hp4 hBx7;have hfin:AllR w Nn Nd g n l q (k+1) ps' (decide ((restAt l q (k+1)).num<0)) A5 k5 c5 false A6 k6 c6 (qst v8 g 0 (decide ((restAt l q (k+1)).num<0)) false A5 A6 k5 c5 k6 c6):=by
     refine ⟨below_qst (hB7.trans (Below.mono hp4 hB7.size)) hgs,hbx8.put4,?_,?_,hPs'.out⟩
     ·exact qat_len HO hnm hdm hk5 hk6 (hW5.put4 hbx8 NoInt.four) (hW6.put4 hbx8 NoInt.four) HRB.out.2.1 HRB.out.2.2
     ·exact (hrow.out.below hp4).far4 (by omega) hbx8 NoInt.four
    generalize qst v8 g 0 (decide ((restAt l q (k+1)).num<0)) false A5 A6 k5 c5 k6 c6=W8 at *;have HF:=Hj hfin;clear e8 hfin hbx8 i0 i1 i2 i3 i4 i5 i6 i7 x0 x1 x2 x3 y0 y1 y2 y3 hp4 hW5 hW6 hF5 hF6 hk5 hk6 hW8 hW9 hB7 j0 j1 j2 j3;go_wp2;go_roundw
    case rel=>exact ⟨k+1,ps',_,A5,k5,c5,false,A6,k6,c6,by omega,by go_num,HF.out⟩
    case measure=>simp [intOf];omega
  ·obtain rfl:k=n:=by omega
   obtain ⟨hB,hBx,hQx,hRow,hPs⟩:=hR.out;clear hR;go_wp2;go_ret2;exact ⟨g+1,ps,rfl,hRow,hPs,by omega,hB⟩
end Go.Proofs.YtjajigkacccdgaaGreat
namespace Go.Proofs.YtjajigkacccdgaaGreat
open Go.RowKit
open Wd
attribute [local go_sem ↓] Go.wp_at_zero Go.wp_at_succ
def CQ (base:Nat) (w:World) (q:Rat) (A:Option Addr) (k c:Nat) (A':Option Addr) (k' c':Nat):Prop :=
 k≤c∧k'≤c'∧Wat w A k (digs q.num.natAbs)∧Wat w A' k' (denW q.den)∧Fresh base w A k∧Fresh base w A' k'
section
variable {base base':Nat} {w w':World} {q:Rat} {A A':Option Addr} {k c k' c':Nat}
theorem CQ.below (h:CQ base w q A k c A' k' c') (hb:Below w.heap.size w w'):CQ base w' q A k c A' k' c':=by
 obtain ⟨h1,h2,h3,h4,h5,h6⟩:=h;exact ⟨h1,h2,h3.below hb,h4.below hb,h5.keep h3 hb,h6.keep h4 hb⟩
theorem CQ.put4 {g o:Nat} {a b:Bool} {B B':Option Addr} {j d j' d':Nat} {t:TypeId} {cs:Array Value} (h:CQ base w q A k c A' k' c') (hb:Blk w g t cs) (hn:NoInt cs):CQ base (qst w g o a b B B' j d j' d') q A k c A' k' c':=by
 obtain ⟨h1,h2,h3,h4,h5,h6⟩:=h;exact ⟨h1,h2,h3.put4 hb hn,h4.put4 hb hn,(((h5.set _ _).set _ _).set _ _).set _ _,(((h6.set _ _).set _ _).set _ _).set _ _⟩
theorem CQ.zero:CQ base w 0 none 0 0 none 0 0:=by
 refine ⟨Nat.le_refl _,Nat.le_refl _,?_,Wat.nil,Fresh.nil,Fresh.nil⟩;show Wat _ none 0 (digs 0);rw [digs_zero];exact Wat.nil
theorem CQ.at {M Nn Nd:Nat} (h:CQ base w q A k c A' k' c') (HO:WOK M) (hnm:Nn≤M) (hdm:Nd≤M) (hn:q.num.natAbs<Nn) (hd:q.den<Nd):QAt Nn Nd w (decide (q.num<0)) A k c false A' k' c' q :=
 qat_len HO hnm hdm h.1 h.2.1 h.2.2.1 h.2.2.2.1 hn hd
end
def costAt (l:List (Int×Int)) (q:Rat):Nat→Rat
 | 0=>0
 | k+1=>costAt l q k+partAt l q k*(((l[k]?.getD (0,0)).2:Int):Rat)
structure CostOK (M Nn Nd Cn Cd:Nat) (l:List (Int×Int)) (q:Rat):Prop where
 hn:3000000<Nn
 hn2:Nn≤M
 hd:1<Nd
 nn:Nn*Nn≤M
 dd:Nd*Nd≤M
 nd:2*(Nn*Nd)≤M
 nm:Nn≤M
 dm:Nd≤M
 cnd:2*(Cn*Cd)≤M
 cdd:Cd*Cd≤M
 cn:Cn≤M
 cd:Cd≤M
 sum:∀ k,k≤l.length→(costAt l q k).num.natAbs<Cn∧(costAt l q k).den<Cd
 prod:∀ k,k<l.length→(partAt l q k*(((l[k]?.getD (0,0)).2:Int):Rat)).num.natAbs<Cn∧(partAt l q k*(((l[k]?.getD (0,0)).2:Int):Rat)).den<Cd
def CstR (w:World) (g gr n:Nat) (l:List (Int×Int)) (q:Rat) (ps:List Rat) (k:Nat) (A:Option Addr) (j c:Nat) (A':Option Addr) (j' c':Nat) (wr:World):Prop :=
 Below w.heap.size w wr∧Blk wr g 42 #[.bool (decide ((costAt l q k).num<0)),.slice A j c,.bool false,.slice A' j' c']∧CQ w.heap.size wr (costAt l q k) A j c A' j' c'∧QRow wr gr n ps
def CstPost (w:World) (r:Rat) (e:Ending) (w':World):Prop :=
 ∃ A k c A' k' c',e=.returned (.tuple #[.agg #[.bool (decide (r.num<0)),.slice A k c,.bool false,.slice A' k' c'],.int .i64 0])∧CQ w.heap.size w' r A k c A' k' c'∧Below w.heap.size w w'
theorem scost_ok (M Nn Nd Cn Cd:Nat) (HO:WOK M)
  (A:Option Addr) (n c:Nat) (l:List (Int×Int)) (an an':Bool) (aA aA':Option Addr) (ak ac ak' ac':Nat) (q:Rat) (w:World) (h:StAt w A n l) (hq:QAt Nn Nd w an aA ak ac an' aA' ak' ac' q)
  (he:curveE l=0) (h0:0≤q) (h1:q≤(qsum l:Int)) (HC:CostOK M Nn Nd Cn Cd l q) :
  Calls Tryz.prog 41 #[.slice A n c,.agg #[.bool an,.slice aA ak ac,.bool an',.slice aA' ak' ac']] w (CstPost w (costAt l q n)):=by
 obtain ⟨hn0,hn3,hok⟩:=curve_ok he;have hln:=h.1;have hn:n≤3:=by omega
 have T:=fun W (hW:Below w.heap.size w W)=>salloc_ok M Nn Nd HO HC.nd HC.dd HC.nm HC.dm HC.hn HC.hn2 HC.hd A n c l an an' aA aA' ak ac ak' ac' q W (h.below hW) (hq.below hW) he h0 h1;have HT:=Hj T;have HB:=Hj (hq.bd);have HST:=Hj h;have HOK:=Hj hok;have HLN:=Hj hln;have hn1:n≠0:=by omega
 clear hn0 h hq he h1 hn3 hok hln T;go_enter Tryz.func41,Tryz.ntmps41
 go_wp2_with fail
 obtain ⟨hB0,hB1,hBW,hsz⟩:=pre2 w 42 #[.bool an,.slice aA ak ac,.bool an',.slice aA' ak' ac'] 42 #[.bool false,.slice none 0 0,.bool false,.slice none 0 0];generalize (w.alloc (.cells #[.bool an,.slice aA ak ac,.bool an',.slice aA' ak' ac'] 42)).alloc (.cells #[.bool false,.slice none 0 0,.bool false,.slice none 0 0] 42)=W at *;have HSZ:=Hj hsz;clear hsz;refine (HT.out W hBW).mono ?_;rintro e w1 ⟨gr,ps,rfl,hRow,hPs,hgr,hb1⟩;have hB0:=hB0.below hb1 hB0.lt;have hB1:=hB1.below hb1 hB1.lt;have hgs:w.heap.size+1+1≤W.heap.size:=by have:=HSZ.out;omega
 have hBw:=hBW.trans (hb1.mono hBW.size);have hz1:=hb1.size;have hrow:=Hj (hRow.below ((Below.refl _ w1).alloc (Nat.le_refl _) (.cells #[.bool false,.slice none 0 0,.bool false,.slice none 0 0] 42)));have HPS:=Hj hPs;have hB1:=hB1.alloc (.cells #[.bool false,.slice none 0 0,.bool false,.slice none 0 0] 42);have hg:=Blk.new w1 42 #[.bool false,.slice none 0 0,.bool false,.slice none 0 0];have hgl:gr<w1.heap.size:=by obtain ⟨_,cs,hbk,_⟩:=hRow;exact hbk.lt
 have hBw2:=hBw.alloc hBw.size (.cells #[.bool false,.slice none 0 0,.bool false,.slice none 0 0] 42);have hst:CstR w w1.heap.size gr n l q ps 0 none 0 0 none 0 0 (w1.alloc (.cells #[.bool false,.slice none 0 0,.bool false,.slice none 0 0] 42)):=⟨hBw2,hg,CQ.zero,hrow.out⟩;clear hPs HT hBW hb1 HSZ hBw hRow hB0 hBw2 hg hrow
 go_wp2_with fail
 generalize w1.alloc (.cells #[.bool false,.slice none 0 0,.bool false,.slice none 0 0] 42)=W0 at *;generalize w1.heap.size=g at *;have HST0:=Hj hst;have HB1:=Hj hB1;clear hst hB1
 go_loopw [23] (fun t wr=>∃ (k:Nat) (A:Option Addr) (j c:Nat) (A':Option Addr) (j' c':Nat),k≤n∧t=.int .i64 k∧Hid (CstR w g gr n l q ps k A j c A' j' c' wr)∧Hid (Blk wr (w.heap.size+1) 42 #[.bool false,.slice none 0 0,.bool false,.slice none 0 0])) (fun t _=>n-(intOf t).toNat)
 case atStart=>exact ⟨0,none,0,0,none,0,0,Nat.zero_le _,rfl,HST0.out,HB1.out⟩
 case round =>
  clear HST0 HB1;obtain ⟨k,B,bk,bc,B',bk',bc',hk,rfl,hR,hRB⟩:=hrel;by_cases hlt:k<n
  ·obtain ⟨hB,hBx,hCx,hRow⟩:=hR.out;obtain ⟨b,o,rfl,hb,hcell⟩:=HST.out.2.2 hn1;obtain ⟨ck,ck'⟩:=hcell k hlt;have hck:=(hB.cell (p:=⟨b,o+k*2,none⟩) hb).trans ck;have hck':=(hB.cell (p:=⟨b,o+k*2+1,none⟩) hb).trans ck';have hlen:k<l.length:=by have:=HLN.out;omega
   have hmem:(l[k]?.getD (0,0))∈l:=by rw [List.getElem?_eq_getElem hlen];exact List.getElem_mem _
   have hbad:=HOK.out _ hmem;unfold Bad at hbad;have hr1:costAt l q (k+1)=costAt l q k+partAt l q k*(((l[k]?.getD (0,0)).2:Int):Rat):=rfl;have hpb:=partAt_bd (l:=l) (q:=q) h0 HOK.out HB.out.1 HB.out.2 HC.hn HC.hd hlen;have hs1:=HC.sum k (by omega);have hs2:=HC.sum (k+1) hlen;have hs3:=HC.prod k hlen;have hps:=HPS.out k hlt;have FI:=fun W=>qfromInt64_any (l[k]?.getD (0,0)).2 W (by omega) (by omega);have hpn:(((l[k]?.getD (0,0)).2:Int):Rat).num.natAbs<Nn:=by have:=HC.hn;rw [Rat.num_intCast];omega
   have hpd:(((l[k]?.getD (0,0)).2:Int):Rat).den<Nd:=by rw [Rat.den_intCast];exact HC.hd
   have HMUL:=fun (W:World) (B1 B1' B2 B2':Option Addr) (j1 d1 j1' d1' j2 d2 j2' d2':Nat) (h1:j1≤d1) (h2:j1'≤d1') (h3:Wat W B1 j1 (digs (partAt l q k).num.natAbs)) (h4:Wat W B1' j1' (denW (partAt l q k).den)) (h5:j2≤d2) (h6:j2'≤d2') (h7:Wat W B2 j2 (digs (((l[k]?.getD (0,0)).2:Int):Rat).num.natAbs)) (h8:Wat W B2' j2' (denW (((l[k]?.getD (0,0)).2:Int):Rat).den)) =>
    qmulq_any M Nn Nd HO HC.nn HC.dd _ false _ false B1 B1' B2 B2' j1 d1 j1' d1' j2 d2 j2' d2' (partAt l q k) (((l[k]?.getD (0,0)).2:Int):Rat) W (qat_len HO HC.nm HC.dm h1 h2 h3 h4 hpb.1 hpb.2) (qat_len HO HC.nm HC.dm h5 h6 h7 h8 hpn hpd)
   have HADD:=fun (W:World) (B2 B2':Option Addr) (j2 d2 j2' d2':Nat) (hx:CQ w.heap.size W (costAt l q k) B bk bc B' bk' bc') (h5:j2≤d2) (h6:j2'≤d2') (h7:Wat W B2 j2 (digs (partAt l q k*(((l[k]?.getD (0,0)).2:Int):Rat)).num.natAbs)) (h8:Wat W B2' j2' (denW (partAt l q k*(((l[k]?.getD (0,0)).2:Int):Rat)).den)) =>
    qadd_any M Cn Cd HO HC.cnd HC.cdd _ false _ false B B' B2 B2' bk bc bk' bc' j2 d2 j2' d2' (costAt l q k) (partAt l q k*(((l[k]?.getD (0,0)).2:Int):Rat)) W (hx.at HO HC.cn HC.cd hs1.1 hs1.2) (qat_len HO HC.cn HC.cd h5 h6 h7 h8 hs3.1 hs3.2)
   rw [← hr1] at HADD;obtain ⟨A8,k8,c8,A9,k9,c9,j0,j1,j2,j3,-,-,-,-,hk8,hk9,hW8,hW9⟩:=hRow.cells hlt;rw [hps] at j0 hW8 hW9;have HFI:=Hj FI;have HMULH:=Hj HMUL;have HADDH:=Hj HADD;generalize hqv:(((l[k]?.getD (0,0)).2:Int):Rat)=qk at *;generalize partAt l q k*qk=qm at *;generalize partAt l q k=qp at *;generalize (l[k]?.getD (0,0)).1=sq1 at *;generalize (l[k]?.getD (0,0)).2=sp1 at *;clear FI HMUL HADD hqv hps hr1 hmem hbad hpb hs1 hs3 hs2 hpn hpd ck ck' hcell;have hki:(0:Int)≤(k:Int)∧(k:Int)<(n:Int):=by omega
   obtain ⟨hki1,hki2⟩:=hki;have hbRB:=hRB.out;clear hRB
   go_wp2_with fail
   have hBx:=hBx.alloc (.cells #[.int .i64 sq1,.int .i64 sp1] 107);have hbRB:=hbRB.alloc (.cells #[.int .i64 sq1,.int .i64 sp1] 107);have hb9:Below wr.heap.size wr (wr.alloc (.cells #[.int .i64 sq1,.int .i64 sp1] 107)):=(Below.refl _ _).alloc (Nat.le_refl _) _;have hRow:=hRow.below hb9;have hCx:=hCx.below hb9;have hW8:=hW8.below hb9;have hW9:=hW9.below hb9;have hSt:=Blk.new wr 107 #[.int .i64 sq1,.int .i64 sp1];have hBw:=hB.alloc hB.size (.cells #[.int .i64 sq1,.int .i64 sp1] 107);have hRW:∃ cs,Blk (wr.alloc (.cells #[.int .i64 sq1,.int .i64 sp1] 107)) gr 42 cs∧cs[k*4]?=some (.bool (decide (qp.num<0)))∧cs[k*4+1]?=some (.slice A8 k8 c8)∧cs[k*4+2]?=some (.bool false)∧cs[k*4+3]?=some (.slice A9 k9 c9):=by
    obtain ⟨_,cs,hbk,_⟩:=hR.out.2.2.2;exact ⟨cs,hbk.alloc _,(hbk.cell _).symm.trans j0,(hbk.cell _).symm.trans j1,(hbk.cell _).symm.trans j2,(hbk.cell _).symm.trans j3⟩
   obtain ⟨cs7,hb7,f0,f1,f2,f3⟩:=hRW;generalize hWW:wr.alloc (.cells #[.int .i64 sq1,.int .i64 sp1] 107)=W2 at *;have hgz:g≠w.heap.size+1:=by omega
   clear hWW hb9 hck hck' hB hR j0 j1 j2 j3;have HCX:=Hj hCx;have HROW:=Hj hRow;have s5:=Kp.refl W2;obtain ⟨-,t1,-,-⟩:=hSt.two;obtain ⟨q0,q1,q2,q3,-⟩:=hBx.four;have p0:=(hb7.cell (k*4)).trans f0;have p1:=(hb7.cell (k*4+1)).trans f1;have p2:=(hb7.cell (k*4+2)).trans f2;have p3:=(hb7.cell (k*4+3)).trans f3;have F0:=Hj f0;have F1:=Hj f1;have F2:=Hj f2;have F3:=Hj f3;clear hCx hRow f0 f1 f2 f3 hSt
   go_region_with (first
    | (go_at_call 40;refine (HFI.out _).mono ?_;rintro e v5 ⟨A3,k3,c3,A4,k4,c4,rfl,hk3,hk4,hW3,hW4,hF3,hF4,hb3⟩;have hp5:Kp W2 v5:=Kp.trans (Kp.drew s5) hb3;have p0':=((Kp.blk hp5 hb7).cell (k*4)).trans F0.out;have p1':=((Kp.blk hp5 hb7).cell (k*4+1)).trans F1.out;have p2':=((Kp.blk hp5 hb7).cell (k*4+2)).trans F2.out;have p3':=((Kp.blk hp5 hb7).cell (k*4+3)).trans F3.out;obtain ⟨q0',q1',q2',q3',-⟩:=(Kp.blk hp5 hBx).four;clear hb3 hF3 hF4)
    | (go_at_call 54;refine (HMULH.out _ A8 A9 A3 A4 k8 c8 k9 c9 k3 c3 k4 c4 hk8 hk9 (hW8.below hp5) (hW9.below hp5) hk3 hk4 hW3 hW4).mono ?_;rintro e v6 ⟨A5,k5,c5,A6,k6,c6,rfl,hk5,hk6,hW5,hW6,hF5,hF6,hb4⟩;have hp6:Kp W2 v6:=Kp.trans hp5 hb4;obtain ⟨q0'',q1'',q2'',q3'',-⟩:=(Kp.blk hp6 hBx).four;clear hb4 hF5 hF6)
    | (go_at_call 42;refine (HADDH.out _ A5 A6 k5 c5 k6 c6 (HCX.out.below hp6) hk5 hk6 hW5 hW6).mono ?_;rintro e v7 ⟨A7,k7,c7,B7,m7,d7,rfl,hk7,hm7,hW7,hV7,hF7,hG7,hb5⟩;have hp7:Kp W2 v7:=Kp.trans hp6 hb5;have hz7:=Below.size hp6;obtain ⟨i0,i1,i2,i3,i4,i5,i6,i7⟩:=(Kp.blk hp7 hBx).four;clear hb5))
   all_goals
    have e8:(((v7.setCell ⟨g,0,none⟩ (.bool (decide ((costAt l q (k+1)).num<0)))).setCell ⟨g,1,none⟩ (.slice A7 k7 c7)).setCell ⟨g,2,none⟩ (.bool false)).setCell ⟨g,3,none⟩ (.slice B7 m7 d7)=qst v7 g 0 (decide ((costAt l q (k+1)).num<0)) false A7 B7 k7 c7 m7 d7:=rfl;rw [e8];have hbx8:=Kp.blk hp7 hBx;have hz2:=hBw.size;have hfin:CstR w g gr n l q ps (k+1) A7 k7 c7 B7 m7 d7 (qst v7 g 0 (decide ((costAt l q (k+1)).num<0)) false A7 B7 k7 c7 m7 d7):=by
     refine ⟨below_qst (hBw.trans (Below.mono hp7 hBw.size)) (by omega),hbx8.put4,?_,(HROW.out.below hp7).far4 (by omega) hbx8 NoInt.four⟩;exact CQ.put4 ⟨hk7,hm7,hW7,hV7,hF7.mono (by omega),hG7.mono (by omega)⟩ hbx8 NoInt.four
    have hfin2:Blk (qst v7 g 0 (decide ((costAt l q (k+1)).num<0)) false A7 B7 k7 c7 m7 d7) (w.heap.size+1) 42 #[.bool false,.slice none 0 0,.bool false,.slice none 0 0]:=(Kp.blk hp7 hbRB).far4 (by omega);generalize qst v7 g 0 (decide ((costAt l q (k+1)).num<0)) false A7 B7 k7 c7 m7 d7=W8 at *;have HF:=Hj hfin;have HF2:=Hj hfin2;clear e8 hfin hfin2 hbx8 i0 i1 i2 i3 i4 i5 i6 i7 hp5 hp6 hp7 hW3 hW4 hW5 hW6 hW7 hV7 hF7 hG7 hk3 hk4 hk5 hk6 hk7 hm7 q0 q1 q2 q3 p0 p1 p2 p3 t1 hBw hBx hbRB hb7;go_wp2;go_roundw
    case rel=>exact ⟨k+1,A7,k7,c7,B7,m7,d7,by omega,by go_num,HF.out,HF2.out⟩
    case measure=>simp [intOf];omega
  ·obtain rfl:k=n:=by omega
   obtain ⟨hB,hBx,hCx,hRow⟩:=hR.out;have hbRB:=hRB.out;obtain ⟨q0,q1,q2,q3,-⟩:=hBx.four;obtain ⟨r0,r1,r2,r3,r4,r5,r6,r7⟩:=hbRB.four;have hfin:CstPost w (costAt l q k) (.returned (.tuple #[.agg #[.bool (decide ((costAt l q k).num<0)),.slice B bk bc,.bool false,.slice B' bk' bc'],.int .i64 0])) (qst wr (w.heap.size+1) 0 (decide ((costAt l q k).num<0)) false B B' bk bc bk' bc') :=
    ⟨B,bk,bc,B',bk',bc',rfl,hCx.put4 hbRB NoInt.four,below_qst hB (by omega)⟩
   have hb8:Blk (qst wr (w.heap.size+1) 0 (decide ((costAt l q k).num<0)) false B B' bk bc bk' bc') (w.heap.size+1) _ _:=hbRB.put4 (o:=0);have e8:(((wr.setCell ⟨w.heap.size+1,0,none⟩ (.bool (decide ((costAt l q k).num<0)))).setCell ⟨w.heap.size+1,1,none⟩ (.slice B bk bc)).setCell ⟨w.heap.size+1,2,none⟩ (.bool false)).setCell ⟨w.heap.size+1,3,none⟩ (.slice B' bk' bc')=qst wr (w.heap.size+1) 0 (decide ((costAt l q k).num<0)) false B B' bk bc bk' bc':=rfl;obtain ⟨d0,d1,d2,d3,-⟩:=Blk.four hb8;have HF:=Hj hfin;have HE:=Hj e8;clear hfin hb8 hR hRB hCx hRow hB e8;go_wp2;rw [HE.out];refine bodyPost_ret (v:=.tuple #[.agg #[.bool (decide ((costAt l q k).num<0)),.slice B bk bc,.bool false,.slice B' bk' bc'],.int .i64 0]) ?_ rfl HF.out;simp [results,Tryz.results41,go_sem,d0,d1,d2,d3]
end Go.Proofs.YtjajigkacccdgaaGreat
namespace Go.Proofs.YtjajigkacccdgaaGreat
namespace En
def qs:List (Int×Int)→Int
 | []=>0
 | s :: r=>s.1+qs r
structure PU where
 on:Bool
 mn:Int
 st:List (Int×Int)
end En
end Go.Proofs.YtjajigkacccdgaaGreat
namespace Go.Proofs.YtjajigkacccdgaaGreat
open Go.RowKit
open Wd
def restI (l:List (Int×Int)) (z:Int):Nat→Int
 | 0=>z
 | k+1=>restI l z k-min (restI l z k) (l[k]?.getD (0,0)).1
def partI (l:List (Int×Int)) (z:Int) (k:Nat):Int:=min (restI l z k) (l[k]?.getD (0,0)).1
def costI (l:List (Int×Int)) (z:Int):Nat→Int
 | 0=>0
 | k+1=>costI l z k+partI l z k*(l[k]?.getD (0,0)).2
theorem lessQ_whole (z a:Int):lessQ (z:Rat) a=((min z a:Int):Rat):=by
 unfold lessQ;by_cases h:a<z
 ·rw [if_pos (by exact_mod_cast h),show min z a=a by omega]
 ·rw [if_neg (by intro hh;exact h (by exact_mod_cast hh)),show min z a=z by omega]
theorem restAt_whole (l:List (Int×Int)) (z:Int):∀ k,restAt l (z:Rat) k=((restI l z k:Int):Rat)
 | 0=>rfl
 | k+1=>by rw [restAt,restI,restAt_whole l z k,lessQ_whole,Rat.intCast_sub]
theorem partAt_whole (l:List (Int×Int)) (z:Int) (k:Nat):partAt l (z:Rat) k=((partI l z k:Int):Rat):=by
 rw [partAt,partI,restAt_whole,lessQ_whole]
theorem prod_whole (l:List (Int×Int)) (z:Int) (k:Nat):partAt l (z:Rat) k*(((l[k]?.getD (0,0)).2:Int):Rat)=((partI l z k*(l[k]?.getD (0,0)).2:Int):Rat):=by
 rw [partAt_whole,Rat.intCast_mul]
theorem costAt_whole (l:List (Int×Int)) (z:Int):∀ k,costAt l (z:Rat) k=((costI l z k:Int):Rat)
 | 0=>rfl
 | k+1=>by rw [costAt,costI,costAt_whole l z k,prod_whole,Rat.intCast_add]
end Go.Proofs.YtjajigkacccdgaaGreat
