/-
Lemmas of the walk; no further conditions.
-/
import Derived.Test.YtjajigkacccdgaaGreatTiAF
set_option linter.unusedVariables false
set_option linter.unusedSimpArgs false
set_option maxRecDepth 100000
set_option maxHeartbeats 16000000
namespace Go.Proofs.YtjajigkacccdgaaGreat
open Go.RowKit
open Wd
def QAt (Nn Nd:Nat) (w:World) (neg:Bool) (A:Option Addr) (n c:Nat) (neg':Bool) (A':Option Addr) (n' c':Nat) (q:Rat):Prop :=
 ∃ na da,QIn w neg A n c neg' A' n' c' na da∧(qnum na da).natAbs<Nn∧(qden da).natAbs<Nd∧q=mkRat (qnum na da) (qden da).natAbs
theorem QAt.below {Nn Nd:Nat} {w w':World} {neg neg':Bool} {A A':Option Addr} {n c n' c':Nat} {q:Rat} (h:QAt Nn Nd w neg A n c neg' A' n' c' q) (hb:Below w.heap.size w w'):QAt Nn Nd w' neg A n c neg' A' n' c' q:=by
 obtain ⟨na,da,h1,h2⟩:=h;exact ⟨na,da,h1.below hb,h2⟩
theorem qat_canon {Nn Nd:Nat} {w:World} {A A':Option Addr} {k c k' c':Nat} {q:Rat} (hk:k≤c) (hk':k'≤c') (hW:Wat w A k (digs q.num.natAbs)) (hW':Wat w A' k' (denW q.den)) (hl:k≤10000000000) (hl':k'≤10000000000) (hn:q.num.natAbs<Nn) (hd:q.den<Nd) :
  QAt Nn Nd w (decide (q.num<0)) A k c false A' k' c' q:=by
 by_cases h1:q.den=1
 ·rw [h1,show denW 1=[] from rfl] at hW';refine ⟨q.num,0,⟨_,_,hW,hW',hk,hk',hl,hl',by rw [val_digs,sg_self],rfl⟩,?_,?_,?_⟩
  ·unfold qnum;rw [if_neg (by omega)];exact hn
  ·rw [h1] at hd;exact hd
  ·unfold qnum;rw [if_neg (by omega),show (qden 0).natAbs=1 from rfl,← h1,Rat.mkRat_self]
 ·have hdw:denW q.den=digs q.den:=by unfold denW;rw [if_neg h1]
  rw [hdw] at hW';have hdn:=q.den_nz;have hq:qden ((q.den:Nat):Int)=q.den:=by unfold qden;rw [if_neg (by omega),if_neg (by omega)]
  refine ⟨q.num,q.den,⟨_,_,hW,hW',hk,hk',hl,hl',by rw [val_digs,sg_self],by rw [val_digs];rfl⟩,?_,?_,?_⟩
  ·unfold qnum;rw [if_neg (by omega)];exact hn
  ·rw [hq,Int.natAbs_natCast];exact hd
  ·rw [hq,Int.natAbs_natCast];unfold qnum;rw [if_neg (by omega),Rat.mkRat_self]
theorem small_mul {a b:Int} (ha:Small a) (hb:Small b) : -4611686014132420609≤a*b∧a*b≤4611686014132420609:=by
 have h1:(a*b).natAbs=a.natAbs*b.natAbs:=Int.natAbs_mul a b;have h2:a.natAbs*b.natAbs≤2147483647*2147483647:=Nat.mul_le_mul (by unfold Small at ha;omega) (by unfold Small at hb;omega);omega
theorem small_num {na da:Int} (h:Small na):Small (qnum na da):=by unfold qnum Small at *;split<;>omega
theorem small_den {da:Int} (h:Small da):Small (qden da):=by unfold qden Small at *;split<;>(try split)<;>omega
theorem den_nz (da:Int):(qden da).natAbs≠0:=by have:=qden_pos da;omega
theorem wrap_in (x:Int) (h1 : -9223372036854775807≤x) (h2:x≤9223372036854775807):IntKind.i64.wrap x=x∧wrap64 x=x:=wrap_fit x ⟨h1,h2⟩
theorem rat_add (n1 n2 d1 d2:Int) (h1:0<d1) (h2:0<d2):mkRat n1 d1.natAbs+mkRat n2 d2.natAbs=mkRat (n1*d2+n2*d1) (d1*d2).natAbs:=by
 rw [Rat.mkRat_add_mkRat _ _ (by omega) (by omega),Int.natAbs_mul,show ((d2.natAbs:Nat):Int)=d2 by omega,show ((d1.natAbs:Nat):Int)=d1 by omega]
theorem rat_sub (n1 n2 d1 d2:Int) (h1:0<d1) (h2:0<d2):mkRat n1 d1.natAbs-mkRat n2 d2.natAbs=mkRat (n1*d2-n2*d1) (d1*d2).natAbs:=by
 rw [Rat.sub_eq_add_neg,Rat.neg_mkRat,rat_add _ _ _ _ h1 h2,Int.neg_mul,Int.sub_eq_add_neg]
theorem rat_mul (n1 n2 d1 d2:Int):mkRat n1 d1.natAbs*mkRat n2 d2.natAbs=mkRat (n1*n2) (d1*d2).natAbs:=by
 rw [Rat.mkRat_mul_mkRat,Int.natAbs_mul]
theorem bound_mul {a b:Int} {N K M:Nat} (ha:a.natAbs<N) (hb:b.natAbs<K) (h:N*K≤M):(a*b).natAbs<M:=by
 rw [Int.natAbs_mul];rcases Nat.eq_zero_or_pos b.natAbs with h0|h0
 ·rw [h0,Nat.mul_zero];have:0<N*K:=Nat.mul_pos (by omega) (by omega);omega
 ·exact Nat.lt_of_lt_of_le (Nat.lt_of_lt_of_le (Nat.mul_lt_mul_of_pos_right ha h0) (Nat.mul_le_mul_left N (Nat.le_of_lt hb))) h
theorem bound_mul2 {a b:Int} {N K M:Nat} (ha:a.natAbs<N) (hb:b.natAbs<K) (h:2*(N*K)≤M):2*(a*b).natAbs<M:=by
 have:=bound_mul (M:=N*K) ha hb (Nat.le_refl _);omega
theorem qadd_any (M Nn Nd:Nat) (HO:WOK M) (hnd:2*(Nn*Nd)≤M) (hdd:Nd*Nd≤M) (an an' bn bn':Bool) (aA aA' bA bA':Option Addr) (ak ac ak' ac' bk bc bk' bc':Nat) (qa qb:Rat) (w:World)
  (ha:QAt Nn Nd w an aA ak ac an' aA' ak' ac' qa) (hb:QAt Nn Nd w bn bA bk bc bn' bA' bk' bc' qb) :
  Calls Tryz.prog 42 #[.agg #[.bool an,.slice aA ak ac,.bool an',.slice aA' ak' ac'],.agg #[.bool bn,.slice bA bk bc,.bool bn',.slice bA' bk' bc']] w (RetQ w (qa+qb)):=by
 obtain ⟨na,da,hia,hna,hda,rfl⟩:=ha;obtain ⟨nb,db,hib,hnb,hdb,rfl⟩:=hb;rw [rat_add _ _ _ _ (qden_pos da) (qden_pos db)];have S1:=fun W hW=>short_in (w:=W) (h:=hia.below (w':=W) hW);have S2:=fun W hW=>short_in (w:=W) (h:=hib.below (w':=W) hW);have hC:=fun W (hW:Below w.heap.size w W)=>calc_add M HO an an' bn bn' aA aA' bA bA' ak ac ak' ac' bk bc bk' bc' na da nb db W (hia.below hW) (hib.below hW) (by have:=bound_mul2 hna hdb hnd;omega) (by have:=bound_mul2 hnb hda hnd;omega) (by have h1:=bound_mul2 hna hdb hnd;have h2:=bound_mul2 hnb hda hnd;omega) (bound_mul hda hdb hdd);have hsm:Small na∧Small da→Small nb∧Small db→Small (qnum na da)∧Small (qden da)∧Small (qnum nb db)∧Small (qden db):=fun h1 h2=>⟨small_num h1.1,small_den h1.2,small_num h2.1,small_den h2.2⟩;have hp1:=qden_pos da;have hp2:=qden_pos db;unfold ShortPost at S1 S2;generalize qnum na da=x1 at *;generalize qden da=x2 at *;generalize qnum nb db=x3 at *;generalize qden db=x4 at *;have S1:=Hj S1;have S2:=Hj S2;have HC:=Hj hC;have HSM:=Hj hsm;clear hC hsm hna hda hnb hdb;go_enter Tryz.func42,Tryz.ntmps42
 go_wp2_with fail
 obtain ⟨hB0,hB1,hB2,hBW,hsz⟩:=pre3 w 42 #[.bool an,.slice aA ak ac,.bool an',.slice aA' ak' ac'] 42 #[.bool bn,.slice bA bk bc,.bool bn',.slice bA' bk' bc'] 42 #[.bool false,.slice none 0 0,.bool false,.slice none 0 0];generalize ((w.alloc (.cells #[.bool an,.slice aA ak ac,.bool an',.slice aA' ak' ac'] 42)).alloc (.cells #[.bool bn,.slice bA bk bc,.bool bn',.slice bA' bk' bc'] 42)).alloc (.cells #[.bool false,.slice none 0 0,.bool false,.slice none 0 0] 42)=W at *;have HSZ:=Hj hsz;clear hsz;refine (S1.out W hBW).mono ?_;rintro e w1 ⟨hs1,hb1⟩;have hB0:=hB0.below hb1 hB0.lt;have hB1:=hB1.below hb1 hB1.lt;have hB2:=hB2.below hb1 hB2.lt;have hb1:Below w.heap.size w w1:=hBW.trans (hb1.mono hBW.size);obtain ⟨c0,c1,c2,c3,-,-,-,-⟩:=hB1.four;clear hBW HSZ S1;have T2:=S2.out w1 hb1;have T2:=Hj T2;rcases hs1 with ⟨hsa,hsa',rfl⟩|⟨hsa,rfl⟩
 ·have HSA:=Hj (And.intro hsa hsa');clear hsa hsa'
  go_wp2_with fail
  refine T2.out.mono ?_;rintro e w2 ⟨hs2,hb2⟩;have hB0:=hB0.below hb2 hB0.lt;have hB1:=hB1.below hb2 hB1.lt;have hB2:=hB2.below hb2 hB2.lt;have hb2:Below w.heap.size w w2:=hb1.trans (hb2.mono hb1.size);have hz2:w.heap.size+1+1+1≤w2.heap.size:=hB2.lt;clear c0 c1 c2 c3 hb1 S2 T2;rcases hs2 with ⟨hsb,hsb',rfl⟩|⟨hsb,rfl⟩
  ·obtain ⟨h1,h2,h3,h4⟩:=HSM.out HSA.out ⟨hsb,hsb'⟩;have k1:=small_mul h1 h4;have k2:=small_mul h3 h2;have k3:=small_mul h2 h4;have hdp:0<x2*x4:=Int.mul_pos hp1 hp2;have e1:(x2*x4).toNat=(x2*x4).natAbs:=by omega
   have hR:=fun W=>ratio_any (x1*x4+x3*x2) (x2*x4) W (by unfold Fit63;omega) hdp (by omega);rw [e1] at hR;generalize mkRat (x1*x4+x3*x2) (x2*x4).natAbs=q at *;have v1:=wrap_in (x1*x4) (by omega) (by omega);have v2:=wrap_in (x3*x2) (by omega) (by omega);have v3:=wrap_in (x2*x4) (by omega) (by omega);have v4:=wrap_in (x1*x4+x3*x2) (by omega) (by omega);obtain ⟨v1,v1'⟩:=v1;obtain ⟨v2,v2'⟩:=v2;obtain ⟨v3,v3'⟩:=v3;obtain ⟨v4,v4'⟩:=v4;have HR:=Hj hR;clear k1 k2 k3 hdp e1 h1 h2 h3 h4 hsb hsb' HSA HSM HC hR
   go_wp2_with fail
   refine (HR.out w2).mono ?_;clear v1 v2 v3 v4 v1' v2' v3' v4';rintro e w3 ⟨A3,k3,c3,A4,k4,c4,rfl,hk3,hk4,hW3,hW4,hF3,hF4,hb3⟩;have hr3:=(RS4.start hB2).call hb3;obtain ⟨_,_,_,_,i0,i1,i2,i3,i4,i5,i6,i7⟩:=hr3.four;have hBW:=hb2;have HSZ:Hid True:=trivial;have hfin:=retQ_close hBW (by omega) (by have:=HSZ.out;omega) hr3 hk3 hk4 hW3 hW4 hF3 hF4;obtain ⟨d0,d1,d2,d3,-,-,-,-⟩:=(hr3.done (.bool (decide ((q).num<0))) (.slice A3 k3 c3) (.bool false) (.slice A4 k4 c4)).four;have HF:=Hj hfin;clear hfin hB0 hB1 hB2 HSZ;go_wp2;refine bodyPost_ret (v:=.agg #[.bool (decide ((q).num<0)),.slice A3 k3 c3,.bool false,.slice A4 k4 c4]) ?_ rfl HF.out;simp [results,Tryz.results42,go_sem,d0,d1,d2,d3]
  ·have HSB:=Hj hsb;obtain ⟨c0,c1,c2,c3,-,-,-,-⟩:=hB0.four;obtain ⟨e0,e1,e2,e3,-,-,-,-⟩:=hB1.four;clear hsb HSB HSA HSM
   go_wp2_with fail
   refine (HC.out w2 hb2).mono ?_;generalize mkRat (x1*x4+x3*x2) (x2*x4).natAbs=q at *;rintro e w3 ⟨A3,k3,c3,A4,k4,c4,rfl,hk3,hk4,hW3,hW4,hF3,hF4,hb3⟩;have hr3:=(RS4.start hB2).call hb3;obtain ⟨_,_,_,_,i0,i1,i2,i3,i4,i5,i6,i7⟩:=hr3.four;have hBW:=hb2;have HSZ:Hid True:=trivial;have hfin:=retQ_close hBW (by omega) (by have:=HSZ.out;omega) hr3 hk3 hk4 hW3 hW4 hF3 hF4;obtain ⟨d0,d1,d2,d3,-,-,-,-⟩:=(hr3.done (.bool (decide ((q).num<0))) (.slice A3 k3 c3) (.bool false) (.slice A4 k4 c4)).four;have HF:=Hj hfin;clear hfin hB0 hB1 hB2 HSZ c0 c1 c2 e0 e1 e2 e3;go_wp2;refine bodyPost_ret (v:=.agg #[.bool (decide ((q).num<0)),.slice A3 k3 c3,.bool false,.slice A4 k4 c4]) ?_ rfl HF.out;simp [results,Tryz.results42,go_sem,d0,d1,d2,d3]
 ·have HSA:=Hj hsa;clear hsa
  go_wp2_with fail
  refine T2.out.mono ?_;rintro e w2 ⟨hs2,hb2⟩;have hB0:=hB0.below hb2 hB0.lt;have hB1:=hB1.below hb2 hB1.lt;have hB2:=hB2.below hb2 hB2.lt;have hb2:Below w.heap.size w w2:=hb1.trans (hb2.mono hb1.size);have hz2:w.heap.size+1+1+1≤w2.heap.size:=hB2.lt;clear c0 c1 c2 c3 hb1 S2 T2;have hs3:(∃ y1 y2 y3,e=.returned (.tuple #[.int .i64 y1,.int .i64 y2,.bool y3])):=by
   rcases hs2 with ⟨_,_,rfl⟩|⟨_,rfl⟩
   ·exact ⟨_,_,_,rfl⟩
   ·exact ⟨_,_,_,rfl⟩
  obtain ⟨y1,y2,y3,rfl⟩:=hs3;clear hs2;obtain ⟨c0,c1,c2,c3,-,-,-,-⟩:=hB0.four;obtain ⟨e0,e1,e2,e3,-,-,-,-⟩:=hB1.four;clear HSA HSM
  go_wp2_with fail
  refine (HC.out w2 hb2).mono ?_;generalize mkRat (x1*x4+x3*x2) (x2*x4).natAbs=q at *;rintro e w3 ⟨A3,k3,c3,A4,k4,c4,rfl,hk3,hk4,hW3,hW4,hF3,hF4,hb3⟩;have hr3:=(RS4.start hB2).call hb3;obtain ⟨_,_,_,_,i0,i1,i2,i3,i4,i5,i6,i7⟩:=hr3.four;have hBW:=hb2;have HSZ:Hid True:=trivial;have hfin:=retQ_close hBW (by omega) (by have:=HSZ.out;omega) hr3 hk3 hk4 hW3 hW4 hF3 hF4;obtain ⟨d0,d1,d2,d3,-,-,-,-⟩:=(hr3.done (.bool (decide ((q).num<0))) (.slice A3 k3 c3) (.bool false) (.slice A4 k4 c4)).four;have HF:=Hj hfin;clear hfin hB0 hB1 hB2 HSZ c0 c1 c2 e0 e1 e2 e3;go_wp2;refine bodyPost_ret (v:=.agg #[.bool (decide ((q).num<0)),.slice A3 k3 c3,.bool false,.slice A4 k4 c4]) ?_ rfl HF.out;simp [results,Tryz.results42,go_sem,d0,d1,d2,d3]
theorem qsub_any (M Nn Nd:Nat) (HO:WOK M) (hnd:2*(Nn*Nd)≤M) (hdd:Nd*Nd≤M) (an an' bn bn':Bool) (aA aA' bA bA':Option Addr) (ak ac ak' ac' bk bc bk' bc':Nat) (qa qb:Rat) (w:World)
  (ha:QAt Nn Nd w an aA ak ac an' aA' ak' ac' qa) (hb:QAt Nn Nd w bn bA bk bc bn' bA' bk' bc' qb) :
  Calls Tryz.prog 55 #[.agg #[.bool an,.slice aA ak ac,.bool an',.slice aA' ak' ac'],.agg #[.bool bn,.slice bA bk bc,.bool bn',.slice bA' bk' bc']] w (RetQ w (qa-qb)):=by
 obtain ⟨na,da,hia,hna,hda,rfl⟩:=ha;obtain ⟨nb,db,hib,hnb,hdb,rfl⟩:=hb;rw [rat_sub _ _ _ _ (qden_pos da) (qden_pos db)];have S1:=fun W hW=>short_in (w:=W) (h:=hia.below (w':=W) hW);have S2:=fun W hW=>short_in (w:=W) (h:=hib.below (w':=W) hW);have hC:=fun W (hW:Below w.heap.size w W)=>calc_sub M HO an an' bn bn' aA aA' bA bA' ak ac ak' ac' bk bc bk' bc' na da nb db W (hia.below hW) (hib.below hW) (by have:=bound_mul2 hna hdb hnd;omega) (by have:=bound_mul2 hnb hda hnd;omega) (by have h1:=bound_mul2 hna hdb hnd;have h2:=bound_mul2 hnb hda hnd;omega) (bound_mul hda hdb hdd);have hsm:Small na∧Small da→Small nb∧Small db→Small (qnum na da)∧Small (qden da)∧Small (qnum nb db)∧Small (qden db):=fun h1 h2=>⟨small_num h1.1,small_den h1.2,small_num h2.1,small_den h2.2⟩;have hp1:=qden_pos da;have hp2:=qden_pos db;unfold ShortPost at S1 S2;generalize qnum na da=x1 at *;generalize qden da=x2 at *;generalize qnum nb db=x3 at *;generalize qden db=x4 at *;have S1:=Hj S1;have S2:=Hj S2;have HC:=Hj hC;have HSM:=Hj hsm;clear hC hsm hna hda hnb hdb;go_enter Tryz.func55,Tryz.ntmps55
 go_wp2_with fail
 obtain ⟨hB0,hB1,hB2,hBW,hsz⟩:=pre3 w 42 #[.bool an,.slice aA ak ac,.bool an',.slice aA' ak' ac'] 42 #[.bool bn,.slice bA bk bc,.bool bn',.slice bA' bk' bc'] 42 #[.bool false,.slice none 0 0,.bool false,.slice none 0 0];generalize ((w.alloc (.cells #[.bool an,.slice aA ak ac,.bool an',.slice aA' ak' ac'] 42)).alloc (.cells #[.bool bn,.slice bA bk bc,.bool bn',.slice bA' bk' bc'] 42)).alloc (.cells #[.bool false,.slice none 0 0,.bool false,.slice none 0 0] 42)=W at *;have HSZ:=Hj hsz;clear hsz;refine (S1.out W hBW).mono ?_;rintro e w1 ⟨hs1,hb1⟩;have hB0:=hB0.below hb1 hB0.lt;have hB1:=hB1.below hb1 hB1.lt;have hB2:=hB2.below hb1 hB2.lt;have hb1:Below w.heap.size w w1:=hBW.trans (hb1.mono hBW.size);obtain ⟨c0,c1,c2,c3,-,-,-,-⟩:=hB1.four;clear hBW HSZ S1;have T2:=S2.out w1 hb1;have T2:=Hj T2;rcases hs1 with ⟨hsa,hsa',rfl⟩|⟨hsa,rfl⟩
 ·have HSA:=Hj (And.intro hsa hsa');clear hsa hsa'
  go_wp2_with fail
  refine T2.out.mono ?_;rintro e w2 ⟨hs2,hb2⟩;have hB0:=hB0.below hb2 hB0.lt;have hB1:=hB1.below hb2 hB1.lt;have hB2:=hB2.below hb2 hB2.lt;have hb2:Below w.heap.size w w2:=hb1.trans (hb2.mono hb1.size);have hz2:w.heap.size+1+1+1≤w2.heap.size:=hB2.lt;clear c0 c1 c2 c3 hb1 S2 T2;rcases hs2 with ⟨hsb,hsb',rfl⟩|⟨hsb,rfl⟩
  ·obtain ⟨h1,h2,h3,h4⟩:=HSM.out HSA.out ⟨hsb,hsb'⟩;have k1:=small_mul h1 h4;have k2:=small_mul h3 h2;have k3:=small_mul h2 h4;have hdp:0<x2*x4:=Int.mul_pos hp1 hp2;have e1:(x2*x4).toNat=(x2*x4).natAbs:=by omega
   have hR:=fun W=>ratio_any (x1*x4-x3*x2) (x2*x4) W (by unfold Fit63;omega) hdp (by omega);rw [e1] at hR;generalize mkRat (x1*x4-x3*x2) (x2*x4).natAbs=q at *;have v1:=wrap_in (x1*x4) (by omega) (by omega);have v2:=wrap_in (x3*x2) (by omega) (by omega);have v3:=wrap_in (x2*x4) (by omega) (by omega);have v4:=wrap_in (x1*x4-x3*x2) (by omega) (by omega);obtain ⟨v1,v1'⟩:=v1;obtain ⟨v2,v2'⟩:=v2;obtain ⟨v3,v3'⟩:=v3;obtain ⟨v4,v4'⟩:=v4;have HR:=Hj hR;clear k1 k2 k3 hdp e1 h1 h2 h3 h4 hsb hsb' HSA HSM HC hR
   go_wp2_with fail
   refine (HR.out w2).mono ?_;clear v1 v2 v3 v4 v1' v2' v3' v4';rintro e w3 ⟨A3,k3,c3,A4,k4,c4,rfl,hk3,hk4,hW3,hW4,hF3,hF4,hb3⟩;have hr3:=(RS4.start hB2).call hb3;obtain ⟨_,_,_,_,i0,i1,i2,i3,i4,i5,i6,i7⟩:=hr3.four;have hBW:=hb2;have HSZ:Hid True:=trivial;have hfin:=retQ_close hBW (by omega) (by have:=HSZ.out;omega) hr3 hk3 hk4 hW3 hW4 hF3 hF4;obtain ⟨d0,d1,d2,d3,-,-,-,-⟩:=(hr3.done (.bool (decide ((q).num<0))) (.slice A3 k3 c3) (.bool false) (.slice A4 k4 c4)).four;have HF:=Hj hfin;clear hfin hB0 hB1 hB2 HSZ;go_wp2;refine bodyPost_ret (v:=.agg #[.bool (decide ((q).num<0)),.slice A3 k3 c3,.bool false,.slice A4 k4 c4]) ?_ rfl HF.out;simp [results,Tryz.results55,go_sem,d0,d1,d2,d3]
  ·have HSB:=Hj hsb;obtain ⟨c0,c1,c2,c3,-,-,-,-⟩:=hB0.four;obtain ⟨e0,e1,e2,e3,-,-,-,-⟩:=hB1.four;clear hsb HSB HSA HSM
   go_wp2_with fail
   refine (HC.out w2 hb2).mono ?_;generalize mkRat (x1*x4-x3*x2) (x2*x4).natAbs=q at *;rintro e w3 ⟨A3,k3,c3,A4,k4,c4,rfl,hk3,hk4,hW3,hW4,hF3,hF4,hb3⟩;have hr3:=(RS4.start hB2).call hb3;obtain ⟨_,_,_,_,i0,i1,i2,i3,i4,i5,i6,i7⟩:=hr3.four;have hBW:=hb2;have HSZ:Hid True:=trivial;have hfin:=retQ_close hBW (by omega) (by have:=HSZ.out;omega) hr3 hk3 hk4 hW3 hW4 hF3 hF4;obtain ⟨d0,d1,d2,d3,-,-,-,-⟩:=(hr3.done (.bool (decide ((q).num<0))) (.slice A3 k3 c3) (.bool false) (.slice A4 k4 c4)).four;have HF:=Hj hfin;clear hfin hB0 hB1 hB2 HSZ c0 c1 c2 e0 e1 e2 e3;go_wp2;refine bodyPost_ret (v:=.agg #[.bool (decide ((q).num<0)),.slice A3 k3 c3,.bool false,.slice A4 k4 c4]) ?_ rfl HF.out;simp [results,Tryz.results55,go_sem,d0,d1,d2,d3]
 ·have HSA:=Hj hsa;clear hsa
  go_wp2_with fail
  refine T2.out.mono ?_;rintro e w2 ⟨hs2,hb2⟩;have hB0:=hB0.below hb2 hB0.lt;have hB1:=hB1.below hb2 hB1.lt;have hB2:=hB2.below hb2 hB2.lt;have hb2:Below w.heap.size w w2:=hb1.trans (hb2.mono hb1.size);have hz2:w.heap.size+1+1+1≤w2.heap.size:=hB2.lt;clear c0 c1 c2 c3 hb1 S2 T2;have hs3:(∃ y1 y2 y3,e=.returned (.tuple #[.int .i64 y1,.int .i64 y2,.bool y3])):=by
   rcases hs2 with ⟨_,_,rfl⟩|⟨_,rfl⟩
   ·exact ⟨_,_,_,rfl⟩
   ·exact ⟨_,_,_,rfl⟩
  obtain ⟨y1,y2,y3,rfl⟩:=hs3;clear hs2;obtain ⟨c0,c1,c2,c3,-,-,-,-⟩:=hB0.four;obtain ⟨e0,e1,e2,e3,-,-,-,-⟩:=hB1.four;clear HSA HSM
  go_wp2_with fail
  refine (HC.out w2 hb2).mono ?_;generalize mkRat (x1*x4-x3*x2) (x2*x4).natAbs=q at *;rintro e w3 ⟨A3,k3,c3,A4,k4,c4,rfl,hk3,hk4,hW3,hW4,hF3,hF4,hb3⟩;have hr3:=(RS4.start hB2).call hb3;obtain ⟨_,_,_,_,i0,i1,i2,i3,i4,i5,i6,i7⟩:=hr3.four;have hBW:=hb2;have HSZ:Hid True:=trivial;have hfin:=retQ_close hBW (by omega) (by have:=HSZ.out;omega) hr3 hk3 hk4 hW3 hW4 hF3 hF4;obtain ⟨d0,d1,d2,d3,-,-,-,-⟩:=(hr3.done (.bool (decide ((q).num<0))) (.slice A3 k3 c3) (.bool false) (.slice A4 k4 c4)).four;have HF:=Hj hfin;clear hfin hB0 hB1 hB2 HSZ c0 c1 c2 e0 e1 e2 e3;go_wp2;refine bodyPost_ret (v:=.agg #[.bool (decide ((q).num<0)),.slice A3 k3 c3,.bool false,.slice A4 k4 c4]) ?_ rfl HF.out;simp [results,Tryz.results55,go_sem,d0,d1,d2,d3]
theorem qmulq_any (M Nn Nd:Nat) (HO:WOK M) (hnd:Nn*Nn≤M) (hdd:Nd*Nd≤M) (an an' bn bn':Bool) (aA aA' bA bA':Option Addr) (ak ac ak' ac' bk bc bk' bc':Nat) (qa qb:Rat) (w:World)
  (ha:QAt Nn Nd w an aA ak ac an' aA' ak' ac' qa) (hb:QAt Nn Nd w bn bA bk bc bn' bA' bk' bc' qb) :
  Calls Tryz.prog 54 #[.agg #[.bool an,.slice aA ak ac,.bool an',.slice aA' ak' ac'],.agg #[.bool bn,.slice bA bk bc,.bool bn',.slice bA' bk' bc']] w (RetQ w (qa*qb)):=by
 obtain ⟨na,da,hia,hna,hda,rfl⟩:=ha;obtain ⟨nb,db,hib,hnb,hdb,rfl⟩:=hb;rw [rat_mul];have S1:=fun W hW=>short_in (w:=W) (h:=hia.below (w':=W) hW);have S2:=fun W hW=>short_in (w:=W) (h:=hib.below (w':=W) hW);have hC:=fun W (hW:Below w.heap.size w W)=>calc_mul M HO an an' bn bn' aA aA' bA bA' ak ac ak' ac' bk bc bk' bc' na da nb db W (hia.below hW) (hib.below hW) (bound_mul hna hnb hnd) (bound_mul hda hdb hdd);have hsm:Small na∧Small da→Small nb∧Small db→Small (qnum na da)∧Small (qden da)∧Small (qnum nb db)∧Small (qden db):=fun h1 h2=>⟨small_num h1.1,small_den h1.2,small_num h2.1,small_den h2.2⟩;have hp1:=qden_pos da;have hp2:=qden_pos db;unfold ShortPost at S1 S2;generalize qnum na da=x1 at *;generalize qden da=x2 at *;generalize qnum nb db=x3 at *;generalize qden db=x4 at *;have S1:=Hj S1;have S2:=Hj S2;have HC:=Hj hC;have HSM:=Hj hsm;clear hC hsm hna hda hnb hdb;go_enter Tryz.func54,Tryz.ntmps54
 go_wp2_with fail
 obtain ⟨hB0,hB1,hB2,hBW,hsz⟩:=pre3 w 42 #[.bool an,.slice aA ak ac,.bool an',.slice aA' ak' ac'] 42 #[.bool bn,.slice bA bk bc,.bool bn',.slice bA' bk' bc'] 42 #[.bool false,.slice none 0 0,.bool false,.slice none 0 0];generalize ((w.alloc (.cells #[.bool an,.slice aA ak ac,.bool an',.slice aA' ak' ac'] 42)).alloc (.cells #[.bool bn,.slice bA bk bc,.bool bn',.slice bA' bk' bc'] 42)).alloc (.cells #[.bool false,.slice none 0 0,.bool false,.slice none 0 0] 42)=W at *;have HSZ:=Hj hsz;clear hsz;refine (S1.out W hBW).mono ?_;rintro e w1 ⟨hs1,hb1⟩;have hB0:=hB0.below hb1 hB0.lt;have hB1:=hB1.below hb1 hB1.lt;have hB2:=hB2.below hb1 hB2.lt;have hb1:Below w.heap.size w w1:=hBW.trans (hb1.mono hBW.size);obtain ⟨c0,c1,c2,c3,-,-,-,-⟩:=hB1.four;clear hBW HSZ S1;have T2:=S2.out w1 hb1;have T2:=Hj T2;rcases hs1 with ⟨hsa,hsa',rfl⟩|⟨hsa,rfl⟩
 ·have HSA:=Hj (And.intro hsa hsa');clear hsa hsa'
  go_wp2_with fail
  refine T2.out.mono ?_;rintro e w2 ⟨hs2,hb2⟩;have hB0:=hB0.below hb2 hB0.lt;have hB1:=hB1.below hb2 hB1.lt;have hB2:=hB2.below hb2 hB2.lt;have hb2:Below w.heap.size w w2:=hb1.trans (hb2.mono hb1.size);have hz2:w.heap.size+1+1+1≤w2.heap.size:=hB2.lt;clear c0 c1 c2 c3 hb1 S2 T2;rcases hs2 with ⟨hsb,hsb',rfl⟩|⟨hsb,rfl⟩
  ·obtain ⟨h1,h2,h3,h4⟩:=HSM.out HSA.out ⟨hsb,hsb'⟩;have k1:=small_mul h1 h3;have k2:=small_mul h1 h3;have k3:=small_mul h2 h4;have hdp:0<x2*x4:=Int.mul_pos hp1 hp2;have e1:(x2*x4).toNat=(x2*x4).natAbs:=by omega
   have hR:=fun W=>ratio_any (x1*x3) (x2*x4) W (by unfold Fit63;omega) hdp (by omega);rw [e1] at hR;generalize mkRat (x1*x3) (x2*x4).natAbs=q at *;have v1:=wrap_in (x1*x3) (by omega) (by omega);have v2:=wrap_in (x1*x3) (by omega) (by omega);have v3:=wrap_in (x2*x4) (by omega) (by omega);have v4:=wrap_in (x1*x3) (by omega) (by omega);obtain ⟨v1,v1'⟩:=v1;obtain ⟨v2,v2'⟩:=v2;obtain ⟨v3,v3'⟩:=v3;obtain ⟨v4,v4'⟩:=v4;have HR:=Hj hR;clear k1 k2 k3 hdp e1 h1 h2 h3 h4 hsb hsb' HSA HSM HC hR
   go_wp2_with fail
   refine (HR.out w2).mono ?_;clear v1 v2 v3 v4 v1' v2' v3' v4';rintro e w3 ⟨A3,k3,c3,A4,k4,c4,rfl,hk3,hk4,hW3,hW4,hF3,hF4,hb3⟩;have hr3:=(RS4.start hB2).call hb3;obtain ⟨_,_,_,_,i0,i1,i2,i3,i4,i5,i6,i7⟩:=hr3.four;have hBW:=hb2;have HSZ:Hid True:=trivial;have hfin:=retQ_close hBW (by omega) (by have:=HSZ.out;omega) hr3 hk3 hk4 hW3 hW4 hF3 hF4;obtain ⟨d0,d1,d2,d3,-,-,-,-⟩:=(hr3.done (.bool (decide ((q).num<0))) (.slice A3 k3 c3) (.bool false) (.slice A4 k4 c4)).four;have HF:=Hj hfin;clear hfin hB0 hB1 hB2 HSZ;go_wp2;refine bodyPost_ret (v:=.agg #[.bool (decide ((q).num<0)),.slice A3 k3 c3,.bool false,.slice A4 k4 c4]) ?_ rfl HF.out;simp [results,Tryz.results54,go_sem,d0,d1,d2,d3]
  ·have HSB:=Hj hsb;obtain ⟨c0,c1,c2,c3,-,-,-,-⟩:=hB0.four;obtain ⟨e0,e1,e2,e3,-,-,-,-⟩:=hB1.four;clear hsb HSB HSA HSM
   go_wp2_with fail
   refine (HC.out w2 hb2).mono ?_;generalize mkRat (x1*x3) (x2*x4).natAbs=q at *;rintro e w3 ⟨A3,k3,c3,A4,k4,c4,rfl,hk3,hk4,hW3,hW4,hF3,hF4,hb3⟩;have hr3:=(RS4.start hB2).call hb3;obtain ⟨_,_,_,_,i0,i1,i2,i3,i4,i5,i6,i7⟩:=hr3.four;have hBW:=hb2;have HSZ:Hid True:=trivial;have hfin:=retQ_close hBW (by omega) (by have:=HSZ.out;omega) hr3 hk3 hk4 hW3 hW4 hF3 hF4;obtain ⟨d0,d1,d2,d3,-,-,-,-⟩:=(hr3.done (.bool (decide ((q).num<0))) (.slice A3 k3 c3) (.bool false) (.slice A4 k4 c4)).four;have HF:=Hj hfin;clear hfin hB0 hB1 hB2 HSZ c0 c1 c2 e0 e1 e2 e3;go_wp2;refine bodyPost_ret (v:=.agg #[.bool (decide ((q).num<0)),.slice A3 k3 c3,.bool false,.slice A4 k4 c4]) ?_ rfl HF.out;simp [results,Tryz.results54,go_sem,d0,d1,d2,d3]
 ·have HSA:=Hj hsa;clear hsa
  go_wp2_with fail
  refine T2.out.mono ?_;rintro e w2 ⟨hs2,hb2⟩;have hB0:=hB0.below hb2 hB0.lt;have hB1:=hB1.below hb2 hB1.lt;have hB2:=hB2.below hb2 hB2.lt;have hb2:Below w.heap.size w w2:=hb1.trans (hb2.mono hb1.size);have hz2:w.heap.size+1+1+1≤w2.heap.size:=hB2.lt;clear c0 c1 c2 c3 hb1 S2 T2;have hs3:(∃ y1 y2 y3,e=.returned (.tuple #[.int .i64 y1,.int .i64 y2,.bool y3])):=by
   rcases hs2 with ⟨_,_,rfl⟩|⟨_,rfl⟩
   ·exact ⟨_,_,_,rfl⟩
   ·exact ⟨_,_,_,rfl⟩
  obtain ⟨y1,y2,y3,rfl⟩:=hs3;clear hs2;obtain ⟨c0,c1,c2,c3,-,-,-,-⟩:=hB0.four;obtain ⟨e0,e1,e2,e3,-,-,-,-⟩:=hB1.four;clear HSA HSM
  go_wp2_with fail
  refine (HC.out w2 hb2).mono ?_;generalize mkRat (x1*x3) (x2*x4).natAbs=q at *;rintro e w3 ⟨A3,k3,c3,A4,k4,c4,rfl,hk3,hk4,hW3,hW4,hF3,hF4,hb3⟩;have hr3:=(RS4.start hB2).call hb3;obtain ⟨_,_,_,_,i0,i1,i2,i3,i4,i5,i6,i7⟩:=hr3.four;have hBW:=hb2;have HSZ:Hid True:=trivial;have hfin:=retQ_close hBW (by omega) (by have:=HSZ.out;omega) hr3 hk3 hk4 hW3 hW4 hF3 hF4;obtain ⟨d0,d1,d2,d3,-,-,-,-⟩:=(hr3.done (.bool (decide ((q).num<0))) (.slice A3 k3 c3) (.bool false) (.slice A4 k4 c4)).four;have HF:=Hj hfin;clear hfin hB0 hB1 hB2 HSZ c0 c1 c2 e0 e1 e2 e3;go_wp2;refine bodyPost_ret (v:=.agg #[.bool (decide ((q).num<0)),.slice A3 k3 c3,.bool false,.slice A4 k4 c4]) ?_ rfl HF.out;simp [results,Tryz.results54,go_sem,d0,d1,d2,d3]
theorem qfromInt64_any (z:Int) (w:World) (h1 : -9223372036854775808≤z) (h2:z≤9223372036854775807) :
  Calls Tryz.prog 40 #[.int .i64 z] w (RetQ w (z:Rat)):=by
 have T:=Hj (fun W=>fromInt64_any z W h1 h2);have en:((z:Int):Rat).num=z:=Rat.num_intCast z;have ed:((z:Int):Rat).den=1:=Rat.den_intCast z;rw [← en] at T;rw [en] at T;generalize ((z:Int):Rat)=q at *;have ED:=Hj ed;have EN:=Hj en;clear ed en h1 h2;go_enter Tryz.func40,Tryz.ntmps40
 go_wp2_with fail
 obtain ⟨hB0,hBW,hsz⟩:=pre1 w 42 #[.bool false,.slice none 0 0,.bool false,.slice none 0 0];generalize w.alloc (.cells #[.bool false,.slice none 0 0,.bool false,.slice none 0 0] 42)=W at *;have HSZ:=Hj hsz;clear hsz;refine (T.out W).mono ?_;rw [← EN.out];rintro e w3 ⟨A3,k3,c3,rfl,hk3,hW3,hF3,hb3⟩;have hr3:=(RS4.start hB0).call hb3;obtain ⟨_,_,_,_,c0,c1,c2,c4,f0,f1,f2,f3⟩:=hr3.four;have hW4:Wat w3 none 0 (denW q.den):=by rw [ED.out];exact Wat.nil
 have hF4:Fresh W.heap.size w3 none 0:=Fresh.nil;have hfin:=retQ_close (c':=0) hBW (Nat.le_refl _) (by have:=HSZ.out;omega) hr3 hk3 (Nat.le_refl 0) hW3 hW4 hF3 hF4;obtain ⟨d0,d1,d2,d3,-,-,-,-⟩:=(hr3.done (.bool (decide (q.num<0))) (.slice A3 k3 c3) (.bool false) (.slice none 0 0)).four;have HF:=Hj hfin;clear hfin hB0 hr3 hW3 hF3 hW4 hF4 hb3;go_wp2;refine bodyPost_ret (v:=.agg #[.bool (decide (q.num<0)),.slice A3 k3 c3,.bool false,.slice none 0 0]) ?_ rfl HF.out;simp [results,Tryz.results40,go_sem,d0,d1,d2,d3]
def sgnQ (q:Rat):Int:=cmpI q.num 0
theorem sgn_mk (n d:Int) (hd:0<d):cmpI (mkRat n d.natAbs).num 0=cmpI n 0:=by
 rw [mk_num n d.natAbs (by omega)];have hg:0<Nat.gcd n.natAbs d.natAbs:=Nat.gcd_pos_of_pos_right _ (by omega);obtain ⟨m,hm⟩:((Nat.gcd n.natAbs d.natAbs:Nat):Int) ∣ n:=Int.ofNat_dvd_left.2 (Nat.gcd_dvd_left _ _);generalize Nat.gcd n.natAbs d.natAbs=G at *;have e:n.tdiv (G:Int)=m:=by rw [hm];exact Int.mul_tdiv_cancel_left m (by omega)
 rw [e,hm];rcases Int.lt_trichotomy m 0 with h|h|h
 ·rw [cmpI_lt h,cmpI_lt (Int.mul_neg_of_pos_of_neg (by omega) h)]
 ·rw [h,Int.mul_zero]
 ·rw [cmpI_gt h,cmpI_gt (Int.mul_pos (by omega) h)]
theorem qsign_any {Nn Nd:Nat} (an an':Bool) (aA aA':Option Addr) (ak ac ak' ac':Nat) (q:Rat) (w:World) (ha:QAt Nn Nd w an aA ak ac an' aA' ak' ac' q) :
  Calls Tryz.prog 57 #[.agg #[.bool an,.slice aA ak ac,.bool an',.slice aA' ak' ac']] w fun e w'=>e=.returned (.int .i64 (sgnQ q))∧Below w.heap.size w w':=by
 obtain ⟨na,da,⟨l,l',h1,h2,h3,h4,h5,h6,hs,hs'⟩,_,_,rfl⟩:=ha;unfold sgnQ;rw [sgn_mk _ _ (qden_pos da)];have S1:=fun W hW=>sign_any an aA ak ac l W hW h3 (by omega);have S2:=fun W hW=>sign_any an' aA' ak' ac' l' W hW h4 (by omega);rw [hs] at S1;rw [hs'] at S2;have hq:qnum na da=if da<0 then -na else na:=rfl;have S1:=Hj S1;have S2:=Hj S2;by_cases hda:da<0
 ·have e:cmpI (qnum na da) 0 = -(cmpI na 0):=by
   rw [hq,if_pos hda];unfold cmpI;split<;>split<;>(try split)<;>(try split)<;>omega
  rw [e];rw [cmpI_lt hda] at S2;have hr : -1≤cmpI na 0∧cmpI na 0≤1:=by unfold cmpI;split<;>(try split)<;>omega
  generalize cmpI na 0=x at *;clear e hq hs hs' hda;obtain ⟨r1,r2⟩:=hr;go_enter Tryz.func57,Tryz.ntmps57
  go_wp2_with fail
  obtain ⟨hB0,hBW,hsz⟩:=pre1 w 42 #[.bool an,.slice aA ak ac,.bool an',.slice aA' ak' ac'];generalize w.alloc (.cells #[.bool an,.slice aA ak ac,.bool an',.slice aA' ak' ac'] 42)=W at *;have HSZ:=Hj hsz;clear hsz;refine (S2.out W (h2.below hBW)).mono ?_;rintro e w1 ⟨rfl,hb1⟩;have hB0:=hB0.below hb1 hB0.lt;have hb1:Below w.heap.size w w1:=hBW.trans (hb1.mono hBW.size);obtain ⟨c0,c1,c2,c3,-,-,-,-⟩:=hB0.four;clear hBW HSZ S2 hB0
  go_wp2_with fail
  refine (S1.out w1 (h1.below hb1)).mono ?_;rintro e w2 ⟨rfl,hb2⟩;have hb2:Below w.heap.size w w2:=hb1.trans (hb2.mono hb1.size);clear hb1 S1 c0 c1 c2 c3;go_wp2;go_ret;exact ⟨rfl,hb2⟩
 ·have e:cmpI (qnum na da) 0=cmpI na 0:=by rw [hq,if_neg hda]
  rw [e];have hd0:0≤cmpI da 0:=by unfold cmpI;rw [if_neg hda];split<;>omega
  generalize cmpI na 0=x at *;generalize cmpI da 0=y at *;clear e hq hs hs' hda;go_enter Tryz.func57,Tryz.ntmps57
  go_wp2_with fail
  obtain ⟨hB0,hBW,hsz⟩:=pre1 w 42 #[.bool an,.slice aA ak ac,.bool an',.slice aA' ak' ac'];generalize w.alloc (.cells #[.bool an,.slice aA ak ac,.bool an',.slice aA' ak' ac'] 42)=W at *;have HSZ:=Hj hsz;clear hsz;refine (S2.out W (h2.below hBW)).mono ?_;rintro e w1 ⟨rfl,hb1⟩;have hB0:=hB0.below hb1 hB0.lt;have hb1:Below w.heap.size w w1:=hBW.trans (hb1.mono hBW.size);obtain ⟨c0,c1,c2,c3,-,-,-,-⟩:=hB0.four;clear hBW HSZ S2 hB0
  go_wp2_with fail
  refine (S1.out w1 (h1.below hb1)).mono ?_;rintro e w2 ⟨rfl,hb2⟩;have hb2:Below w.heap.size w w2:=hb1.trans (hb2.mono hb1.size);clear hb1 S1 c0 c1 c2 c3;go_wp2;go_ret;exact ⟨rfl,hb2⟩
theorem qcanon_any (M Nn Nd:Nat) (HO:WOK M) (hnm:Nn≤M) (hdm:Nd≤M) (an an':Bool) (aA aA':Option Addr) (ak ac ak' ac':Nat) (q:Rat) (w:World) (ha:QAt Nn Nd w an aA ak ac an' aA' ak' ac' q) :
  Calls Tryz.prog 112 #[.agg #[.bool an,.slice aA ak ac,.bool an',.slice aA' ak' ac']] w (RetQ w q):=by
 obtain ⟨na,da,hia,hna,hda,rfl⟩:=ha;have S1:=fun W hW=>short_in (w:=W) (h:=hia.below (w':=W) hW);have P1:=fun W hW=>parts_in (w:=W) (h:=hia.below (w':=W) hW);have hsm:Small na∧Small da→Small (qnum na da)∧Small (qden da):=fun h1=>⟨small_num h1.1,small_den h1.2⟩;have hp1:=qden_pos da;have R1:=fun (m1 m2:Bool) (B1 B2:Option Addr) (j1 d1 j2 d2:Nat) (r1 r2:List Nat) (W:World) (h1:ZIn W m1 B1 j1 d1 r1 (qnum na da)) (h2:ZIn W m2 B2 j2 d2 r2 (qden da))=>reduce_any M HO m1 m2 B1 B2 j1 j2 d1 d2 r1 r2 W h1.1 h2.1 h1.2.1 h2.2.1 h1.2.2.1 h2.2.2.1 (by rw [h1.abs];omega) (by rw [h2.abs];omega) (by rw [h2.2.2.2];exact hp1);unfold ShortPost at S1;have hR:=fun W (h:Small na∧Small da)=>ratio_any (qnum na da) (qden da) W (by have:=(hsm h).1;unfold Small at this;unfold Fit63;omega) hp1 (by have:=(hsm h).2;unfold Small at this;omega);rw [show (qden da).toNat=(qden da).natAbs by omega] at hR;have R2:=fun (m1 m2:Bool) (B1 B2:Option Addr) (j1 d1 j2 d2:Nat) (r1 r2:List Nat) (W:World) (h1:ZIn W m1 B1 j1 d1 r1 (qnum na da)) (h2:ZIn W m2 B2 j2 d2 r2 (qden da))=>(by have:=R1 m1 m2 B1 B2 j1 d1 j2 d2 r1 r2 W h1 h2;rw [h1.2.2.2,h2.abs] at this;exact this:Calls Tryz.prog 111 #[.agg #[.bool m1,.slice B1 j1 d1],.agg #[.bool m2,.slice B2 j2 d2]] W (RetQ W (mkRat (qnum na da) (qden da).natAbs)));generalize mkRat (qnum na da) (qden da).natAbs=q at *;generalize qnum na da=x1 at *;generalize qden da=x2 at *;have S1:=Hj S1;have P1:=Hj P1;have HR:=Hj hR;have R2:=Hj R2;clear hR R1 hsm hna hda;go_enter Tryz.func112,Tryz.ntmps112
 go_wp2_with fail
 obtain ⟨hB0,hB1,hBW,hsz⟩:=pre2 w 42 #[.bool an,.slice aA ak ac,.bool an',.slice aA' ak' ac'] 42 #[.bool false,.slice none 0 0,.bool false,.slice none 0 0];generalize (w.alloc (.cells #[.bool an,.slice aA ak ac,.bool an',.slice aA' ak' ac'] 42)).alloc (.cells #[.bool false,.slice none 0 0,.bool false,.slice none 0 0] 42)=W at *;have HSZ:=Hj hsz;clear hsz;refine (S1.out W hBW).mono ?_;rintro e w1 ⟨hs1,hb1⟩;have hB0:=hB0.below hb1 hB0.lt;have hB1:=hB1.below hb1 hB1.lt;have hb1:Below w.heap.size w w1:=hBW.trans (hb1.mono hBW.size);have hz1:w.heap.size+1+1≤w1.heap.size:=hB1.lt;obtain ⟨c0,c1,c2,c5,-,-,-,-⟩:=hB0.four;clear hBW HSZ S1;rcases hs1 with ⟨hsa,hsa',rfl⟩|⟨hsa,rfl⟩
 ·have HR2:=Hj (fun W=>HR.out W ⟨hsa,hsa'⟩);clear hsa hsa' HR
  go_wp2_with fail
  refine (HR2.out w1).mono ?_;rintro e w3 ⟨A3,k3,c3,A4,k4,c4,rfl,hk3,hk4,hW3,hW4,hF3,hF4,hb3⟩;have hr3:=(RS4.start hB1).call hb3;obtain ⟨_,_,_,_,i0,i1,i2,i3,i4,i5,i6,i7⟩:=hr3.four;have hBW:=hb1;have HSZ:Hid True:=trivial;have hfin:=retQ_close hBW (by omega) (by have:=HSZ.out;omega) hr3 hk3 hk4 hW3 hW4 hF3 hF4;obtain ⟨d0,d1,d2,d3,-,-,-,-⟩:=(hr3.done (.bool (decide ((q).num<0))) (.slice A3 k3 c3) (.bool false) (.slice A4 k4 c4)).four;have HF:=Hj hfin;clear hfin hB0 hB1 HSZ c0 c1 c2 c5;go_wp2;refine bodyPost_ret (v:=.agg #[.bool (decide ((q).num<0)),.slice A3 k3 c3,.bool false,.slice A4 k4 c4]) ?_ rfl HF.out;simp [results,Tryz.results112,go_sem,d0,d1,d2,d3]
 ·clear hsa HR
  go_wp2_with fail
  refine (P1.out w1 hb1).mono ?_;rintro e w2 ⟨m1,B1,j1,d1,r1,m2,B2,j2,d2,r2,rfl,hj1,hj2,hl1,hl2,hW1,hW2,hs1,hs2,hb2⟩;have hB1:=hB1.below hb2 hB1.lt;have T:=Hj (R2.out m1 m2 B1 B2 j1 d1 j2 d2 r1 r2 w2 ⟨hW1,hj1,hl1,hs1⟩ ⟨hW2,hj2,hl2,hs2⟩);have hz2:=hb2.size;have hb2:Below w.heap.size w w2:=hb1.trans (hb2.mono hb1.size);clear hs1 hs2 hW1 hW2 c0 c1 c2 c5 P1 R2 hb1
  go_wp2_with fail
  refine T.out.mono ?_;rintro e w3 ⟨A3,k3,c3,A4,k4,c4,rfl,hk3,hk4,hW3,hW4,hF3,hF4,hb3⟩;have hr3:=(RS4.start hB1).call hb3;obtain ⟨_,_,_,_,i0,i1,i2,i3,i4,i5,i6,i7⟩:=hr3.four;have hBW:=hb2;have HSZ:Hid True:=trivial;have hfin:=retQ_close hBW (by omega) (by have:=HSZ.out;omega) hr3 hk3 hk4 hW3 hW4 hF3 hF4;obtain ⟨d0,d1,d2,d3,-,-,-,-⟩:=(hr3.done (.bool (decide ((q).num<0))) (.slice A3 k3 c3) (.bool false) (.slice A4 k4 c4)).four;have HF:=Hj hfin;clear hfin hB0 hB1 HSZ;go_wp2;refine bodyPost_ret (v:=.agg #[.bool (decide ((q).num<0)),.slice A3 k3 c3,.bool false,.slice A4 k4 c4]) ?_ rfl HF.out;simp [results,Tryz.results112,go_sem,d0,d1,d2,d3]
end Go.Proofs.YtjajigkacccdgaaGreat
