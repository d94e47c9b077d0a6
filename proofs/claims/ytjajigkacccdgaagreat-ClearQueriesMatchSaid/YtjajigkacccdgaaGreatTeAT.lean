/-
Lemmas of the walk; no further conditions.
-/
import Derived.Test.YtjajigkacccdgaaGreatTeAS
import Derived.Maps.AppendAt
set_option linter.unusedVariables false
set_option linter.unusedSimpArgs false
set_option maxRecDepth 100000
set_option maxHeartbeats 16000000
namespace Go.Proofs.YtjajigkacccdgaaGreat
open Go.RowKit
open Wd
def wd2 (hs:List Int) (j:Nat):Nat:=(hs[2*j]?.getD 0+hs[2*j+1]?.getD 0*65536).toNat
def wdsL (hs:List Int) (m:Nat):List Nat:=(List.range m).map (wd2 hs)
def Dg (hs:List Int):Prop:=∀ i:Nat,0≤hs[i]?.getD 0∧hs[i]?.getD 0<65536
theorem wd2_lt {hs:List Int} (h:Dg hs) (j:Nat):wd2 hs j<4294967296∧((wd2 hs j:Nat):Int)=hs[2*j]?.getD 0+hs[2*j+1]?.getD 0*65536:=by
 have h1:=h (2*j);have h2:=h (2*j+1);unfold wd2;omega
theorem wdsL_snoc (hs:List Int) (m:Nat):wdsL hs (m+1)=wdsL hs m ++ [wd2 hs m]:=by
 unfold wdsL;rw [List.range_succ,List.map_append]
 rfl
theorem wdsL_len (hs:List Int) (m:Nat):(wdsL hs m).length=m:=by simp [wdsL]
theorem wdsL_Ws {hs:List Int} (h:Dg hs) (m:Nat):Ws (wdsL hs m):=fun x hx=>by
 obtain ⟨j,_,rfl⟩:=List.mem_map.1 hx;exact (wd2_lt h j).1
theorem u32_one {b:Int}:∀ u∈(#[.int .u32 b]:Array Value).toList,u.oneCell'=true:=by
 intro u hu;simp at hu;rw [hu]
 rfl
def RetOf (w:World) (neg:Bool) (l:List Nat) (e:Ending) (w':World):Prop :=
 ∃ A c,e=.returned (.agg #[.bool (neg && decide (0<l.length)),.slice A l.length c])∧l.length≤c∧Wat w' A l.length l∧Fresh w.heap.size w' A l.length∧Below w.heap.size w w'
theorem rof_any (neg:Bool) (A:Option Addr) (n c:Nat) (hs:List Int) (w:World) (h:IsAt w A n hs) (hnc:n≤c) (hn:n≤1000000000000) (hd:Dg hs) :
  Calls Tryz.prog 184 #[.bool neg,.slice A n c] w (RetOf w neg (wdsL (hs.take (tl hs n)) ((tl hs n+1) / 2))):=by
 have HT:=Hj (fun W (hW:Below w.heap.size w W)=>rtrim_any A n c hs W (h.below hW) hnc (by omega));have hk:=tl_le hs n;have hd2:Dg (hs.take (tl hs n)):=fun i=>by
  rw [List.getElem?_take];split
  ·exact hd i
  ·simp
 generalize hs.take (tl hs n)=ts at *;generalize tl hs n=k at *;obtain ⟨ii,hii,hz0,hz1,hz2⟩:=info_parts info_u32;have HI:=Hj hii;have HZ0:=Hj hz0;have HZ1:=Hj hz1;have HZ2:=Hj hz2;have HD:=Hj hd2;clear h hii hz0 hz1 hz2 hd hd2;go_enter Tryz.func184,Tryz.ntmps184
 go_wp2_with fail
 have hbx:=Blk.new w 40 #[.bool false,.slice none 0 0];have hb0:Below w.heap.size w (w.alloc (.cells #[.bool false,.slice none 0 0] 40)):=(Below.refl _ _).alloc (Nat.le_refl _) _;generalize w.alloc (.cells #[.bool false,.slice none 0 0] 40)=W at *;refine (HT.out W hb0).mono ?_;rintro e w1 ⟨A1,rfl,hI,rfl⟩;have HI1:=Hj hI;have HBX:=Hj hbx;have HB0:=Hj hb0;have hwl:w.heap.size<w1.heap.size:=hbx.lt;clear hI HT hbx hb0
 go_wp2_with fail
 go_loopw [5,6] (fun tw t wr=>∃ (j:Nat) (Aw:Option Addr) (cw:Nat),2*j≤k+1∧t=.int .i64 ((2*j:Nat):Int)∧tw=.slice Aw j cw∧Hid (Below w1.heap.size w1 wr∧Own w1.heap.size 59 1 wr Aw j cw (u32s (wdsL ts j)))) (fun _ t _=>k+1-(intOf t).toNat)
 case atStart=>exact ⟨0,none,0,by omega,rfl,rfl,Below.refl _ _,Own.nil _ _ _ _⟩
 case round =>
  obtain ⟨j,Aw,cw,hj,rfl,rfl,hR⟩:=hrel;by_cases hlt:2*j<k
  ·obtain ⟨hB,hO⟩:=hR.out;obtain ⟨x1,x2⟩:=wd2_lt HD.out j;have y1:=HD.out (2*j);have y2:=HD.out (2*j+1);have T1:=rat_any A1 k c (2*j) ts wr (HI1.out.below hB);have T2:=rat_any A1 k c (2*j+1) ts wr (HI1.out.below hB);have hsn:=wdsL_snoc ts j;generalize ts[2*j]?.getD 0=a at *;generalize ts[2*j+1]?.getD 0=b at *;generalize wd2 ts j=d at *;have e1:IntKind.u32.wrap a=a:=by rw [IntKind.wrap_u32];omega
   have e2:IntKind.u32.wrap b=b:=by rw [IntKind.wrap_u32];omega
   have e3:IntKind.u32.wrap (b*65536)=b*65536:=by rw [IntKind.wrap_u32];omega
   have e4:IntKind.u32.wrap (a+b*65536)=(d:Int):=by rw [IntKind.wrap_u32];omega
   have e5:IntKind.i64.wrap (((2*j:Nat):Int)+1)=((2*j+1:Nat):Int):=IntWalk.i64_in _ (by omega);have d1:decide (((2*j:Nat):Int)<(k:Int))=true:=decide_eq_true (by omega);have e6:IntKind.i64.wrap (((2*j:Nat):Int)+2)=((2*(j+1):Nat):Int):=IntWalk.i64_in _ (by omega);have HT1:=Hj T1;have HT2:=Hj T2;have HSN:=Hj hsn;have HX2:=Hj x2;clear T1 T2 hsn x2 y1 y2 hR;generalize hz:((2*j:Nat):Int)=z at *;have HZ:=Hj hz;generalize hz':((2*j+1:Nat):Int)=z' at *;generalize hz2:((2*(j+1):Nat):Int)=z2 at *;have HZ2':=Hj hz2;clear hz hz' hz2;have k1:=(Kp.refl wr).alloc (.cells #[.int .u32 (d:Int)] 59);have q1:Below w1.heap.size w1 (wr.alloc (.cells #[.int .u32 (d:Int)] 59)):=hB.trans (Below.mono k1 hB.size);have o1:=hO.keep k1;have m1:=Blk.new wr 59 #[.int .u32 (d:Int)]
   go_wp2_with fail
   refine HT1.out.mono ?_;rintro e w2 ⟨rfl,rfl⟩;clear HT1
   go_wp2_with fail
   refine HT2.out.mono ?_;rintro e w3 ⟨rfl,rfl⟩;clear HT2
   go_wp2_with (first
    | (at_builtin;refine wpList_append_my rfl (base:=w1.heap.size) (e:=59) (size:=1) (bytes:=4) (.tmp 15) (.tmp 27) 38 rfl Tryz.underlying38 HI.out HZ0.out HZ1.out HZ2.out rfl (by decide) (xs:=u32s (wdsL ts j)) (news:=[.int .u32 (d:Int)]) rfl (by exact o1) rfl (by exact Blk.src m1 rfl u32_one) (by simp only [maxLen];omega) (by omega) (by exact q1.size) ?_
       intro B1 cb1 w4 hO1 hb1 hk1;have g1:Below w1.heap.size w1 w4:=q1.trans hb1;clear hb1 hk1))
   have hfin:Below w1.heap.size w1 w4∧Own w1.heap.size 59 1 w4 B1 (j+1) cb1 (u32s (wdsL ts (j+1))):=by
    refine ⟨g1,?_⟩;rw [HSN.out,u32s_append];exact hO1
   have HF:=Hj hfin;clear hfin g1 hO1 m1 o1 q1 k1 hO hB;go_wp2;go_roundw
   case rel=>exact ⟨j+1,B1,cb1,by omega,by rw [HZ2'.out],rfl,HF.out⟩
   case measure=>rw [← HZ2'.out,← HZ.out];simp [intOf];omega
  ·obtain ⟨hB,hO⟩:=hR.out;have hjm:(k+1) / 2=j:=by omega
   have d1:decide (((2*j:Nat):Int)<(k:Int))=false:=decide_eq_false (by omega);obtain ⟨A9,c9,hv9,hc9,_,hW9,hF9⟩:=wat_of_own (wdsL_Ws HD.out j) hO;simp at hv9;obtain ⟨rfl,rfl⟩:=hv9;have hbx:=HBX.out.below hB HBX.out.lt;have hB9:Below w.heap.size w wr:=HB0.out.trans (hB.mono HB0.out.size);have hfin:∀ bv,(neg && decide (0<j))=bv→RetOf w neg (wdsL ts ((k+1) / 2)) (.returned (.agg #[.bool bv,.slice Aw j cw])) ((wr.setCell ⟨w.heap.size,0,none⟩ (.bool bv)).setCell ⟨w.heap.size,1,none⟩ (.slice Aw j cw)):=by
    intro bv hbv;rw [hjm];refine ⟨Aw,cw,by rw [wdsL_len,hbv],by rw [wdsL_len];exact hc9,?_,?_,(hB9.setCell (p:=⟨w.heap.size,0,none⟩) (Nat.le_refl _) _).setCell (p:=⟨w.heap.size,1,none⟩) (Nat.le_refl _) _⟩
    ·rw [wdsL_len];exact (hW9.setFar hF9 (p:=⟨w.heap.size,0,none⟩) (by simp;omega) _).setFar (hF9.set _ _) (p:=⟨w.heap.size,1,none⟩) (by simp;omega) _
    ·rw [wdsL_len];exact ((hF9.set _ _).set _ _).mono (by omega)
   have hcell:∀ bv:Bool,((wr.setCell ⟨w.heap.size,0,none⟩ (.bool bv)).setCell ⟨w.heap.size,1,none⟩ (.slice Aw j cw)).cell? ⟨w.heap.size,0,none⟩=some (.bool bv)∧((wr.setCell ⟨w.heap.size,0,none⟩ (.bool bv)).setCell ⟨w.heap.size,1,none⟩ (.slice Aw j cw)).cell? ⟨w.heap.size,1,none⟩=some (.slice Aw j cw):=fun bv=>by
    have hbx2:Blk _ w.heap.size 40 #[.bool bv,.slice Aw j cw]:=(hbx.set 0 (.bool bv)).set 1 (.slice Aw j cw);exact ⟨hbx2.cell 0,hbx2.cell 1⟩
   obtain ⟨b0,b1,f0,f1⟩:=hbx.two;have HF:=Hj hfin;clear hfin hjm hB hO hR hW9 hF9 hB9 hbx;cases neg with
   | false =>
    obtain ⟨g0,g1⟩:=hcell false;have HFF:=Hj (HF.out false rfl);clear hcell;go_wp2;refine bodyPost_ret (v:=.agg #[.bool false,.slice Aw j cw]) ?_ rfl HFF.out;simp [results,Tryz.results184,go_sem,g0,g1]
   | true =>
    by_cases hj0:0<j
    ·have d2:decide ((0:Int)<(j:Int))=true:=decide_eq_true (by omega);obtain ⟨g0,g1⟩:=hcell true;have HFF:=Hj (HF.out true (by simp [hj0]));clear hcell;go_wp2;refine bodyPost_ret (v:=.agg #[.bool true,.slice Aw j cw]) ?_ rfl HFF.out;simp [results,Tryz.results184,go_sem,g0,g1]
    ·have d2:decide ((0:Int)<(j:Int))=false:=decide_eq_false (by omega);obtain ⟨g0,g1⟩:=hcell false;have HFF:=Hj (HF.out false (by simp [hj0]));clear hcell;go_wp2;refine bodyPost_ret (v:=.agg #[.bool false,.slice Aw j cw]) ?_ rfl HFF.out;simp [results,Tryz.results184,go_sem,g0,g1]
theorem tl_zero (hs:List Int):∀ {k i:Nat},tl hs k≤i→i<k→hs[i]?.getD 0=0
 | 0,i,_,h=>absurd h (by omega)
 | k+1,i,h,h2=>by
  rw [tl] at h;split at h
  ·rename_i hz
   by_cases he:i=k
   ·rw [he];exact hz
   ·exact tl_zero hs h (by omega)
  ·omega
theorem tl_last (hs:List Int):∀ {k j:Nat},tl hs k=j+1→hs[j]?.getD 0≠0
 | 0,j,h=>by simp [tl] at h
 | k+1,j,h=>by
  rw [tl] at h;split at h
  ·exact tl_last hs h
  ·rename_i hz
   obtain rfl:k=j:=by omega
   exact hz
theorem tl_idem (hs:List Int) (m:Nat):tl (hs.take (tl hs m)) (tl hs m)=tl hs m:=by
 cases hk:tl hs m with
 | zero=>rfl
 | succ j =>
  have h:=tl_last hs hk;rw [tl,if_neg];rw [List.getElem?_take,if_pos (by omega)];exact h
theorem halvesL_get:∀ (l:List Nat) (j:Nat),(halvesL l)[2*j]?.getD 0=((l[j]?.getD 0:Nat):Int) % 65536∧(halvesL l)[2*j+1]?.getD 0=((l[j]?.getD 0:Nat):Int) / 65536
 | [],j=>by simp [halvesL]
 | d :: l,0=>by simp [halvesL]
 | d :: l,j+1=>by
  have ih:=halvesL_get l j;have e:halvesL (d :: l)=[((d:Nat):Int) % 65536,((d:Nat):Int) / 65536] ++ halvesL l:=by unfold halvesL;rw [List.flatMap_cons]
  rw [e,List.getElem?_append_right (by simp;omega),List.getElem?_append_right (by simp;omega)];rw [show 2*(j+1) - [((d:Nat):Int) % 65536,((d:Nat):Int) / 65536].length=2*j by simp;omega,show 2*(j+1)+1 - [((d:Nat):Int) % 65536,((d:Nat):Int) / 65536].length=2*j+1 by simp;omega,List.getElem?_cons_succ];exact ih
theorem val_zeros:∀ {l:List Nat},(∀ j:Nat,l[j]?.getD 0=0)→val l=0
 | [],_=>rfl
 | d :: l,h=>by
  have h0:=h 0;simp at h0;rw [val_cons,h0,val_zeros fun j=>by have:=h (j+1);simpa using this]
theorem least_digs {l:List Nat} (hw:Ws l):wdsL ((halvesL l).take (tl (halvesL l) (2*l.length))) ((tl (halvesL l) (2*l.length)+1) / 2)=digs (val l):=by
 have hle:=tl_le (halvesL l) (2*l.length);have hz:∀ i:Nat,tl (halvesL l) (2*l.length)≤i→(halvesL l)[i]?.getD 0=0:=fun i hi=>by
  by_cases h:i<2*l.length
  ·exact tl_zero _ hi h
  ·rw [List.getElem?_eq_none (by rw [halvesL_len];omega)];rfl
 have hlast:=fun j=>@tl_last (halvesL l) (2*l.length) j;generalize tl (halvesL l) (2*l.length)=k at *;have hm:(k+1) / 2≤l.length:=by omega
 have hw1:∀ j,j<(k+1) / 2→wd2 ((halvesL l).take k) j=l[j]?.getD 0:=fun j hj=>by
  obtain ⟨g1,g2⟩:=halvesL_get l j;have hd:=hw.get j;have a1:((halvesL l).take k)[2*j]?.getD 0=((l[j]?.getD 0:Nat):Int) % 65536:=by rw [List.getElem?_take,if_pos (by omega)];exact g1
  have a2:((halvesL l).take k)[2*j+1]?.getD 0=((l[j]?.getD 0:Nat):Int) / 65536:=by
   rw [List.getElem?_take];split
   ·exact g2
   ·have:=hz (2*j+1) (by omega);rw [← g2,this]
    rfl
  unfold wd2;rw [a1,a2];omega
 have he:wdsL ((halvesL l).take k) ((k+1) / 2)=l.take ((k+1) / 2):=by
  apply List.ext_getElem (by simp [wdsL];omega);intro j h1 h2;have hj:j<(k+1) / 2:=by simpa [wdsL] using h1
  have:=hw1 j hj;rw [List.getElem?_eq_getElem (by omega)] at this;simpa [wdsL] using this
 rw [he];have hv:val l=val (l.take ((k+1) / 2)):=by
  rw [val_take_drop l _ hm,val_zeros (l:=l.drop ((k+1) / 2)) fun j=>?_,Nat.mul_zero,Nat.add_zero];rw [List.getElem?_drop];obtain ⟨g1,g2⟩:=halvesL_get l ((k+1) / 2+j);have z1:=hz (2*((k+1) / 2+j)) (by omega);have z2:=hz (2*((k+1) / 2+j)+1) (by omega);omega
 rw [hv,digs_val (hw.take _)];intro hl;by_cases h0:k=0
 ·subst h0;simp at hl
 ·obtain ⟨j,rfl⟩:∃ j,k=j+1:=⟨k-1,by omega⟩;have hne:=hlast j rfl;have hlen:(l.take ((j+1+1) / 2)).length=(j+1+1) / 2:=by simp;omega
  rw [List.getLast?_eq_getElem?,hlen,List.getElem?_take,if_pos (by omega)] at hl;obtain ⟨g1,g2⟩:=halvesL_get l ((j+1+1) / 2-1);rw [hl] at g1 g2;simp at g1 g2;by_cases hp:j=2*((j+1+1) / 2-1)
  ·rw [← hp] at g1;exact hne g1
  ·have:j=2*((j+1+1) / 2-1)+1:=by omega
   rw [← this] at g2;exact hne g2
theorem RetOf.toZ {w w':World} {neg:Bool} {l:List Nat} {e:Ending} (hl:Ws l) (h:RetOf w neg (digs (val l)) e w'):RetZ w (sg neg (val l)) e w':=by
 obtain ⟨A,c,he,h1,h2,h3,h4⟩:=h;refine ⟨A,(digs (val l)).length,c,?_,h1,by rw [sg_natAbs];exact h2,h3,h4⟩;rw [he];by_cases hz:val l=0
 ·rw [hz,sg_zero,digs_zero];simp
 ·have hp:0<(digs (val l)).length:=by
   rcases Nat.eq_zero_or_pos (digs (val l)).length with h0|h0
   ·have:=val_digs (val l);rw [List.eq_nil_of_length_eq_zero h0] at this;exact absurd this.symm hz
   ·exact h0
  rw [sg_neg hz,decide_eq_true hp,Bool.and_true]
theorem halvesL_Dg {l:List Nat} (hw:Ws l):Dg (halvesL l):=fun i=>by
 obtain ⟨g1,g2⟩:=halvesL_get l (i / 2);have hd:=hw.get (i / 2);rcases Nat.mod_two_eq_zero_or_one i with h|h
 ·rw [show 2*(i / 2)=i by omega] at g1;omega
 ·rw [show 2*(i / 2)+1=i by omega] at g2;omega
theorem Dg.take {hs:List Int} (h:Dg hs) (k:Nat):Dg (hs.take k):=fun i=>by
 rw [List.getElem?_take];split
 ·exact h i
 ·simp
theorem rleast_any (neg:Bool) (A:Option Addr) (n c:Nat) (l:List Nat) (w:World) (h:Wat w A n l) (hm:n≤10000000000) :
  Calls Tryz.prog 134 #[.agg #[.bool neg,.slice A n c]] w (RetZ w (sg neg (val l))):=by
 have hF:∀ (W:World) A1 c1,IsAt W A1 (tl (halvesL l) (2*n)) ((halvesL l).take (tl (halvesL l) (2*n)))→tl (halvesL l) (2*n)≤c1 →
   Calls Tryz.prog 184 #[.bool neg,.slice A1 (tl (halvesL l) (2*n)) c1] W (RetZ W (sg neg (val l))):=fun W A1 c1 hI hc=>by
  have hk:=tl_le (halvesL l) (2*n);refine (rof_any neg A1 _ c1 _ W hI hc (by omega) ((halvesL_Dg h.2.1).take _)).mono fun e w' hr=>?_;rw [← h.1] at hr hk;rw [tl_idem,List.take_take,Nat.min_self,least_digs h.2.1] at hr;exact hr.toZ h.2.1
 go_enter Tryz.func134,Tryz.ntmps134
 go_wp2_with fail
 obtain ⟨hB0,hB1,hBW,hsz⟩:=pre2 w 40 #[.bool neg,.slice A n c] 40 #[.bool false,.slice none 0 0];generalize (w.alloc (.cells #[.bool neg,.slice A n c] 40)).alloc (.cells #[.bool false,.slice none 0 0] 40)=W at *;have HSZ:=Hj hsz;have HFF:=Hj hF;clear hsz hF;have s4:=RS.start hB1;have hw:∀ w',RS (w.heap.size+1) 40 W w'→Wat w' A n l:=fun w' hk=>h.below (hBW.trans (hk.1.mono (by omega)));have HW:=Hj hw;clear hw;have hS:∀ w',RS (w.heap.size+1) 40 W w'→(w'.cell? ⟨w.heap.size,0,none⟩=some (.bool neg)∧w'.cell? ⟨w.heap.size,1,none⟩=some (.slice A n c))∧RS (w.heap.size+1) 40 W w':=fun w' hk=>⟨⟨(hk.blk hB0 (by omega)).cell 0,(hk.blk hB0 (by omega)).cell 1⟩,hk⟩;have HS:=Hj hS;clear hS;clear hB0 hB1
 go_region_held3 (fun w'=>(w'.cell? ⟨w.heap.size,0,none⟩=some (.bool neg)∧w'.cell? ⟨w.heap.size,1,none⟩=some (.slice A n c))∧RS (w.heap.size+1) 40 W w')
  (first|exact HS.out _ (by assumption)|exact HS.out _ (RS.drew (by assumption))|exact HS.out _ (RS.drew (And.right (by assumption)))|exact HS.out _ (RS.set (And.right (by assumption)) _ _))
  (first
   | (go_at_call 186;have hk:=And.right ‹_∧RS (w.heap.size+1) 40 W _›;refine (rhalves_any A n c l _ (HW.out _ hk) (by omega)).mono ?_;rintro e w1 ⟨A1,c1,rfl,hI1,hb1,hc1⟩;have hr1:=hk.call hb1)
   | (go_at_call 184;have hk:=And.right ‹_∧RS (w.heap.size+1) 40 W _›;refine (HFF.out _ A1 c1 hI1 hc1).mono ?_;intro e w2 hr;obtain ⟨A2,k2,c2,rfl,hk2,hW2,hF2,hb2⟩:=hr;have hr2:=hr1.call hb2;obtain ⟨_,_,c0,c1,f0,f1⟩:=hr2.two))
 have hfin:=retZ_close hBW (by omega) (by obtain ⟨_,_,_,hx⟩:=hr1;exact hx.lt) hr2 hk2 hW2 hF2;obtain ⟨d0,d1,-,-⟩:=(hr2.done (.bool (decide (sg neg (val l)<0))) (.slice A2 k2 c2)).two;have HF:=Hj hfin;clear hfin;go_wp2;refine bodyPost_ret (v:=.agg #[.bool (decide (sg neg (val l)<0)),.slice A2 k2 c2]) ?_ rfl HF.out;simp [results,Tryz.results134,go_sem,d0,d1]
theorem blk_wat2 {w:World} {g d d':Nat} {t:TypeId} (h:Blk w g t #[.int .u32 ((d:Nat):Int),.int .u32 ((d':Nat):Int)]) (h1:d<4294967296) (h2:d'<4294967296):Wat w (some ⟨g,0,none⟩) 2 [d,d']:=by
 refine ⟨rfl,?_,fun _=>⟨g,0,rfl,h.lt,fun j hj=>?_⟩⟩
 ·intro x hx;simp at hx;rcases hx with rfl|rfl<;>assumption
 ·obtain ⟨a,b,_,_⟩:=h.two;rcases j with _|_|j
  ·exact a
  ·exact b
  ·omega
theorem val_two (u:Nat):val [u % 4294967296,u / 4294967296]=u:=by
 rw [val_cons,val_cons,val_nil];omega
theorem rfrom_any (z:Int) (w:World) (h1 : -9223372036854775808≤z) (h2:z≤9223372036854775807) :
  Calls Tryz.prog 87 #[.int .i64 z] w (RetZ w z):=by
 by_cases hz:z<0
 ·have hw:IntKind.u64.wrap (-(IntKind.u64.wrap z))=(z.natAbs:Int):=by
   rw [IntKind.wrap_u64,IntKind.wrap_u64];omega
  have hw2:IntKind.u64.wrap ((z.natAbs:Int).tdiv 4294967296)=((z.natAbs / 4294967296:Nat):Int):=by
   rw [IntKind.wrap_u64,Int.tdiv_eq_ediv_of_nonneg (by omega)];omega
  have hm1:(z.natAbs:Int).tmod 4294967296 % 4294967296=((z.natAbs % 4294967296:Nat):Int):=by
   rw [Int.tmod_eq_emod_of_nonneg (by omega)];omega
  have hm2:((z.natAbs / 4294967296:Nat):Int) % 4294967296=((z.natAbs / 4294967296:Nat):Int):=by omega
  have hs:sg true (val [z.natAbs % 4294967296,z.natAbs / 4294967296])=z:=by rw [val_two];unfold sg;simp;omega
  have hd:z.natAbs % 4294967296<4294967296:=by omega
  have hd':z.natAbs / 4294967296<4294967296:=by omega
  have HW:=Hj hw;have HW2:=Hj hw2;have HM1:=Hj hm1;have HM2:=Hj hm2;clear hw hw2 hm1 hm2 h1 h2;go_enter Tryz.func87,Tryz.ntmps87
  go_wp2_with fail
  rw [HW.out,HW2.out,HM1.out,HM2.out];generalize z.natAbs % 4294967296=d at *;generalize z.natAbs / 4294967296=d' at *;clear HW HW2 HM1 HM2;clear hz;have HZ:=Hj hs;have hg:=(Blk.new w 40 #[.bool false,.slice none 0 0]).alloc (.cells #[.int .u32 ((d:Nat):Int),.int .u32 ((d':Nat):Int)] 59);have hu:=blk_wat2 (Blk.new1 w (.cells #[.bool false,.slice none 0 0] 40) 59 #[.int .u32 ((d:Nat):Int),.int .u32 ((d':Nat):Int)]) hd hd';have hbw:Below w.heap.size w ((w.alloc (.cells #[.bool false,.slice none 0 0] 40)).alloc (.cells #[.int .u32 ((d:Nat):Int),.int .u32 ((d':Nat):Int)] 59)):=((Below.refl _ _).alloc (Nat.le_refl _) _).alloc (by simp) _;have hsz:((w.alloc (.cells #[.bool false,.slice none 0 0] 40)).alloc (.cells #[.int .u32 ((d:Nat):Int),.int .u32 ((d':Nat):Int)] 59)).heap.size=w.heap.size+2:=by simp
  generalize (w.alloc (.cells #[.bool false,.slice none 0 0] 40)).alloc (.cells #[.int .u32 ((d:Nat):Int),.int .u32 ((d':Nat):Int)] 59)=W at *;refine (rleast_any _ _ 2 2 [d,d'] W hu (by omega)).mono ?_;rw [HZ.out];rintro e w1 ⟨A,k,c,rfl,hk,hW,hF,hB⟩;have hg1:=hg.below hB (by omega);have hfin:=retZ_close hbw (by omega) (by omega) ⟨hB.mono (by omega),_,_,hg1⟩ hk hW hF;have hg2:=hg1.set2 (.bool (decide (z<0))) (.slice A k c);obtain ⟨c0,c1,f0,f1⟩:=hg1.two;have HF:=Hj hfin;clear hfin hu hbw hsz hB hW hF hg hg1;generalize decide (z<0)=zb at *;go_wp2;obtain ⟨d0,d1,-,-⟩:=hg2.two;refine bodyPost_ret (v:=.agg #[.bool zb,.slice A k c]) ?_ rfl HF.out;simp [results,Tryz.results87,go_sem,d0,d1]
 ·have hn:z=(z.natAbs:Int):=by omega
  generalize z.natAbs=n at *;have hm1:z % 4294967296=((n % 4294967296:Nat):Int):=by omega
  have hm2:z / 4294967296=((n / 4294967296:Nat):Int):=by omega
  have hdz:decide (z<0)=false:=decide_eq_false hz;have hs:sg false (val [n % 4294967296,n / 4294967296])=z:=by rw [val_two,hn];unfold sg;simp
  have hd:n % 4294967296<4294967296:=by omega
  have hd':n / 4294967296<4294967296:=by omega
  have HM1:=Hj hm1;have HM2:=Hj hm2;have HDZ:=Hj hdz;clear hm1 hm2 hdz hn;go_enter Tryz.func87,Tryz.ntmps87
  go_wp2_with fail
  rw [HM1.out,HM2.out];clear HM1 HM2 hz HDZ;generalize n % 4294967296=d at *;generalize n / 4294967296=d' at *;have HZ:=Hj hs;have hg:=(Blk.new w 40 #[.bool false,.slice none 0 0]).alloc (.cells #[.int .u32 ((d:Nat):Int),.int .u32 ((d':Nat):Int)] 59);have hu:=blk_wat2 (Blk.new1 w (.cells #[.bool false,.slice none 0 0] 40) 59 #[.int .u32 ((d:Nat):Int),.int .u32 ((d':Nat):Int)]) hd hd';have hbw:Below w.heap.size w ((w.alloc (.cells #[.bool false,.slice none 0 0] 40)).alloc (.cells #[.int .u32 ((d:Nat):Int),.int .u32 ((d':Nat):Int)] 59)):=((Below.refl _ _).alloc (Nat.le_refl _) _).alloc (by simp) _;have hsz:((w.alloc (.cells #[.bool false,.slice none 0 0] 40)).alloc (.cells #[.int .u32 ((d:Nat):Int),.int .u32 ((d':Nat):Int)] 59)).heap.size=w.heap.size+2:=by simp
  generalize (w.alloc (.cells #[.bool false,.slice none 0 0] 40)).alloc (.cells #[.int .u32 ((d:Nat):Int),.int .u32 ((d':Nat):Int)] 59)=W at *;refine (rleast_any _ _ 2 2 [d,d'] W hu (by omega)).mono ?_;rw [HZ.out];rintro e w1 ⟨A,k,c,rfl,hk,hW,hF,hB⟩;have hg1:=hg.below hB (by omega);have hfin:=retZ_close hbw (by omega) (by omega) ⟨hB.mono (by omega),_,_,hg1⟩ hk hW hF;have hg2:=hg1.set2 (.bool (decide (z<0))) (.slice A k c);obtain ⟨c0,c1,f0,f1⟩:=hg1.two;have HF:=Hj hfin;clear hfin hu hbw hsz hB hW hF hg hg1;generalize decide (z<0)=zb at *;go_wp2;obtain ⟨d0,d1,-,-⟩:=hg2.two;refine bodyPost_ret (v:=.agg #[.bool zb,.slice A k c]) ?_ rfl HF.out;simp [results,Tryz.results87,go_sem,d0,d1]
theorem rint_any (z:Int) (w:World) (h1 : -9223372036854775808≤z) (h2:z≤9223372036854775807) :
  Calls Tryz.prog 37 #[.int .i64 z] w (RetQ w (z:Rat)):=by
 have T:=Hj (fun W=>rfrom_any z W h1 h2);have en:((z:Int):Rat).num=z:=Rat.num_intCast z;have ed:((z:Int):Rat).den=1:=Rat.den_intCast z;rw [← en] at T;rw [en] at T;generalize ((z:Int):Rat)=q at *;have ED:=Hj ed;have EN:=Hj en;clear ed en h1 h2;go_enter Tryz.func37,Tryz.ntmps37
 go_wp2_with fail
 obtain ⟨hB0,hBW,hsz⟩:=pre1 w 42 #[.bool false,.slice none 0 0,.bool false,.slice none 0 0];generalize w.alloc (.cells #[.bool false,.slice none 0 0,.bool false,.slice none 0 0] 42)=W at *;have HSZ:=Hj hsz;clear hsz;refine (T.out W).mono ?_;rw [← EN.out];rintro e w3 ⟨A3,k3,c3,rfl,hk3,hW3,hF3,hb3⟩;have hr3:=(RS4.start hB0).call hb3;obtain ⟨_,_,_,_,c0,c1,c2,c4,f0,f1,f2,f3⟩:=hr3.four;have hW4:Wat w3 none 0 (denW q.den):=by rw [ED.out];exact Wat.nil
 have hF4:Fresh W.heap.size w3 none 0:=Fresh.nil;have hfin:=retQ_close (c':=0) hBW (Nat.le_refl _) (by have:=HSZ.out;omega) hr3 hk3 (Nat.le_refl 0) hW3 hW4 hF3 hF4;obtain ⟨d0,d1,d2,d3,-,-,-,-⟩:=(hr3.done (.bool (decide (q.num<0))) (.slice A3 k3 c3) (.bool false) (.slice none 0 0)).four;have HF:=Hj hfin;clear hfin hB0 hr3 hW3 hF3 hW4 hF4 hb3;go_wp2;refine bodyPost_ret (v:=.agg #[.bool (decide (q.num<0)),.slice A3 k3 c3,.bool false,.slice none 0 0]) ?_ rfl HF.out;simp [results,Tryz.results37,go_sem,d0,d1,d2,d3]
theorem rsame_yes (neg:Bool) (A A':Option Addr) (n c c':Nat) (l:List Nat) (w:World) (h:Wat w A n l) (h':Wat w A' n l) (hm:n≤1000000) :
  Calls Tryz.prog 86 #[.agg #[.bool neg,.slice A n c],.agg #[.bool neg,.slice A' n c']] w fun e w'=>e=.returned (.bool true)∧Below w.heap.size w w':=by
 have HX:=Hj h;have HY:=Hj h';have hne:((n:Int) != (n:Int))=false:=by simp
 have hne2:(!neg == neg)=false:=by cases neg<;>rfl
 have hne3:(neg != neg)=false:=by cases neg<;>rfl
 clear h h';go_enter Tryz.func86,Tryz.ntmps86
 go_wp2_with fail
 obtain ⟨hB0,hB1,hBW,hsz⟩:=pre2 w 40 #[.bool neg,.slice A n c] 40 #[.bool neg,.slice A' n c'];generalize (w.alloc (.cells #[.bool neg,.slice A n c] 40)).alloc (.cells #[.bool neg,.slice A' n c'] 40)=W at *;have HSZ:=Hj hsz;clear hsz;have HB0:=Hj hB0;have HB1:=Hj hB1;have HBW:=Hj hBW;clear hB0 hB1 hBW
 go_loopw [5] (fun t wr=>∃ k:Nat,k≤n∧t=.int .i64 k∧Hid (Below W.heap.size W wr)) (fun t _=>n-(intOf t).toNat)
 case atStart=>exact ⟨0,Nat.zero_le _,rfl,Below.refl _ _⟩
 case round =>
  obtain ⟨k,hk,rfl,hB⟩:=hrel;obtain ⟨a0,a1,-,-⟩:=(HB0.out.below hB.out HB0.out.lt).two;obtain ⟨b0,b1,-,-⟩:=(HB1.out.below hB.out HB1.out.lt).two;by_cases hlt:k<n
  ·obtain ⟨b,o,rfl,hb,hc⟩:=HX.out.2.2 (by omega);obtain ⟨b',o',rfl,hb',hc'⟩:=HY.out.2.2 (by omega);have c1:=((HBW.out.trans (hB.out.mono HBW.out.size)).cell (p:=⟨b,o+k,none⟩) hb).trans (hc k hlt);have c2:=((HBW.out.trans (hB.out.mono HBW.out.size)).cell (p:=⟨b',o'+k,none⟩) hb').trans (hc' k hlt);have hki1:(0:Int)≤(k:Int):=by omega
   have hki2:(k:Int)<(n:Int):=by omega
   clear hc hc';have HBD:=fun q=>below_drewN hB.out q;have HBD:=Hj HBD;generalize ((l[k]?.getD 0:Nat):Int)=x at *;have d1:(x != x)=false:=by simp
   clear hB;go_wp2
   go_quiet (fail)
   go_wp2;go_roundw
   case rel=>exact ⟨k+1,by omega,by go_num,HBD.out _⟩
   case measure=>simp [intOf];omega
  ·obtain rfl:k=n:=by omega
   have hfin:Below w.heap.size w wr:=HBW.out.trans (hB.out.mono HBW.out.size);have HF:=Hj hfin;clear hfin;go_wp2;go_ret;exact ⟨rfl,HF.out⟩
theorem ris_yes (q:Rat) (A B A' B':Option Addr) (k c k' c' d d':Nat) (w:World) (h:WQ w q A k c A' k' c') (h':WQ w q B k d B' k' d') (hk:k≤1000000) (hk':k'≤1000000) :
  Calls Tryz.prog 34 #[.agg #[.bool (decide (q.num<0)),.slice A k c,.bool false,.slice A' k' c'],.agg #[.bool (decide (q.num<0)),.slice B k d,.bool false,.slice B' k' d']] w fun e w'=>e=.returned (.bool true)∧Below w.heap.size w w':=by
 have T1:=Hj (fun W (hW:Below w.heap.size w W)=>rsame_yes (decide (q.num<0)) A B k c d _ W (h.2.2.1.below hW) (h'.2.2.1.below hW) hk);have T2:=Hj (fun W (hW:Below w.heap.size w W)=>rsame_yes false A' B' k' c' d' _ W (h.2.2.2.below hW) (h'.2.2.2.below hW) hk');generalize decide (q.num<0)=s at *;clear h h';go_enter Tryz.func34,Tryz.ntmps34
 go_wp2_with fail
 obtain ⟨hB0,hB1,hBW,hsz⟩:=pre2 w 42 #[.bool s,.slice A k c,.bool false,.slice A' k' c'] 42 #[.bool s,.slice B k d,.bool false,.slice B' k' d'];generalize (w.alloc (.cells #[.bool s,.slice A k c,.bool false,.slice A' k' c'] 42)).alloc (.cells #[.bool s,.slice B k d,.bool false,.slice B' k' d'] 42)=W at *;have HSZ:=Hj hsz;clear hsz;refine (T1.out W hBW).mono ?_;rintro e w1 ⟨rfl,hb1⟩;have hB0:=hB0.below hb1 hB0.lt;have hB1:=hB1.below hb1 hB1.lt;have hb2:=hBW.trans (hb1.mono hBW.size);obtain ⟨a0,a1,a2,a3,-,-,-,-⟩:=hB0.four;obtain ⟨b0,b1,b2,b3,-,-,-,-⟩:=hB1.four;have hT2:=T2.out w1 hb2;have HB2:=Hj hb2;have HT2:=Hj hT2;clear hb1 hb2 hBW T1 T2 hT2 hB0 hB1
 go_wp2_with fail
 refine HT2.out.mono ?_;rintro e w2 ⟨rfl,hb3⟩;have hfin:=HB2.out.trans (hb3.mono HB2.out.size);have HF:=Hj hfin;clear hfin hb3 HT2;go_wp2;go_ret;exact ⟨rfl,HF.out⟩
def QsAt (w:World) (A:Option Addr) (n:Nat) (ps:List Rat):Prop :=
 ps.length=n∧(n≠0→∃ b o,A=some ⟨b,o,none⟩∧b<w.heap.size∧∀ j,j<n→∃ A1 k c A2 k' c',
  w.cell? ⟨b,o+j*4,none⟩=some (.bool (decide ((ps[j]?.getD 0).num<0)))∧w.cell? ⟨b,o+j*4+1,none⟩=some (.slice A1 k c)∧w.cell? ⟨b,o+j*4+2,none⟩=some (.bool false)∧w.cell? ⟨b,o+j*4+3,none⟩=some (.slice A2 k' c') ∧
  WQ w (ps[j]?.getD 0) A1 k c A2 k' c')
theorem QsAt.below {w w':World} {A:Option Addr} {n:Nat} {ps:List Rat} (h:QsAt w A n ps) (hb:Below w.heap.size w w'):QsAt w' A n ps:=by
 refine ⟨h.1,fun h0=>?_⟩;obtain ⟨b,o,e,hlt,hc⟩:=h.2 h0;refine ⟨b,o,e,Nat.lt_of_lt_of_le hlt hb.size,fun j hj=>?_⟩;obtain ⟨A1,k,c,A2,k',c',g0,g1,g2,g3,g4⟩:=hc j hj;exact ⟨A1,k,c,A2,k',c',(hb.cell (p:=⟨b,_,none⟩) hlt).trans g0,(hb.cell (p:=⟨b,_,none⟩) hlt).trans g1,(hb.cell (p:=⟨b,_,none⟩) hlt).trans g2,(hb.cell (p:=⟨b,_,none⟩) hlt).trans g3,g4.below hb⟩
theorem Wat.len {w:World} {A:Option Addr} {n:Nat} {l:List Nat} (h:Wat w A n l):n=l.length:=h.1.symm
def SameOr (w:World) (B B':Option Addr):Prop:=B'.map (fun a=>a.block)=B.map (fun a=>a.block)∨B'.map (fun a=>a.block)=some w.heap.size
theorem run_append_at {P:Program} {w:World} {base:Nat} {t ty e:TypeId} {i:TypeInfo} {z:Value} {size bytes:Nat} (ht:P.underlying t=some (.slice e)) (hi:P.info? e=some i) (hz:i.zero=some z)
  (hsize:i.size=size) (hby:i.bytes=bytes) (hzs:z.cells.size=size) (hsz:0<size)
  {B:Option Addr} {n cb:Nat} {xs:List Value} (hown:Own base e size w B n cb xs) {A:Option Addr} {m c:Nat} {news:List Value} (hs:SrcAt w A m size news)
  (h63:n+m≤maxLen) (hbytes:(n+m)*bytes≤140737488355328) (hbase:base≤w.heap.size) :
  ∃ B' cb' w',(Builtin.append_ #[t,t] ty #[.slice B n cb,.slice A m c]).run P w=.ok (.slice B' (n+m) cb') w'∧Own base e size w' B' (n+m) cb' (xs ++ news)∧Below base w w'∧Kept w w' B∧SameOr w B B':=by
 obtain ⟨h1,h2,h3⟩:=hs;rcases h3 with ⟨rfl,rfl⟩|⟨ad,rfl,h3⟩
 ·have e1:news=[]:=List.eq_nil_of_length_eq_zero (by simpa using h1);subst e1;refine ⟨B,cb,w,?_,by simpa using hown,Below.refl _ _,⟨Nat.le_refl _,fun _ _ _=>rfl⟩,Or.inl rfl⟩;have hle:n≤cb:=by
   rcases hown.2 with ⟨h4,_⟩|⟨g,cap,cur,h4,_,_,hnc,_⟩
   ·simp at h4;omega
   ·simp at h4;omega
  rcases hown.2 with ⟨h4,h5⟩|⟨g,cap,cur,h4,_,_,hnc,_⟩
  ·simp at h4;obtain ⟨rfl,rfl,rfl⟩:=h4;simp [Builtin.append_,run_underlying ht,sizeOf,typeInfo,hi,Builtin.lenOf,Builtin.firstCells]
  ·simp at h4;obtain ⟨rfl,rfl⟩:=h4;simp [Builtin.append_,run_underlying ht,sizeOf,typeInfo,hi,Builtin.lenOf,Builtin.firstCells,hnc,storeCells]
 ·obtain ⟨v',w',hr,ho,hg,_,hsame⟩:=run_append_own_at (P:=P) (w:=w) base t ty e i z size bytes ht hi hz hsize hby hzs hsz _ n xs hown ad m c news h1 h3 h2 h63 hbytes hbase;have hB:Below base w w':=⟨hg.os,hg.tape,hg.output,hg.size,fun k hk=>hg.block k (by omega) fun he=>by have:=(hown.lt k he.symm).1;omega⟩;have eo:∀ X:Option Addr,∀ a b,(Value.slice X a b).ownBlock=X.map (fun a=>a.block):=fun X a b=>by cases X<;>rfl
  have hK:Kept w w' B:=⟨hg.size,fun k hk hne=>hg.block k hk fun he=>hne (by rw [eo] at he;exact he.symm)⟩;rcases ho.2 with ⟨rfl,h5⟩|⟨g,cap,cur,rfl,_⟩
  ·exact ⟨none,0,w',by rw [hr,h5],by rw [h5] at ho ⊢;exact ho,hB,hK,by simpa [SameOr,eo] using hsame⟩
  ·exact ⟨some ⟨g,0,none⟩,cap,w',hr,ho,hB,hK,by simpa [SameOr,eo] using hsame⟩
theorem wp_append_at {P:Program} {w:World} {o:Oper} {a:Act} {K:Act→World→Prop} {Q:Exit→Act→World→Prop} (s x:Operand) (t:TypeId)
  (ho:o.op=.call { callee:=.builtin .append,args:=#[s,x],argTypes:=#[t,t] })
  {base:Nat} {e:TypeId} {i:TypeInfo} {z:Value} {size bytes:Nat} (ht:P.underlying t=some (.slice e)) (hi:P.info? e=some i) (hz:i.zero=some z)
  (hsize:i.size=size) (hby:i.bytes=bytes) (hzs:z.cells.size=size) (hsz:0<size)
  {B:Option Addr} {n cb:Nat} {xs:List Value} (hss:a.eval s=.slice B n cb) (hown:Own base e size w B n cb xs) {A:Option Addr} {m c:Nat} {news:List Value} (hx:a.eval x=.slice A m c) (hs:SrcAt w A m size news)
  (h63:n+m≤maxLen) (hbytes:(n+m)*bytes≤140737488355328) (hbase:base≤w.heap.size)
  (h:∀ B' cb' w',Own base e size w' B' (n+m) cb' (xs ++ news)→Below base w w'→Kept w w' B→SameOr w B B'→K (a.put o.dst (.slice B' (n+m) cb')) w'):o.wp P a w K Q:=by
 obtain ⟨B',cb',w',hr,h2,h3,h4,h5⟩:=run_append_at (P:=P) (ty:=o.type) (c:=c) ht hi hz hsize hby hzs hsz hown hs h63 hbytes hbase;unfold Oper.wp execOp;simp only [ho,resolve,invoke,builtin,Sem.run_bind,Sem.run_pure,Result.andThen_ok,List.map_toArray,List.map_cons,List.map_nil,hss,hx,hr];exact h B' cb' w' h2 h3 h4 h5
theorem wpList_append_at {P:Program} {w:World} {ops:Array Oper} {rest:List Oper} {o:Oper} {a:Act} {Q:Exit→Act→World→Prop} (hg:o.guard=none) (s x:Operand) (t:TypeId)
  (ho:o.op=.call { callee:=.builtin .append,args:=#[s,x],argTypes:=#[t,t] })
  {base:Nat} {e:TypeId} {i:TypeInfo} {z:Value} {size bytes:Nat} (ht:P.underlying t=some (.slice e)) (hi:P.info? e=some i) (hz:i.zero=some z)
  (hsize:i.size=size) (hby:i.bytes=bytes) (hzs:z.cells.size=size) (hsz:0<size)
  {B:Option Addr} {n cb:Nat} {xs:List Value} (hss:a.eval s=.slice B n cb) (hown:Own base e size w B n cb xs) {A:Option Addr} {m c:Nat} {news:List Value} (hx:a.eval x=.slice A m c) (hs:SrcAt w A m size news)
  (h63:n+m≤maxLen) (hbytes:(n+m)*bytes≤140737488355328) (hbase:base≤w.heap.size)
  (h:∀ B' cb' w',Own base e size w' B' (n+m) cb' (xs ++ news)→Below base w w'→Kept w w' B→SameOr w B B'→wpList P ops Q rest (a.put o.dst (.slice B' (n+m) cb')) w') :
  wpList P ops Q (o :: rest) a w :=
 wpList_plain hg fun K hK=>wp_append_at s x t ho ht hi hz hsize hby hzs hsz hss hown hx hs h63 hbytes hbase fun B' cb' w' h1 h2 h3 h4=>hK _ _ (h B' cb' w' h1 h2 h3 h4)
def Off (B A:Option Addr) (k:Nat):Prop:=k≠0→∃ b o,A=some ⟨b,o,none⟩∧B.map (fun a=>a.block)≠some b
theorem Off.fresh {base:Nat} {w:World} {A B:Option Addr} {k:Nat} (h:Fresh base w A k) (hB:∀ b,B.map (fun a=>a.block)=some b→b<base):Off B A k:=fun hk=>by
 obtain ⟨b,o,rfl,hb,_⟩:=h hk;exact ⟨b,o,rfl,fun he=>by have:=hB b he;omega⟩
theorem Wat.kept {w w':World} {A B:Option Addr} {k:Nat} {l:List Nat} (h:Wat w A k l) (ho:Off B A k) (hk:Kept w w' B):Wat w' A k l:=by
 refine ⟨h.1,h.2.1,fun h0=>?_⟩;obtain ⟨b,o,rfl,hlt,hc⟩:=h.2.2 h0;obtain ⟨b',o',he,hne⟩:=ho h0;cases he;refine ⟨b,o,rfl,Nat.lt_of_lt_of_le hlt hk.1,fun j hj=>?_⟩;exact (World.cell?_of_block (hk.2 b hlt hne)).trans (hc j hj)
theorem Off.same {w:World} {A B B':Option Addr} {k:Nat} {l:List Nat} (h:Wat w A k l) (ho:Off B A k) (hs:SameOr w B B'):Off B' A k:=fun h0=>by
 obtain ⟨b,o,rfl,hlt,_⟩:=h.2.2 h0;obtain ⟨b',o',he,hne⟩:=ho h0;cases he;refine ⟨b,o,rfl,fun hB=>?_⟩;rcases hs with hs|hs
 ·exact hne (hs ▸ hB)
 ·rw [hs] at hB;simp at hB;omega
theorem Own.blk_lt {base:Nat} {e:TypeId} {size:Nat} {w:World} {A:Option Addr} {n c:Nat} {xs:List Value} (h:Own base e size w A n c xs):∀ b,A.map (fun a=>a.block)=some b→b<w.heap.size:=fun b hb=>by
 rcases h.2 with ⟨h6,_⟩|⟨g',cap',cur',h6,_,h7,_⟩
 ·simp at h6;rw [h6.1] at hb;simp at hb
 ·simp at h6;rw [h6.1] at hb;simp at hb;rw [← hb];exact (Array.getElem?_eq_some_iff.1 h7).1
abbrev QEnt:=Bool×(Option Addr×Nat×Nat)×(Option Addr×Nat×Nat)
def QEnt0:QEnt:=(false,(none,0,0),(none,0,0))
def qCells (es:List QEnt):List Value:=es.flatMap fun e=>[.bool e.1,.slice e.2.1.1 e.2.1.2.1 e.2.1.2.2,.bool false,.slice e.2.2.1 e.2.2.2.1 e.2.2.2.2]
theorem qCells_append (a b:List QEnt):qCells (a ++ b)=qCells a ++ qCells b:=by simp [qCells]
theorem qCells_cons (s:QEnt) (l:List QEnt):qCells (s :: l)=.bool s.1 :: .slice s.2.1.1 s.2.1.2.1 s.2.1.2.2 :: .bool false :: .slice s.2.2.1 s.2.2.2.1 s.2.2.2.2 :: qCells l:=by simp [qCells]
theorem qCells_len (l:List QEnt):(qCells l).length=l.length*4:=by
 induction l with
 | nil=>rfl
 | cons s l ih=>rw [qCells_cons];simp [ih];omega
theorem qCells_get:∀ (l:List QEnt) (j:Nat),j<l.length→(qCells l)[j*4]?=some (.bool (l[j]?.getD QEnt0).1)∧(qCells l)[j*4+1]?=some (.slice (l[j]?.getD QEnt0).2.1.1 (l[j]?.getD QEnt0).2.1.2.1 (l[j]?.getD QEnt0).2.1.2.2)∧(qCells l)[j*4+2]?=some (.bool false)∧(qCells l)[j*4+3]?=some (.slice (l[j]?.getD QEnt0).2.2.1 (l[j]?.getD QEnt0).2.2.2.1 (l[j]?.getD QEnt0).2.2.2.2)
 | [],j,h=>absurd h (by simp)
 | s :: l,0,_=>by simp [qCells]
 | s :: l,j+1,h=>by
  have ih:=qCells_get l j (by simpa using h);rw [qCells_cons,show (j+1)*4=j*4+1+1+1+1 by omega,show j*4+1+1+1+1+1=(j*4+1)+1+1+1+1 by omega,show j*4+1+1+1+1+2=(j*4+2)+1+1+1+1 by omega,show j*4+1+1+1+1+3=(j*4+3)+1+1+1+1 by omega];simp only [List.getElem?_cons_succ];exact ih
theorem qCells_one (l:List QEnt):∀ u∈qCells l,u.oneCell'=true:=by
 intro u hu;obtain ⟨s,_,h⟩:=List.mem_flatMap.1 hu;simp at h;rcases h with rfl|rfl|rfl|rfl<;>rfl
def QEnts (B:Option Addr) (ps:List Rat) (w:World) (i:Nat) (es:List QEnt):Prop :=
 es.length=i∧∀ j,j<i→(es[j]?.getD QEnt0).1=decide ((ps[j]?.getD 0).num<0)∧WQ w (ps[j]?.getD 0) (es[j]?.getD QEnt0).2.1.1 (es[j]?.getD QEnt0).2.1.2.1 (es[j]?.getD QEnt0).2.1.2.2 (es[j]?.getD QEnt0).2.2.1 (es[j]?.getD QEnt0).2.2.2.1 (es[j]?.getD QEnt0).2.2.2.2 ∧
  Off B (es[j]?.getD QEnt0).2.1.1 (es[j]?.getD QEnt0).2.1.2.1∧Off B (es[j]?.getD QEnt0).2.2.1 (es[j]?.getD QEnt0).2.2.2.1
section
variable {B:Option Addr} {ps:List Rat} {w w':World} {i:Nat} {es:List QEnt}
theorem QEnts.start:QEnts B ps w 0 []:=⟨rfl,fun j hj=>absurd hj (by omega)⟩
theorem QEnts.below (h:QEnts B ps w i es) (hb:Below w.heap.size w w'):QEnts B ps w' i es :=
 ⟨h.1,fun j hj=>⟨(h.2 j hj).1,(h.2 j hj).2.1.below hb,(h.2 j hj).2.2⟩⟩
theorem QEnts.app {B':Option Addr} (h:QEnts B ps w i es) (hk:Kept w w' B) (hs:SameOr w B B'):QEnts B' ps w' i es:=by
 refine ⟨h.1,fun j hj=>?_⟩;obtain ⟨h1,⟨h2,h3,h4,h5⟩,h6,h7⟩:=h.2 j hj;exact ⟨h1,⟨h2,h3,h4.kept h6 hk,h5.kept h7 hk⟩,Off.same h4 h6 hs,Off.same h5 h7 hs⟩
theorem QEnts.snoc {s:Bool} {A A':Option Addr} {k c k' c':Nat} (h:QEnts B ps w i es) (h1:s=decide ((ps[i]?.getD 0).num<0)) (h2:WQ w (ps[i]?.getD 0) A k c A' k' c') (h3:Off B A k) (h4:Off B A' k'):QEnts B ps w (i+1) (es ++ [(s,(A,k,c),(A',k',c'))]):=by
 have hl:=h.1;refine ⟨by simp [hl],fun j hj=>?_⟩;by_cases hji:j<i
 ·rw [List.getElem?_append_left (by omega)];exact h.2 j hji
 ·obtain rfl:j=i:=by omega
  rw [List.getElem?_append_right (by omega),hl,Nat.sub_self];exact ⟨h1,h2,h3,h4⟩
theorem Own.qs {base:Nat} {e:TypeId} {n c:Nat} (h:Own base e 4 w B n c (qCells es)) (hl:ps.length=n) (he:QEnts B ps w n es):QsAt w B n ps:=by
 refine ⟨hl,fun hn=>?_⟩;have hel:=he.1;have hcl:=qCells_len es;obtain ⟨g,cap,hv,hb,hlt⟩:=World.ownsRow.form h (by omega);simp at hv;obtain ⟨rfl,rfl⟩:=hv;refine ⟨g,0,rfl,hlt,fun j hj=>?_⟩;obtain ⟨g1,g2,g3,g4⟩:=qCells_get es j (by omega);obtain ⟨e1,e2,_,_⟩:=he.2 j hj;refine ⟨_,_,_,_,_,_,?_,?_,?_,?_,e2⟩
 ·rw [Nat.zero_add,World.ownsRow.cellAt h (j*4) (by omega),g1,e1]
 ·rw [Nat.zero_add,World.ownsRow.cellAt h (j*4+1) (by omega),g2]
 ·rw [Nat.zero_add,World.ownsRow.cellAt h (j*4+2) (by omega),g3]
 ·rw [Nat.zero_add,World.ownsRow.cellAt h (j*4+3) (by omega),g4]
end
theorem info_q:(Tryz.prog.info? 42).map (fun i=>(i.zero,i.size,i.bytes))=some (some (.agg #[.bool false,.slice none 0 0,.bool false,.slice none 0 0]),4,64):=by kernel_rfl
end Go.Proofs.YtjajigkacccdgaaGreat
