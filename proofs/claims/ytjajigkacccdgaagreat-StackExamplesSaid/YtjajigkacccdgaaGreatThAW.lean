/-
Lemmas of the walk; no further conditions.
-/
import Derived.Test.YtjajigkacccdgaaGreatThAV
import Derived.Deep.RegionWith
import Derived.Deep.DrawnRows
set_option linter.unusedVariables false
set_option linter.unusedSimpArgs false
set_option maxRecDepth 100000
set_option maxHeartbeats 16000000
namespace Go.Proofs.YtjajigkacccdgaaGreat
open Go.RowKit
open Wd
def wd2 (hs:List Int) (j:Nat):Nat:=(hs[2*j]?.getD 0+hs[2*j+1]?.getD 0*65536).toNat
def wdsL (hs:List Int) (m:Nat):List Nat:=(List.range m).map (wd2 hs)
def Dg (hs:List Int):Prop:=∀ i:Nat,0≤hs[i]?.getD 0∧hs[i]?.getD 0<65536
theorem wd2_lt {hs:List Int} (h:Dg hs) (j:Nat):wd2 hs j<4294967296∧((wd2 hs j:Nat):Int)=hs[2*j]?.getD 0+hs[2*j+1]?.getD 0*65536:=by
 have h1:=h (2*j);have h2:=h (2*j+1);unfold wd2;omega
theorem wdsL_snoc (hs:List Int) (m:Nat):wdsL hs (m+1)=wdsL hs m ++ [wd2 hs m]:=by
 unfold wdsL;rw [List.range_succ,List.map_append]
 rfl
theorem wdsL_len (hs:List Int) (m:Nat):(wdsL hs m).length=m:=by simp [wdsL]
theorem wdsL_Ws {hs:List Int} (h:Dg hs) (m:Nat):Ws (wdsL hs m):=fun x hx=>by
 obtain ⟨j,_,rfl⟩:=List.mem_map.1 hx;exact (wd2_lt h j).1
theorem u32_one {b:Int}:∀ u∈(#[.int .u32 b]:Array Value).toList,u.oneCell'=true:=by
 intro u hu;simp at hu;rw [hu]
 rfl
def RetOf (w:World) (neg:Bool) (l:List Nat) (e:Ending) (w':World):Prop :=
 ∃ A c,e=.returned (.agg #[.bool (neg && decide (0<l.length)),.slice A l.length c])∧l.length≤c∧Wat w' A l.length l∧Fresh w.heap.size w' A l.length∧Below w.heap.size w w'
theorem rof_any (neg:Bool) (A:Option Addr) (n c:Nat) (hs:List Int) (w:World) (h:IsAt w A n hs) (hnc:n≤c) (hn:n≤1000000000000) (hd:Dg hs) :
  Calls Tryz.prog 184 #[.bool neg,.slice A n c] w (RetOf w neg (wdsL (hs.take (tl hs n)) ((tl hs n+1) / 2))):=by
 have HT:=Hj (fun W (hW:Below w.heap.size w W)=>rtrim_any A n c hs W (h.below hW) hnc (by omega));have hk:=tl_le hs n;have hd2:Dg (hs.take (tl hs n)):=fun i=>by
  rw [List.getElem?_take];split
  ·exact hd i
  ·simp
 generalize hs.take (tl hs n)=ts at *;generalize tl hs n=k at *;obtain ⟨ii,hii,hz0,hz1,hz2⟩:=info_parts info_u32;have HI:=Hj hii;have HZ0:=Hj hz0;have HZ1:=Hj hz1;have HZ2:=Hj hz2;have HD:=Hj hd2;clear h hii hz0 hz1 hz2 hd hd2;go_enter Tryz.func184,Tryz.ntmps184
 go_wp2_with fail
 have hbx:=Blk.new w 40 #[.bool false,.slice none 0 0];have hb0:Below w.heap.size w (w.alloc (.cells #[.bool false,.slice none 0 0] 40)):=(Below.refl _ _).alloc (Nat.le_refl _) _;generalize w.alloc (.cells #[.bool false,.slice none 0 0] 40)=W at *;refine (HT.out W hb0).mono ?_;rintro e w1 ⟨A1,rfl,hI,rfl⟩;have HI1:=Hj hI;have HBX:=Hj hbx;have HB0:=Hj hb0;have hwl:w.heap.size<w1.heap.size:=hbx.lt;clear hI HT hbx hb0
 go_wp2_with fail
 go_loopw [5,6] (fun tw t wr=>∃ (j:Nat) (Aw:Option Addr) (cw:Nat),2*j≤k+1∧t=.int .i64 ((2*j:Nat):Int)∧tw=.slice Aw j cw∧Hid (Below w1.heap.size w1 wr∧Own w1.heap.size 59 1 wr Aw j cw (u32s (wdsL ts j)))) (fun _ t _=>k+1-(intOf t).toNat)
 case atStart=>exact ⟨0,none,0,by omega,rfl,rfl,Below.refl _ _,Own.nil _ _ _ _⟩
 case round =>
  obtain ⟨j,Aw,cw,hj,rfl,rfl,hR⟩:=hrel;by_cases hlt:2*j<k
  ·obtain ⟨hB,hO⟩:=hR.out;obtain ⟨x1,x2⟩:=wd2_lt HD.out j;have y1:=HD.out (2*j);have y2:=HD.out (2*j+1);have T1:=rat_any A1 k c (2*j) ts wr (HI1.out.below hB);have T2:=rat_any A1 k c (2*j+1) ts wr (HI1.out.below hB);have hsn:=wdsL_snoc ts j;generalize ts[2*j]?.getD 0=a at *;generalize ts[2*j+1]?.getD 0=b at *;generalize wd2 ts j=d at *;have e1:IntKind.u32.wrap a=a:=by rw [IntKind.wrap_u32];omega
   have e2:IntKind.u32.wrap b=b:=by rw [IntKind.wrap_u32];omega
   have e3:IntKind.u32.wrap (b*65536)=b*65536:=by rw [IntKind.wrap_u32];omega
   have e4:IntKind.u32.wrap (a+b*65536)=(d:Int):=by rw [IntKind.wrap_u32];omega
   have e5:IntKind.i64.wrap (((2*j:Nat):Int)+1)=((2*j+1:Nat):Int):=IntWalk.i64_in _ (by omega);have d1:decide (((2*j:Nat):Int)<(k:Int))=true:=decide_eq_true (by omega);have e6:IntKind.i64.wrap (((2*j:Nat):Int)+2)=((2*(j+1):Nat):Int):=IntWalk.i64_in _ (by omega);have HT1:=Hj T1;have HT2:=Hj T2;have HSN:=Hj hsn;have HX2:=Hj x2;clear T1 T2 hsn x2 y1 y2 hR;generalize hz:((2*j:Nat):Int)=z at *;have HZ:=Hj hz;generalize hz':((2*j+1:Nat):Int)=z' at *;generalize hz2:((2*(j+1):Nat):Int)=z2 at *;have HZ2':=Hj hz2;clear hz hz' hz2;have k1:=(Kp.refl wr).alloc (.cells #[.int .u32 (d:Int)] 59);have q1:Below w1.heap.size w1 (wr.alloc (.cells #[.int .u32 (d:Int)] 59)):=hB.trans (Below.mono k1 hB.size);have o1:=hO.keep k1;have m1:=Blk.new wr 59 #[.int .u32 (d:Int)]
   go_wp2_with fail
   refine HT1.out.mono ?_;rintro e w2 ⟨rfl,rfl⟩;clear HT1
   go_wp2_with fail
   refine HT2.out.mono ?_;rintro e w3 ⟨rfl,rfl⟩;clear HT2
   go_wp2_with (first
    | (at_builtin;refine wpList_append_my rfl (base:=w1.heap.size) (e:=59) (size:=1) (bytes:=4) (.tmp 15) (.tmp 27) 38 rfl Tryz.underlying38 HI.out HZ0.out HZ1.out HZ2.out rfl (by decide) (xs:=u32s (wdsL ts j)) (news:=[.int .u32 (d:Int)]) rfl (by exact o1) rfl (by exact Blk.src m1 rfl u32_one) (by simp only [maxLen];omega) (by omega) (by exact q1.size) ?_
       intro B1 cb1 w4 hO1 hb1 hk1;have g1:Below w1.heap.size w1 w4:=q1.trans hb1;clear hb1 hk1))
   have hfin:Below w1.heap.size w1 w4∧Own w1.heap.size 59 1 w4 B1 (j+1) cb1 (u32s (wdsL ts (j+1))):=by
    refine ⟨g1,?_⟩;rw [HSN.out,u32s_append];exact hO1
   have HF:=Hj hfin;clear hfin g1 hO1 m1 o1 q1 k1 hO hB;go_wp2;go_roundw
   case rel=>exact ⟨j+1,B1,cb1,by omega,by rw [HZ2'.out],rfl,HF.out⟩
   case measure=>rw [← HZ2'.out,← HZ.out];simp [intOf];omega
  ·obtain ⟨hB,hO⟩:=hR.out;have hjm:(k+1) / 2=j:=by omega
   have d1:decide (((2*j:Nat):Int)<(k:Int))=false:=decide_eq_false (by omega);obtain ⟨A9,c9,hv9,hc9,_,hW9,hF9⟩:=wat_of_own (wdsL_Ws HD.out j) hO;simp at hv9;obtain ⟨rfl,rfl⟩:=hv9;have hbx:=HBX.out.below hB HBX.out.lt;have hB9:Below w.heap.size w wr:=HB0.out.trans (hB.mono HB0.out.size);have hfin:∀ bv,(neg && decide (0<j))=bv→RetOf w neg (wdsL ts ((k+1) / 2)) (.returned (.agg #[.bool bv,.slice Aw j cw])) ((wr.setCell ⟨w.heap.size,0,none⟩ (.bool bv)).setCell ⟨w.heap.size,1,none⟩ (.slice Aw j cw)):=by
    intro bv hbv;rw [hjm];refine ⟨Aw,cw,by rw [wdsL_len,hbv],by rw [wdsL_len];exact hc9,?_,?_,(hB9.setCell (p:=⟨w.heap.size,0,none⟩) (Nat.le_refl _) _).setCell (p:=⟨w.heap.size,1,none⟩) (Nat.le_refl _) _⟩
    ·rw [wdsL_len];exact (hW9.setFar hF9 (p:=⟨w.heap.size,0,none⟩) (by simp;omega) _).setFar (hF9.set _ _) (p:=⟨w.heap.size,1,none⟩) (by simp;omega) _
    ·rw [wdsL_len];exact ((hF9.set _ _).set _ _).mono (by omega)
   have hcell:∀ bv:Bool,((wr.setCell ⟨w.heap.size,0,none⟩ (.bool bv)).setCell ⟨w.heap.size,1,none⟩ (.slice Aw j cw)).cell? ⟨w.heap.size,0,none⟩=some (.bool bv)∧((wr.setCell ⟨w.heap.size,0,none⟩ (.bool bv)).setCell ⟨w.heap.size,1,none⟩ (.slice Aw j cw)).cell? ⟨w.heap.size,1,none⟩=some (.slice Aw j cw):=fun bv=>by
    have hbx2:Blk _ w.heap.size 40 #[.bool bv,.slice Aw j cw]:=(hbx.set 0 (.bool bv)).set 1 (.slice Aw j cw);exact ⟨hbx2.cell 0,hbx2.cell 1⟩
   obtain ⟨b0,b1,f0,f1⟩:=hbx.two;have HF:=Hj hfin;clear hfin hjm hB hO hR hW9 hF9 hB9 hbx;cases neg with
   | false =>
    obtain ⟨g0,g1⟩:=hcell false;have HFF:=Hj (HF.out false rfl);clear hcell;go_wp2;refine bodyPost_ret (v:=.agg #[.bool false,.slice Aw j cw]) ?_ rfl HFF.out;simp [results,Tryz.results184,go_sem,g0,g1]
   | true =>
    by_cases hj0:0<j
    ·have d2:decide ((0:Int)<(j:Int))=true:=decide_eq_true (by omega);obtain ⟨g0,g1⟩:=hcell true;have HFF:=Hj (HF.out true (by simp [hj0]));clear hcell;go_wp2;refine bodyPost_ret (v:=.agg #[.bool true,.slice Aw j cw]) ?_ rfl HFF.out;simp [results,Tryz.results184,go_sem,g0,g1]
    ·have d2:decide ((0:Int)<(j:Int))=false:=decide_eq_false (by omega);obtain ⟨g0,g1⟩:=hcell false;have HFF:=Hj (HF.out false (by simp [hj0]));clear hcell;go_wp2;refine bodyPost_ret (v:=.agg #[.bool false,.slice Aw j cw]) ?_ rfl HFF.out;simp [results,Tryz.results184,go_sem,g0,g1]
theorem tl_zero (hs:List Int):∀ {k i:Nat},tl hs k≤i→i<k→hs[i]?.getD 0=0
 | 0,i,_,h=>absurd h (by omega)
 | k+1,i,h,h2=>by
  rw [tl] at h;split at h
  ·rename_i hz
   by_cases he:i=k
   ·rw [he];exact hz
   ·exact tl_zero hs h (by omega)
  ·omega
theorem tl_last (hs:List Int):∀ {k j:Nat},tl hs k=j+1→hs[j]?.getD 0≠0
 | 0,j,h=>by simp [tl] at h
 | k+1,j,h=>by
  rw [tl] at h;split at h
  ·exact tl_last hs h
  ·rename_i hz
   obtain rfl:k=j:=by omega
   exact hz
theorem tl_idem (hs:List Int) (m:Nat):tl (hs.take (tl hs m)) (tl hs m)=tl hs m:=by
 cases hk:tl hs m with
 | zero=>rfl
 | succ j =>
  have h:=tl_last hs hk;rw [tl,if_neg];rw [List.getElem?_take,if_pos (by omega)];exact h
theorem halvesL_get:∀ (l:List Nat) (j:Nat),(halvesL l)[2*j]?.getD 0=((l[j]?.getD 0:Nat):Int) % 65536∧(halvesL l)[2*j+1]?.getD 0=((l[j]?.getD 0:Nat):Int) / 65536
 | [],j=>by simp [halvesL]
 | d :: l,0=>by simp [halvesL]
 | d :: l,j+1=>by
  have ih:=halvesL_get l j;have e:halvesL (d :: l)=[((d:Nat):Int) % 65536,((d:Nat):Int) / 65536] ++ halvesL l:=by unfold halvesL;rw [List.flatMap_cons]
  rw [e,List.getElem?_append_right (by simp;omega),List.getElem?_append_right (by simp;omega)];rw [show 2*(j+1) - [((d:Nat):Int) % 65536,((d:Nat):Int) / 65536].length=2*j by simp;omega,show 2*(j+1)+1 - [((d:Nat):Int) % 65536,((d:Nat):Int) / 65536].length=2*j+1 by simp;omega,List.getElem?_cons_succ];exact ih
theorem val_zeros:∀ {l:List Nat},(∀ j:Nat,l[j]?.getD 0=0)→val l=0
 | [],_=>rfl
 | d :: l,h=>by
  have h0:=h 0;simp at h0;rw [val_cons,h0,val_zeros fun j=>by have:=h (j+1);simpa using this]
theorem least_digs {l:List Nat} (hw:Ws l):wdsL ((halvesL l).take (tl (halvesL l) (2*l.length))) ((tl (halvesL l) (2*l.length)+1) / 2)=digs (val l):=by
 have hle:=tl_le (halvesL l) (2*l.length);have hz:∀ i:Nat,tl (halvesL l) (2*l.length)≤i→(halvesL l)[i]?.getD 0=0:=fun i hi=>by
  by_cases h:i<2*l.length
  ·exact tl_zero _ hi h
  ·rw [List.getElem?_eq_none (by rw [halvesL_len];omega)];rfl
 have hlast:=fun j=>@tl_last (halvesL l) (2*l.length) j;generalize tl (halvesL l) (2*l.length)=k at *;have hm:(k+1) / 2≤l.length:=by omega
 have hw1:∀ j,j<(k+1) / 2→wd2 ((halvesL l).take k) j=l[j]?.getD 0:=fun j hj=>by
  obtain ⟨g1,g2⟩:=halvesL_get l j;have hd:=hw.get j;have a1:((halvesL l).take k)[2*j]?.getD 0=((l[j]?.getD 0:Nat):Int) % 65536:=by rw [List.getElem?_take,if_pos (by omega)];exact g1
  have a2:((halvesL l).take k)[2*j+1]?.getD 0=((l[j]?.getD 0:Nat):Int) / 65536:=by
   rw [List.getElem?_take];split
   ·exact g2
   ·have:=hz (2*j+1) (by omega);rw [← g2,this]
    rfl
  unfold wd2;rw [a1,a2];omega
 have he:wdsL ((halvesL l).take k) ((k+1) / 2)=l.take ((k+1) / 2):=by
  apply List.ext_getElem (by simp [wdsL];omega);intro j h1 h2;have hj:j<(k+1) / 2:=by simpa [wdsL] using h1
  have:=hw1 j hj;rw [List.getElem?_eq_getElem (by omega)] at this;simpa [wdsL] using this
 rw [he];have hv:val l=val (l.take ((k+1) / 2)):=by
  rw [val_take_drop l _ hm,val_zeros (l:=l.drop ((k+1) / 2)) fun j=>?_,Nat.mul_zero,Nat.add_zero];rw [List.getElem?_drop];obtain ⟨g1,g2⟩:=halvesL_get l ((k+1) / 2+j);have z1:=hz (2*((k+1) / 2+j)) (by omega);have z2:=hz (2*((k+1) / 2+j)+1) (by omega);omega
 rw [hv,digs_val (hw.take _)];intro hl;by_cases h0:k=0
 ·subst h0;simp at hl
 ·obtain ⟨j,rfl⟩:∃ j,k=j+1:=⟨k-1,by omega⟩;have hne:=hlast j rfl;have hlen:(l.take ((j+1+1) / 2)).length=(j+1+1) / 2:=by simp;omega
  rw [List.getLast?_eq_getElem?,hlen,List.getElem?_take,if_pos (by omega)] at hl;obtain ⟨g1,g2⟩:=halvesL_get l ((j+1+1) / 2-1);rw [hl] at g1 g2;simp at g1 g2;by_cases hp:j=2*((j+1+1) / 2-1)
  ·rw [← hp] at g1;exact hne g1
  ·have:j=2*((j+1+1) / 2-1)+1:=by omega
   rw [← this] at g2;exact hne g2
theorem RetOf.toZ {w w':World} {neg:Bool} {l:List Nat} {e:Ending} (hl:Ws l) (h:RetOf w neg (digs (val l)) e w'):RetZ w (sg neg (val l)) e w':=by
 obtain ⟨A,c,he,h1,h2,h3,h4⟩:=h;refine ⟨A,(digs (val l)).length,c,?_,h1,by rw [sg_natAbs];exact h2,h3,h4⟩;rw [he];by_cases hz:val l=0
 ·rw [hz,sg_zero,digs_zero];simp
 ·have hp:0<(digs (val l)).length:=by
   rcases Nat.eq_zero_or_pos (digs (val l)).length with h0|h0
   ·have:=val_digs (val l);rw [List.eq_nil_of_length_eq_zero h0] at this;exact absurd this.symm hz
   ·exact h0
  rw [sg_neg hz,decide_eq_true hp,Bool.and_true]
theorem halvesL_Dg {l:List Nat} (hw:Ws l):Dg (halvesL l):=fun i=>by
 obtain ⟨g1,g2⟩:=halvesL_get l (i / 2);have hd:=hw.get (i / 2);rcases Nat.mod_two_eq_zero_or_one i with h|h
 ·rw [show 2*(i / 2)=i by omega] at g1;omega
 ·rw [show 2*(i / 2)+1=i by omega] at g2;omega
theorem Dg.take {hs:List Int} (h:Dg hs) (k:Nat):Dg (hs.take k):=fun i=>by
 rw [List.getElem?_take];split
 ·exact h i
 ·simp
theorem rleast_any (neg:Bool) (A:Option Addr) (n c:Nat) (l:List Nat) (w:World) (h:Wat w A n l) (hm:n≤10000000000) :
  Calls Tryz.prog 134 #[.agg #[.bool neg,.slice A n c]] w (RetZ w (sg neg (val l))):=by
 have hF:∀ (W:World) A1 c1,IsAt W A1 (tl (halvesL l) (2*n)) ((halvesL l).take (tl (halvesL l) (2*n)))→tl (halvesL l) (2*n)≤c1 →
   Calls Tryz.prog 184 #[.bool neg,.slice A1 (tl (halvesL l) (2*n)) c1] W (RetZ W (sg neg (val l))):=fun W A1 c1 hI hc=>by
  have hk:=tl_le (halvesL l) (2*n);refine (rof_any neg A1 _ c1 _ W hI hc (by omega) ((halvesL_Dg h.2.1).take _)).mono fun e w' hr=>?_;rw [← h.1] at hr hk;rw [tl_idem,List.take_take,Nat.min_self,least_digs h.2.1] at hr;exact hr.toZ h.2.1
 go_enter Tryz.func134,Tryz.ntmps134
 go_wp2_with fail
 obtain ⟨hB0,hB1,hBW,hsz⟩:=pre2 w 40 #[.bool neg,.slice A n c] 40 #[.bool false,.slice none 0 0];generalize (w.alloc (.cells #[.bool neg,.slice A n c] 40)).alloc (.cells #[.bool false,.slice none 0 0] 40)=W at *;have HSZ:=Hj hsz;have HFF:=Hj hF;clear hsz hF;have s4:=RS.start hB1;have hw:∀ w',RS (w.heap.size+1) 40 W w'→Wat w' A n l:=fun w' hk=>h.below (hBW.trans (hk.1.mono (by omega)));have HW:=Hj hw;clear hw;have hS:∀ w',RS (w.heap.size+1) 40 W w'→(w'.cell? ⟨w.heap.size,0,none⟩=some (.bool neg)∧w'.cell? ⟨w.heap.size,1,none⟩=some (.slice A n c))∧RS (w.heap.size+1) 40 W w':=fun w' hk=>⟨⟨(hk.blk hB0 (by omega)).cell 0,(hk.blk hB0 (by omega)).cell 1⟩,hk⟩;have HS:=Hj hS;clear hS;clear hB0 hB1
 go_region_held3 (fun w'=>(w'.cell? ⟨w.heap.size,0,none⟩=some (.bool neg)∧w'.cell? ⟨w.heap.size,1,none⟩=some (.slice A n c))∧RS (w.heap.size+1) 40 W w')
  (first|exact HS.out _ (by assumption)|exact HS.out _ (RS.drew (by assumption))|exact HS.out _ (RS.drew (And.right (by assumption)))|exact HS.out _ (RS.set (And.right (by assumption)) _ _))
  (first
   | (go_at_call 186;have hk:=And.right ‹_∧RS (w.heap.size+1) 40 W _›;refine (rhalves_any A n c l _ (HW.out _ hk) (by omega)).mono ?_;rintro e w1 ⟨A1,c1,rfl,hI1,hb1,hc1⟩;have hr1:=hk.call hb1)
   | (go_at_call 184;have hk:=And.right ‹_∧RS (w.heap.size+1) 40 W _›;refine (HFF.out _ A1 c1 hI1 hc1).mono ?_;intro e w2 hr;obtain ⟨A2,k2,c2,rfl,hk2,hW2,hF2,hb2⟩:=hr;have hr2:=hr1.call hb2;obtain ⟨_,_,c0,c1,f0,f1⟩:=hr2.two))
 have hfin:=retZ_close hBW (by omega) (by obtain ⟨_,_,_,hx⟩:=hr1;exact hx.lt) hr2 hk2 hW2 hF2;obtain ⟨d0,d1,-,-⟩:=(hr2.done (.bool (decide (sg neg (val l)<0))) (.slice A2 k2 c2)).two;have HF:=Hj hfin;clear hfin;go_wp2;refine bodyPost_ret (v:=.agg #[.bool (decide (sg neg (val l)<0)),.slice A2 k2 c2]) ?_ rfl HF.out;simp [results,Tryz.results134,go_sem,d0,d1]
theorem blk_wat2 {w:World} {g d d':Nat} {t:TypeId} (h:Blk w g t #[.int .u32 ((d:Nat):Int),.int .u32 ((d':Nat):Int)]) (h1:d<4294967296) (h2:d'<4294967296):Wat w (some ⟨g,0,none⟩) 2 [d,d']:=by
 refine ⟨rfl,?_,fun _=>⟨g,0,rfl,h.lt,fun j hj=>?_⟩⟩
 ·intro x hx;simp at hx;rcases hx with rfl|rfl<;>assumption
 ·obtain ⟨a,b,_,_⟩:=h.two;rcases j with _|_|j
  ·exact a
  ·exact b
  ·omega
theorem val_two (u:Nat):val [u % 4294967296,u / 4294967296]=u:=by
 rw [val_cons,val_cons,val_nil];omega
theorem rfrom_any (z:Int) (w:World) (h1 : -9223372036854775808≤z) (h2:z≤9223372036854775807) :
  Calls Tryz.prog 87 #[.int .i64 z] w (RetZ w z):=by
 by_cases hz:z<0
 ·have hw:IntKind.u64.wrap (-(IntKind.u64.wrap z))=(z.natAbs:Int):=by
   rw [IntKind.wrap_u64,IntKind.wrap_u64];omega
  have hw2:IntKind.u64.wrap ((z.natAbs:Int).tdiv 4294967296)=((z.natAbs / 4294967296:Nat):Int):=by
   rw [IntKind.wrap_u64,Int.tdiv_eq_ediv_of_nonneg (by omega)];omega
  have hm1:(z.natAbs:Int).tmod 4294967296 % 4294967296=((z.natAbs % 4294967296:Nat):Int):=by
   rw [Int.tmod_eq_emod_of_nonneg (by omega)];omega
  have hm2:((z.natAbs / 4294967296:Nat):Int) % 4294967296=((z.natAbs / 4294967296:Nat):Int):=by omega
  have hs:sg true (val [z.natAbs % 4294967296,z.natAbs / 4294967296])=z:=by rw [val_two];unfold sg;simp;omega
  have hd:z.natAbs % 4294967296<4294967296:=by omega
  have hd':z.natAbs / 4294967296<4294967296:=by omega
  have HW:=Hj hw;have HW2:=Hj hw2;have HM1:=Hj hm1;have HM2:=Hj hm2;clear hw hw2 hm1 hm2 h1 h2;go_enter Tryz.func87,Tryz.ntmps87
  go_wp2_with fail
  rw [HW.out,HW2.out,HM1.out,HM2.out];generalize z.natAbs % 4294967296=d at *;generalize z.natAbs / 4294967296=d' at *;clear HW HW2 HM1 HM2;clear hz;have HZ:=Hj hs;have hg:=(Blk.new w 40 #[.bool false,.slice none 0 0]).alloc (.cells #[.int .u32 ((d:Nat):Int),.int .u32 ((d':Nat):Int)] 59);have hu:=blk_wat2 (Blk.new1 w (.cells #[.bool false,.slice none 0 0] 40) 59 #[.int .u32 ((d:Nat):Int),.int .u32 ((d':Nat):Int)]) hd hd';have hbw:Below w.heap.size w ((w.alloc (.cells #[.bool false,.slice none 0 0] 40)).alloc (.cells #[.int .u32 ((d:Nat):Int),.int .u32 ((d':Nat):Int)] 59)):=((Below.refl _ _).alloc (Nat.le_refl _) _).alloc (by simp) _;have hsz:((w.alloc (.cells #[.bool false,.slice none 0 0] 40)).alloc (.cells #[.int .u32 ((d:Nat):Int),.int .u32 ((d':Nat):Int)] 59)).heap.size=w.heap.size+2:=by simp
  generalize (w.alloc (.cells #[.bool false,.slice none 0 0] 40)).alloc (.cells #[.int .u32 ((d:Nat):Int),.int .u32 ((d':Nat):Int)] 59)=W at *;refine (rleast_any _ _ 2 2 [d,d'] W hu (by omega)).mono ?_;rw [HZ.out];rintro e w1 ⟨A,k,c,rfl,hk,hW,hF,hB⟩;have hg1:=hg.below hB (by omega);have hfin:=retZ_close hbw (by omega) (by omega) ⟨hB.mono (by omega),_,_,hg1⟩ hk hW hF;have hg2:=hg1.set2 (.bool (decide (z<0))) (.slice A k c);obtain ⟨c0,c1,f0,f1⟩:=hg1.two;have HF:=Hj hfin;clear hfin hu hbw hsz hB hW hF hg hg1;generalize decide (z<0)=zb at *;go_wp2;obtain ⟨d0,d1,-,-⟩:=hg2.two;refine bodyPost_ret (v:=.agg #[.bool zb,.slice A k c]) ?_ rfl HF.out;simp [results,Tryz.results87,go_sem,d0,d1]
 ·have hn:z=(z.natAbs:Int):=by omega
  generalize z.natAbs=n at *;have hm1:z % 4294967296=((n % 4294967296:Nat):Int):=by omega
  have hm2:z / 4294967296=((n / 4294967296:Nat):Int):=by omega
  have hdz:decide (z<0)=false:=decide_eq_false hz;have hs:sg false (val [n % 4294967296,n / 4294967296])=z:=by rw [val_two,hn];unfold sg;simp
  have hd:n % 4294967296<4294967296:=by omega
  have hd':n / 4294967296<4294967296:=by omega
  have HM1:=Hj hm1;have HM2:=Hj hm2;have HDZ:=Hj hdz;clear hm1 hm2 hdz hn;go_enter Tryz.func87,Tryz.ntmps87
  go_wp2_with fail
  rw [HM1.out,HM2.out];clear HM1 HM2 hz HDZ;generalize n % 4294967296=d at *;generalize n / 4294967296=d' at *;have HZ:=Hj hs;have hg:=(Blk.new w 40 #[.bool false,.slice none 0 0]).alloc (.cells #[.int .u32 ((d:Nat):Int),.int .u32 ((d':Nat):Int)] 59);have hu:=blk_wat2 (Blk.new1 w (.cells #[.bool false,.slice none 0 0] 40) 59 #[.int .u32 ((d:Nat):Int),.int .u32 ((d':Nat):Int)]) hd hd';have hbw:Below w.heap.size w ((w.alloc (.cells #[.bool false,.slice none 0 0] 40)).alloc (.cells #[.int .u32 ((d:Nat):Int),.int .u32 ((d':Nat):Int)] 59)):=((Below.refl _ _).alloc (Nat.le_refl _) _).alloc (by simp) _;have hsz:((w.alloc (.cells #[.bool false,.slice none 0 0] 40)).alloc (.cells #[.int .u32 ((d:Nat):Int),.int .u32 ((d':Nat):Int)] 59)).heap.size=w.heap.size+2:=by simp
  generalize (w.alloc (.cells #[.bool false,.slice none 0 0] 40)).alloc (.cells #[.int .u32 ((d:Nat):Int),.int .u32 ((d':Nat):Int)] 59)=W at *;refine (rleast_any _ _ 2 2 [d,d'] W hu (by omega)).mono ?_;rw [HZ.out];rintro e w1 ⟨A,k,c,rfl,hk,hW,hF,hB⟩;have hg1:=hg.below hB (by omega);have hfin:=retZ_close hbw (by omega) (by omega) ⟨hB.mono (by omega),_,_,hg1⟩ hk hW hF;have hg2:=hg1.set2 (.bool (decide (z<0))) (.slice A k c);obtain ⟨c0,c1,f0,f1⟩:=hg1.two;have HF:=Hj hfin;clear hfin hu hbw hsz hB hW hF hg hg1;generalize decide (z<0)=zb at *;go_wp2;obtain ⟨d0,d1,-,-⟩:=hg2.two;refine bodyPost_ret (v:=.agg #[.bool zb,.slice A k c]) ?_ rfl HF.out;simp [results,Tryz.results87,go_sem,d0,d1]
def NoInt (cs:Array Value):Prop:=∀ (i:Nat) (k:IntKind) (z:Int),cs[i]?≠some (.int k z)
theorem NoInt.four {a b:Bool} {A A':Option Addr} {n c n' c':Nat}:NoInt #[.bool a,.slice A n c,.bool b,.slice A' n' c']:=by
 intro i k z
 match i with
 | 0=>simp
 | 1=>simp
 | 2=>simp
 | 3=>simp
 | i+4=>simp
theorem NoInt.set {cs:Array Value} (h:NoInt cs) (i:Nat) (v:Value) (hv:∀ k z,v≠.int k z):NoInt (cs.setIfInBounds i v):=by
 intro j k z;rw [Array.getElem?_setIfInBounds];split
 ·split
  ·intro e;injection e with e;exact hv _ _ e
  ·simp
 ·exact h j k z
theorem Wat.setQ {w:World} {A:Option Addr} {n:Nat} {l:List Nat} {g:Nat} {t:TypeId} {cs:Array Value} (h:Wat w A n l) (hb:Blk w g t cs) (hn:NoInt cs) (i:Nat) (u:Value):Wat (w.setCell ⟨g,i,none⟩ u) A n l:=by
 refine ⟨h.1,h.2.1,fun hn0=>?_⟩;obtain ⟨b,o,rfl,hlt,hc⟩:=h.2.2 hn0;have hne:b≠g:=by
  intro e;subst e;have h0:=hc 0 (by omega);rw [hb.cell] at h0;exact hn _ _ _ h0
 refine ⟨b,o,rfl,by simpa [World.setCell] using hlt,fun j hj=>?_⟩;rw [World.cell?_of_block (w:=w) (Below.heap_setCell w _ u b (by simpa using hne))];exact hc j hj
def qst (w:World) (g o:Nat) (a b:Bool) (A A':Option Addr) (k c k' c':Nat):World :=
 (((w.setCell ⟨g,o,none⟩ (.bool a)).setCell ⟨g,o+1,none⟩ (.slice A k c)).setCell ⟨g,o+2,none⟩ (.bool b)).setCell ⟨g,o+3,none⟩ (.slice A' k' c')
def qput (cs:Array Value) (o:Nat) (a b:Bool) (A A':Option Addr) (k c k' c':Nat):Array Value :=
 (((cs.setIfInBounds o (.bool a)).setIfInBounds (o+1) (.slice A k c)).setIfInBounds (o+2) (.bool b)).setIfInBounds (o+3) (.slice A' k' c')
section
variable {w:World} {g o:Nat} {a b:Bool} {A A':Option Addr} {k c k' c':Nat} {cs:Array Value} {t:TypeId}
theorem NoInt.put4 (h:NoInt cs):NoInt (qput cs o a b A A' k c k' c') :=
 (((h.set o _ (by simp)).set (o+1) _ (by simp)).set (o+2) _ (by simp)).set (o+3) _ (by simp)
theorem Blk.put4 (h:Blk w g t cs):Blk (qst w g o a b A A' k c k' c') g t (qput cs o a b A A' k c k' c') :=
 (((h.set o _).set (o+1) _).set (o+2) _).set (o+3) _
theorem Blk.far4 {g':Nat} {t':TypeId} {cs':Array Value} (h:Blk w g' t' cs') (hne:g'≠g):Blk (qst w g o a b A A' k c k' c') g' t' cs' :=
 (((h.far (by simpa using hne) _).far (by simpa using hne) _).far (by simpa using hne) _).far (by simpa using hne) _
theorem Wat.put4 {B:Option Addr} {n:Nat} {l:List Nat} (hW:Wat w B n l) (h:Blk w g t cs) (hn:NoInt cs):Wat (qst w g o a b A A' k c k' c') B n l:=by
 have b1:=h.set o (.bool a);have n1:=hn.set o (.bool a) (by simp);have b2:=b1.set (o+1) (.slice A k c);have n2:=n1.set (o+1) (.slice A k c) (by simp);have b3:=b2.set (o+2) (.bool b);have n3:=n2.set (o+2) (.bool b) (by simp);exact (((hW.setQ h hn _ _).setQ b1 n1 _ _).setQ b2 n2 _ _).setQ b3 n3 _ _
theorem below_qst {B:Nat} {w0:World} (h:Below B w0 w) (hg:B≤g):Below B w0 (qst w g o a b A A' k c k' c') :=
 (((h.setCell (p:=⟨g,o,none⟩) hg _).setCell (p:=⟨g,o+1,none⟩) hg _).setCell (p:=⟨g,o+2,none⟩) hg _).setCell (p:=⟨g,o+3,none⟩) hg _
theorem qput_size:(qput cs o a b A A' k c k' c').size=cs.size:=by simp [qput]
theorem qput_same (h:o+3<cs.size):(qput cs o a b A A' k c k' c')[o]?=some (.bool a)∧(qput cs o a b A A' k c k' c')[o+1]?=some (.slice A k c)∧(qput cs o a b A A' k c k' c')[o+2]?=some (.bool b)∧(qput cs o a b A A' k c k' c')[o+3]?=some (.slice A' k' c'):=by
 unfold qput;refine ⟨?_,?_,?_,?_⟩<;>simp [Array.getElem?_setIfInBounds]<;>omega
theorem qput_other {j:Nat} (h:j<o∨o+3<j):(qput cs o a b A A' k c k' c')[j]?=cs[j]?:=by
 unfold qput;rw [Array.getElem?_setIfInBounds_ne (by omega),Array.getElem?_setIfInBounds_ne (by omega),Array.getElem?_setIfInBounds_ne (by omega),Array.getElem?_setIfInBounds_ne (by omega)]
end
def QRow (w:World) (g n:Nat) (ps:List Rat):Prop :=
 ps.length=n∧∃ cs,Blk w g 42 cs∧NoInt cs∧cs.size=n*4∧∀ j,j<n→∃ A k c A' k' c',
  cs[j*4]?=some (.bool (decide ((ps[j]?.getD 0).num<0)))∧cs[j*4+1]?=some (.slice A k c)∧cs[j*4+2]?=some (.bool false)∧cs[j*4+3]?=some (.slice A' k' c') ∧
  k≤c∧k'≤c'∧Wat w A k (digs (ps[j]?.getD 0).num.natAbs)∧Wat w A' k' (denW (ps[j]?.getD 0).den)
theorem QRow.below {w w':World} {g n:Nat} {ps:List Rat} (h:QRow w g n ps) (hb:Below w.heap.size w w'):QRow w' g n ps:=by
 obtain ⟨h1,cs,h2,h3,h4,h5⟩:=h;refine ⟨h1,cs,h2.below hb h2.lt,h3,h4,fun j hj=>?_⟩;obtain ⟨A,k,c,A',k',c',e1,e2,e3,e4,e5,e6,e7,e8⟩:=h5 j hj;exact ⟨A,k,c,A',k',c',e1,e2,e3,e4,e5,e6,e7.below hb,e8.below hb⟩
theorem QRow.put {w:World} {g n i:Nat} {ps:List Rat} {q:Rat} {A A':Option Addr} {k c k' c':Nat} (h:QRow w g n ps) (hi:i<n) (hk:k≤c) (hk':k'≤c') (hW:Wat w A k (digs q.num.natAbs)) (hW':Wat w A' k' (denW q.den)) :
  QRow (qst w g (i*4) (decide (q.num<0)) false A A' k c k' c') g n (ps.set i q):=by
 obtain ⟨h1,cs,h2,h3,h4,h5⟩:=h;refine ⟨by simpa using h1,_,h2.put4,h3.put4,by rw [qput_size,h4],fun j hj=>?_⟩;by_cases hji:j=i
 ·subst hji;have e:((ps.set j q)[j]?.getD 0)=q:=by simp [h1,hj]
  rw [e];obtain ⟨p1,p2,p3,p4⟩:=qput_same (cs:=cs) (o:=j*4) (a:=decide (q.num<0)) (b:=false) (A:=A) (A':=A') (k:=k) (c:=c) (k':=k') (c':=c') (by omega);exact ⟨A,k,c,A',k',c',p1,p2,p3,p4,hk,hk',hW.put4 h2 h3,hW'.put4 h2 h3⟩
 ·have e:((ps.set i q)[j]?.getD 0)=(ps[j]?.getD 0):=by rw [List.getElem?_set_ne (Ne.symm hji)]
  rw [e];obtain ⟨B,m,d,B',m',d',e1,e2,e3,e4,e5,e6,e7,e8⟩:=h5 j hj;refine ⟨B,m,d,B',m',d',?_,?_,?_,?_,e5,e6,e7.put4 h2 h3,e8.put4 h2 h3⟩
  ·rw [qput_other (by omega)];exact e1
  ·rw [qput_other (by omega)];exact e2
  ·rw [qput_other (by omega)];exact e3
  ·rw [qput_other (by omega)];exact e4
theorem QRow.far4 {w:World} {g g' n o:Nat} {ps:List Rat} {a b:Bool} {A A':Option Addr} {k c k' c':Nat} {t:TypeId} {cs:Array Value} (h:QRow w g n ps) (hne:g≠g') (hb:Blk w g' t cs) (hn:NoInt cs) :
  QRow (qst w g' o a b A A' k c k' c') g n ps:=by
 obtain ⟨h1,cs',h2,h3,h4,h5⟩:=h;refine ⟨h1,cs',h2.far4 hne,h3,h4,fun j hj=>?_⟩;obtain ⟨B,m,d,B',m',d',e1,e2,e3,e4,e5,e6,e7,e8⟩:=h5 j hj;exact ⟨B,m,d,B',m',d',e1,e2,e3,e4,e5,e6,e7.put4 hb hn,e8.put4 hb hn⟩
theorem QAt.put4 {w:World} {Nn Nd:Nat} {neg neg':Bool} {B B':Option Addr} {n d n' d':Nat} {q:Rat} {g o:Nat} {a b:Bool} {A A':Option Addr} {k c k' c':Nat} {t:TypeId} {cs:Array Value} (h:QAt Nn Nd w neg B n d neg' B' n' d' q) (hb:Blk w g t cs) (hn:NoInt cs) :
  QAt Nn Nd (qst w g o a b A A' k c k' c') neg B n d neg' B' n' d' q:=by
 obtain ⟨na,da,⟨l,l',h1,h2,h3⟩,h4⟩:=h;exact ⟨na,da,⟨l,l',h1.put4 hb hn,h2.put4 hb hn,h3⟩,h4⟩
def lessQ (r:Rat) (a:Int):Rat:=if (a:Rat)<r then (a:Rat) else r
def restAt (l:List (Int×Int)) (q:Rat):Nat→Rat
 | 0=>q
 | k+1=>restAt l q k-lessQ (restAt l q k) (l[k]?.getD (0,0)).1
def partAt (l:List (Int×Int)) (q:Rat) (k:Nat):Rat:=lessQ (restAt l q k) (l[k]?.getD (0,0)).1
theorem sub_whole (r:Rat) (a:Int):(r-(a:Rat)).num=r.num-a*r.den∧(r-(a:Rat)).den=r.den:=by
 have hd:=r.den_nz;have e0:r-(a:Rat)=mkRat (r.num-a*r.den) r.den:=by
  have e1:r=mkRat r.num r.den:=(Rat.mkRat_self r).symm;have e2:(a:Rat)=mkRat a 1:=by rw [Rat.mkRat_one]
  have:=rat_sub r.num a (r.den:Int) 1 (by omega) (by omega);simp only [Int.natAbs_natCast,Int.mul_one] at this;rw [show (1:Int).natAbs=1 from rfl,← e1,← e2] at this;exact this
 have hg:Nat.gcd (r.num-a*r.den).natAbs r.den=1:=by
  have h1:Nat.gcd r.num.natAbs r.den=1:=r.reduced;have h2:Int.gcd (r.num-a*r.den) r.den=Int.gcd r.num r.den:=by
   rw [Int.sub_eq_add_neg,← Int.neg_mul,Int.mul_comm (-a),Int.gcd_add_mul_left_left]
  exact h2.trans h1
 rw [e0,mk_num _ _ hd,mk_den _ _ hd,hg];simp
theorem rest_bd {r:Rat} {a:Int} {Nn Nd:Nat} (h0:0≤r) (ha:0≤a) (hn:r.num.natAbs<Nn) (hd:r.den<Nd) :
  0≤r-lessQ r a∧(r-lessQ r a).num.natAbs<Nn∧(r-lessQ r a).den<Nd:=by
 have hdp:=r.den_pos;unfold lessQ;split
 ·rename_i hlt
  obtain ⟨e1,e2⟩:=sub_whole r a;have h1:0≤r-(a:Rat):=by grind
  have h2:0≤(r-(a:Rat)).num:=Rat.num_nonneg.2 h1;have h3:0≤r.num:=Rat.num_nonneg.2 h0;refine ⟨h1,?_,by rw [e2];exact hd⟩;have h4:0≤a*r.den:=Int.mul_nonneg ha (by omega);rw [e1] at h2 ⊢;omega
 ·have e:r-r=0:=by grind
  rw [e];refine ⟨Rat.le_refl,?_,?_⟩
  ·show 0<Nn;omega
  ·show 1<Nd;omega
theorem QAt.bd {Nn Nd:Nat} {w:World} {neg neg':Bool} {A A':Option Addr} {n c n' c':Nat} {q:Rat} (h:QAt Nn Nd w neg A n c neg' A' n' c' q):q.num.natAbs<Nn∧q.den<Nd:=by
 obtain ⟨na,da,_,h1,h2,rfl⟩:=h;have hp:=qden_pos da;rw [mk_num _ _ (by omega),mk_den _ _ (by omega)];refine ⟨?_,Nat.lt_of_le_of_lt (Nat.div_le_self _ _) h2⟩;rw [Int.natAbs_tdiv];exact Nat.lt_of_le_of_lt (Nat.div_le_self _ _) h1
theorem info_Q:(Tryz.prog.info? 42).map (fun i=>(i.zero,i.size,i.bytes))=some (some (.agg #[.bool false,.slice none 0 0,.bool false,.slice none 0 0]),4,64):=by kernel_rfl
def qzero:Array Value:=#[.bool false,.slice none 0 0,.bool false,.slice none 0 0]
theorem run_make_Q (k:Nat) (hk:k≤1000000000) (w:World) :
  (Instr.makeSlice 46 (.int .i64 (k:Int)) (.int .i64 (k:Int))).run Tryz.prog w=.ok (.slice (some ⟨w.heap.size,0,none⟩) k k) (w.alloc (.cells (madeCells qzero (k*4)) 42)):=by
 obtain ⟨i0,hi,hz0,hz1,hz2⟩:=info_parts info_Q;have h:=run_make (P:=Tryz.prog) w 46 42 i0 _ Tryz.underlying46 hi hz0 .i64 .i64 k k (by omega) (Int.le_refl _) (by rw [hz2];omega) (by omega);rw [h,hz1];simp only [Int.toNat_natCast,Value.cells]
 rfl
theorem made_get (n i:Nat) (h:i<n):(madeCells qzero n)[i]?=some (qzero[i % 4]!):=by
 simp [madeCells,h,qzero]
theorem made_noInt (n:Nat):NoInt (madeCells qzero n):=by
 intro i k z;by_cases h:i<n
 ·rw [made_get n i h];have h4:i % 4<4:=Nat.mod_lt _ (by omega);generalize i % 4=m at *
  match m,h4 with
  | 0,_=>simp [qzero]
  | 1,_=>simp [qzero]
  | 2,_=>simp [qzero]
  | 3,_=>simp [qzero]
 ·rw [Array.getElem?_eq_none (by rw [size_madeCells];omega)];simp
theorem QRow.start (w:World) (n:Nat):QRow (w.alloc (.cells (madeCells qzero (n*4)) 42)) w.heap.size n (List.replicate n 0):=by
 refine ⟨by simp,_,Blk.new _ _ _,made_noInt _,size_madeCells _ _,fun j hj=>?_⟩;have e:((List.replicate n (0:Rat))[j]?.getD 0)=0:=by simp [hj]
 rw [e];refine ⟨none,0,0,none,0,0,?_,?_,?_,?_,Nat.le_refl _,Nat.le_refl _,?_,?_⟩
 ·rw [made_get _ _ (by omega),show j*4 % 4=0 by omega];rfl
 ·rw [made_get _ _ (by omega),show (j*4+1) % 4=1 by omega];rfl
 ·rw [made_get _ _ (by omega),show (j*4+2) % 4=2 by omega];rfl
 ·rw [made_get _ _ (by omega),show (j*4+3) % 4=3 by omega];rfl
 ·show Wat _ none 0 (digs 0);rw [digs_zero];exact Wat.nil
 ·show Wat _ none 0 [];exact Wat.nil
theorem qless_any (M Nn Nd:Nat) (HO:WOK M) (hnm:Nn≤M) (hdm:Nd≤M) {w:World} {an an':Bool} {aA aA' bA bA':Option Addr} {ak ac ak' ac' bk bc bk' bc':Nat} {r:Rat} {a:Int}
  (ha:QAt Nn Nd w an aA ak ac an' aA' ak' ac' r) (hk:bk≤bc) (hk':bk'≤bc') (hW:Wat w bA bk (digs ((a:Int):Rat).num.natAbs)) (hW':Wat w bA' bk' (denW ((a:Int):Rat).den)) (h1:a.natAbs<Nn) (h2:1<Nd) (h3:Nn≤M) :
  Calls Tryz.prog 85 #[.agg #[.bool an,.slice aA ak ac,.bool an',.slice aA' ak' ac'],.agg #[.bool (decide (((a:Int):Rat).num<0)),.slice bA bk bc,.bool false,.slice bA' bk' bc']] w (RetQ w (lessQ r a)):=by
 have hl:bk≤10000000000:=by
  rw [← hW.1,show ((a:Int):Rat).num=a from rfl];exact HO.len _ (by omega)
 have hl':bk'≤10000000000:=by
  rw [← hW'.1,show ((a:Int):Rat).den=1 from rfl];simp [denW]
 exact qmin_any M Nn Nd HO hnm hdm an an' _ false aA aA' bA bA' ak ac ak' ac' bk bc bk' bc' r (a:Rat) w ha (qat_canon hk hk' hW hW' hl hl' h1 h2)
def RGB (g:Nat) (t:TypeId) (W w':World):Prop:=W.grownBy w' (some g)∧∃ cs,Blk w' g t cs
section
variable {g:Nat} {t:TypeId} {W w w':World}
theorem RGB.start {cs:Array Value} (h:Blk W g t cs):RGB g t W W:=⟨⟨rfl,rfl,rfl,Nat.le_refl _,fun _ _ _=>rfl⟩,cs,h⟩
theorem RGB.drew (h:RGB g t W w):RGB g t W w.drew:=⟨⟨h.1.os,h.1.tape,h.1.output,h.1.size,h.1.block⟩,h.2⟩
theorem RGB.call (h:RGB g t W w) (hb:Below w.heap.size w w'):RGB g t W w':=by
 obtain ⟨h1,cs,h2⟩:=h;exact ⟨⟨hb.os.trans h1.os,hb.tape.trans h1.tape,hb.output.trans h1.output,Nat.le_trans h1.size hb.size,fun k hk hne=>(hb.block k (Nat.lt_of_lt_of_le hk h1.size)).trans (h1.block k hk hne)⟩,cs,h2.below hb h2.lt⟩
theorem RGB.set (h:RGB g t W w) (o1 o2 o3 o4:Nat) (a b c d:Value):RGB g t W ((((w.setCell ⟨g,o1,none⟩ a).setCell ⟨g,o2,none⟩ b).setCell ⟨g,o3,none⟩ c).setCell ⟨g,o4,none⟩ d):=by
 obtain ⟨h1,cs,h2⟩:=h;refine ⟨⟨h1.os,h1.tape,h1.output,by simpa [World.setCell] using h1.size,fun k hk hne=>?_⟩,_,(((h2.set o1 a).set o2 b).set o3 c).set o4 d⟩;have hkg:k≠g:=fun e=>hne (by rw [e]);rw [Below.heap_setCell _ _ _ _ (by simpa using hkg),Below.heap_setCell _ _ _ _ (by simpa using hkg),Below.heap_setCell _ _ _ _ (by simpa using hkg),Below.heap_setCell _ _ _ _ (by simpa using hkg)];exact h1.block k hk hne
theorem RGB.blk {g':Nat} {t':TypeId} {cs:Array Value} (h:RGB g t W w) (hg:Blk W g' t' cs) (hne:g'≠g):Blk w g' t' cs:=(h.1.block g' hg.lt (fun e=>hne (by injection e))).trans hg
end
theorem QRow.cells {w:World} {g n:Nat} {ps:List Rat} (h:QRow w g n ps) {j:Nat} (hj:j<n):∃ A k c A' k' c',
  w.cell? ⟨g,j*4,none⟩=some (.bool (decide ((ps[j]?.getD 0).num<0)))∧w.cell? ⟨g,j*4+1,none⟩=some (.slice A k c)∧w.cell? ⟨g,j*4+2,none⟩=some (.bool false)∧w.cell? ⟨g,j*4+3,none⟩=some (.slice A' k' c') ∧
  w.frozen? ⟨g,j*4,none⟩=false∧w.frozen? ⟨g,j*4+1,none⟩=false∧w.frozen? ⟨g,j*4+2,none⟩=false∧w.frozen? ⟨g,j*4+3,none⟩=false ∧
  k≤c∧k'≤c'∧Wat w A k (digs (ps[j]?.getD 0).num.natAbs)∧Wat w A' k' (denW (ps[j]?.getD 0).den):=by
 obtain ⟨_,cs,hb,_,_,hc⟩:=h;obtain ⟨A,k,c,A',k',c',e1,e2,e3,e4,e5,e6,e7,e8⟩:=hc j hj;exact ⟨A,k,c,A',k',c',(hb.cell _).trans e1,(hb.cell _).trans e2,(hb.cell _).trans e3,(hb.cell _).trans e4,hb.frozen _,hb.frozen _,hb.frozen _,hb.frozen _,e5,e6,e7,e8⟩
def AllR (w:World) (Nn Nd g n:Nat) (l:List (Int×Int)) (q:Rat) (k:Nat) (ps:List Rat) (bn:Bool) (bA:Option Addr) (bk bc:Nat) (bn':Bool) (bA':Option Addr) (bk' bc':Nat) (wr:World):Prop :=
 Below w.heap.size w wr∧Blk wr g 42 #[.bool bn,.slice bA bk bc,.bool bn',.slice bA' bk' bc']∧QAt Nn Nd wr bn bA bk bc bn' bA' bk' bc' (restAt l q k)∧QRow wr (g+1) n ps∧∀ j,j<k→ps[j]?.getD 0=partAt l q j
theorem qat_len {M Nn Nd:Nat} (HO:WOK M) (hnm:Nn≤M) (hdm:Nd≤M) {w:World} {A A':Option Addr} {k c k' c':Nat} {q:Rat} (hk:k≤c) (hk':k'≤c') (hW:Wat w A k (digs q.num.natAbs)) (hW':Wat w A' k' (denW q.den)) (hn:q.num.natAbs<Nn) (hd:q.den<Nd) :
  QAt Nn Nd w (decide (q.num<0)) A k c false A' k' c' q:=by
 refine qat_canon hk hk' hW hW' ?_ ?_ hn hd
 ·rw [← hW.1];exact HO.len _ (by omega)
 ·rw [← hW'.1];unfold denW;split
  ·simp
  ·exact HO.len _ (by omega)
end Go.Proofs.YtjajigkacccdgaaGreat
namespace Go.Proofs.YtjajigkacccdgaaGreat
open Go.RowKit
open Wd
attribute [local go_sem ↓] Go.wp_at_zero Go.wp_at_succ
def CQ (base:Nat) (w:World) (q:Rat) (A:Option Addr) (k c:Nat) (A':Option Addr) (k' c':Nat):Prop :=
 k≤c∧k'≤c'∧Wat w A k (digs q.num.natAbs)∧Wat w A' k' (denW q.den)∧Fresh base w A k∧Fresh base w A' k'
section
variable {base base':Nat} {w w':World} {q:Rat} {A A':Option Addr} {k c k' c':Nat}
theorem CQ.below (h:CQ base w q A k c A' k' c') (hb:Below w.heap.size w w'):CQ base w' q A k c A' k' c':=by
 obtain ⟨h1,h2,h3,h4,h5,h6⟩:=h;exact ⟨h1,h2,h3.below hb,h4.below hb,h5.keep h3 hb,h6.keep h4 hb⟩
theorem CQ.put4 {g o:Nat} {a b:Bool} {B B':Option Addr} {j d j' d':Nat} {t:TypeId} {cs:Array Value} (h:CQ base w q A k c A' k' c') (hb:Blk w g t cs) (hn:NoInt cs):CQ base (qst w g o a b B B' j d j' d') q A k c A' k' c':=by
 obtain ⟨h1,h2,h3,h4,h5,h6⟩:=h;exact ⟨h1,h2,h3.put4 hb hn,h4.put4 hb hn,(((h5.set _ _).set _ _).set _ _).set _ _,(((h6.set _ _).set _ _).set _ _).set _ _⟩
theorem CQ.zero:CQ base w 0 none 0 0 none 0 0:=by
 refine ⟨Nat.le_refl _,Nat.le_refl _,?_,Wat.nil,Fresh.nil,Fresh.nil⟩;show Wat _ none 0 (digs 0);rw [digs_zero];exact Wat.nil
theorem CQ.at {M Nn Nd:Nat} (h:CQ base w q A k c A' k' c') (HO:WOK M) (hnm:Nn≤M) (hdm:Nd≤M) (hn:q.num.natAbs<Nn) (hd:q.den<Nd):QAt Nn Nd w (decide (q.num<0)) A k c false A' k' c' q :=
 qat_len HO hnm hdm h.1 h.2.1 h.2.2.1 h.2.2.2.1 hn hd
end
def costAt (l:List (Int×Int)) (q:Rat):Nat→Rat
 | 0=>0
 | k+1=>costAt l q k+partAt l q k*(((l[k]?.getD (0,0)).2:Int):Rat)
structure CostOK (M Nn Nd Cn Cd:Nat) (l:List (Int×Int)) (q:Rat):Prop where
 hn:3000000<Nn
 hn2:Nn≤M
 hd:1<Nd
 nn:Nn*Nn≤M
 dd:Nd*Nd≤M
 nd:2*(Nn*Nd)≤M
 nm:Nn≤M
 dm:Nd≤M
 cnd:2*(Cn*Cd)≤M
 cdd:Cd*Cd≤M
 cn:Cn≤M
 cd:Cd≤M
 sum:∀ k,k≤l.length→(costAt l q k).num.natAbs<Cn∧(costAt l q k).den<Cd
 prod:∀ k,k<l.length→(partAt l q k*(((l[k]?.getD (0,0)).2:Int):Rat)).num.natAbs<Cn∧(partAt l q k*(((l[k]?.getD (0,0)).2:Int):Rat)).den<Cd
def CstR (w:World) (g gr n:Nat) (l:List (Int×Int)) (q:Rat) (ps:List Rat) (k:Nat) (A:Option Addr) (j c:Nat) (A':Option Addr) (j' c':Nat) (wr:World):Prop :=
 Below w.heap.size w wr∧Blk wr g 42 #[.bool (decide ((costAt l q k).num<0)),.slice A j c,.bool false,.slice A' j' c']∧CQ w.heap.size wr (costAt l q k) A j c A' j' c'∧QRow wr gr n ps
def CstPost (w:World) (r:Rat) (e:Ending) (w':World):Prop :=
 ∃ A k c A' k' c',e=.returned (.tuple #[.agg #[.bool (decide (r.num<0)),.slice A k c,.bool false,.slice A' k' c'],.int .i64 0])∧CQ w.heap.size w' r A k c A' k' c'∧Below w.heap.size w w'
end Go.Proofs.YtjajigkacccdgaaGreat
namespace Go.Proofs.YtjajigkacccdgaaGreat
namespace En
def qs:List (Int×Int)→Int
 | []=>0
 | s :: r=>s.1+qs r
structure PU where
 on:Bool
 mn:Int
 st:List (Int×Int)
end En
end Go.Proofs.YtjajigkacccdgaaGreat
