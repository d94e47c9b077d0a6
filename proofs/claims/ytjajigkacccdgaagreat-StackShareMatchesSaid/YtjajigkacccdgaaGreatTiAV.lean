/-
Lemmas of the walk; no further conditions.
-/
import Derived.Test.YtjajigkacccdgaaGreatTiAU
set_option linter.unusedVariables false
set_option linter.unusedSimpArgs false
set_option maxRecDepth 100000
set_option maxHeartbeats 16000000
namespace Go.Proofs.YtjajigkacccdgaaGreat
open Go.RowKit
open Wd
def halvesL (l:List Nat):List Int:=l.flatMap fun d:Nat=>[((d:Nat):Int) % 65536,((d:Nat):Int) / 65536]
theorem halvesL_len (l:List Nat):(halvesL l).length=2*l.length:=by
 induction l with
 | nil=>rfl
 | cons d l ih =>
  unfold halvesL at *;rw [List.flatMap_cons,List.length_append,ih,List.length_cons];simp;omega
theorem halvesL_snoc {l:List Nat} {i:Nat} (hi:i<l.length):halvesL (l.take (i+1))=halvesL (l.take i) ++ [((l[i]?.getD 0:Nat):Int) % 65536,((l[i]?.getD 0:Nat):Int) / 65536]:=by
 have e:l.take (i+1)=l.take i ++ [l[i]?.getD 0]:=by rw [List.take_add_one,List.getElem?_eq_getElem hi];rfl
 unfold halvesL;rw [e,List.flatMap_append];simp
theorem two_one {a b:Int}:∀ u∈(#[.int .i64 a,.int .i64 b]:Array Value).toList,u.oneCell'=true:=by
 intro u hu;simp at hu;rcases hu with rfl|rfl<;>rfl
theorem rhalves_any (A:Option Addr) (n c:Nat) (l:List Nat) (w:World) (h:Wat w A n l) (hn:n≤100000000000) :
  Calls Tryz.prog 186 #[.slice A n c] w fun e w'=>∃ A1 c1,e=.returned (.slice A1 (tl (halvesL l) (2*n)) c1)∧IsAt w' A1 (tl (halvesL l) (2*n)) ((halvesL l).take (tl (halvesL l) (2*n)))∧Below w.heap.size w w'∧tl (halvesL l) (2*n)≤c1:=by
 have HW:=Hj h;obtain ⟨ii,hii,hz0,hz1,hz2⟩:=info_parts info_int;have HI:=Hj hii;have HZ0:=Hj hz0;have HZ1:=Hj hz1;have HZ2:=Hj hz2;clear h hii hz0 hz1 hz2;go_enter Tryz.func186,Tryz.ntmps186
 go_wp2_with fail
 go_loopw [3,4] (fun th t wr=>∃ (i:Nat) (Ah:Option Addr) (ch:Nat),i≤n∧t=.int .i64 i∧th=.slice Ah (2*i) ch∧Hid (Below w.heap.size w wr∧Own w.heap.size 3 1 wr Ah (2*i) ch ((halvesL (l.take i)).map (Value.int .i64)))) (fun _ t _=>n-(intOf t).toNat)
 case atStart=>exact ⟨0,none,0,Nat.zero_le _,rfl,rfl,Below.refl _ _,by rw [List.take_zero];exact Own.nil _ _ _ _⟩
 case round =>
  obtain ⟨i,Ah,ch,hi,rfl,rfl,hR⟩:=hrel;by_cases hlt:i<n
  ·obtain ⟨hB,hO⟩:=hR.out;obtain ⟨b,o,rfl,hb,hc⟩:=HW.out.2.2 (by omega);have hci:=hc i hlt;have cx:=(hB.cell (p:=⟨b,o+i,none⟩) hb).trans hci;have hsn:=halvesL_snoc (l:=l) (i:=i) (by rw [HW.out.1];exact hlt);have hd:=HW.out.2.1.get i;generalize l[i]?.getD 0=d at *;have hbr:b<wr.heap.size:=Nat.lt_of_lt_of_le hb hB.size;have q0:=hB;have k1:=(Kp.refl wr).alloc (.cells #[.int .i64 ((d:Int) % 65536),.int .i64 ((d:Int) / 65536)] 3);have q1:Below w.heap.size w (wr.alloc (.cells #[.int .i64 ((d:Int) % 65536),.int .i64 ((d:Int) / 65536)] 3)):=hB.trans (Below.mono k1 hB.size);have o1:=hO.keep k1;have m1:=Blk.new wr 3 #[.int .i64 ((d:Int) % 65536),.int .i64 ((d:Int) / 65536)];have hS:∀ w',Below w.heap.size w w'→w'.cell? ⟨b,o+i,none⟩=some (.int .u32 (d:Int))∧Below w.heap.size w w':=fun w' hk=>⟨(hk.cell (p:=⟨b,o+i,none⟩) hb).trans hci,hk⟩;have HS:=Hj hS;have i1:(0:Int)≤(i:Int):=by omega
   have i2:(i:Int)<(n:Int):=by omega
   have HSN:=Hj hsn;have e1:((d:Int)).tmod 65536=(d:Int) % 65536:=Int.tmod_eq_emod_of_nonneg (by omega);have e2:IntKind.i64.wrap ((d:Int) % 65536)=(d:Int) % 65536:=IntWalk.i64_in _ (by omega);have e3:IntKind.u32.wrap ((d:Int) / 65536)=(d:Int) / 65536:=by rw [IntKind.wrap_u32];omega
   have e4:IntKind.i64.wrap ((d:Int) / 65536)=(d:Int) / 65536:=IntWalk.i64_in _ (by omega);clear hS hc hsn hR cx hci
   go_wp2_with fail
   go_region_held3 (fun w'=>w'.cell? ⟨b,o+i,none⟩=some (.int .u32 (d:Int))∧Below w.heap.size w w')
    (first|exact HS.out _ g1|exact HS.out _ q0.drew|exact HS.out _ q1.drew)
    (first
     | (refine step_append_my (base:=w.heap.size) (e:=3) (size:=1) (bytes:=8) (by rfl) (.tmp 11) (.tmp 24) 199 rfl Tryz.underlying199 HI.out HZ0.out HZ1.out HZ2.out rfl (by decide) (xs:=(halvesL (l.take i)).map (Value.int .i64)) (news:=[.int .i64 ((d:Int) % 65536),.int .i64 ((d:Int) / 65536)]) rfl (by exact o1) rfl (by exact Blk.src m1 rfl two_one) (by simp only [maxLen];omega) (by omega) (Below.size (w:=w) (B:=w.heap.size) (by exact q1.drew)) ?_
        intro B1 cb1 w1 hO1 hb1 hk1;have g1:Below w.heap.size w w1:=Below.trans (by exact q1.drew) hb1;clear hb1 hk1))
   have hfin:Below w.heap.size w w1∧Own w.heap.size 3 1 w1 B1 (2*(i+1)) cb1 ((halvesL (l.take (i+1))).map (Value.int .i64)):=by
    refine ⟨g1,?_⟩;rw [HSN.out,List.map_append,show 2*(i+1)=2*i+2 by omega];exact hO1
   have HF:=Hj hfin;clear hfin g1 hO1;go_wp2;go_roundw
   case rel=>exact ⟨i+1,B1,cb1,by omega,by go_num,by rw [show 2*(i+1)=2*i+2 by omega],HF.out⟩
   case measure=>simp [intOf];omega
  ·obtain rfl:i=n:=by omega
   obtain ⟨hB,hO⟩:=hR.out;rw [List.take_of_length_le (by rw [HW.out.1];exact Nat.le_refl _)] at hO;have hle:2*i≤ch:=by
    rcases hO.2 with ⟨h7,h8⟩|⟨g',cap',cur',h7,_,_,h8,_⟩
    ·omega
    ·simp at h7;omega
   have T:=rtrim_any Ah (2*i) ch (halvesL l) wr hO.ints hle (by omega);have HT:=Hj T;have HB:=Hj hB;clear hR hB hO T
   go_wp2_with fail
   refine HT.out.mono ?_;rintro e w1 ⟨A1,rfl,hI,rfl⟩;have HI2:=Hj hI;clear hI HT;go_wp2;go_ret;exact ⟨A1,ch,rfl,HI2.out,HB.out,Nat.le_trans (tl_le _ _) hle⟩
def wd2 (hs:List Int) (j:Nat):Nat:=(hs[2*j]?.getD 0+hs[2*j+1]?.getD 0*65536).toNat
def wdsL (hs:List Int) (m:Nat):List Nat:=(List.range m).map (wd2 hs)
def Dg (hs:List Int):Prop:=∀ i:Nat,0≤hs[i]?.getD 0∧hs[i]?.getD 0<65536
theorem wd2_lt {hs:List Int} (h:Dg hs) (j:Nat):wd2 hs j<4294967296∧((wd2 hs j:Nat):Int)=hs[2*j]?.getD 0+hs[2*j+1]?.getD 0*65536:=by
 have h1:=h (2*j);have h2:=h (2*j+1);unfold wd2;omega
theorem wdsL_snoc (hs:List Int) (m:Nat):wdsL hs (m+1)=wdsL hs m ++ [wd2 hs m]:=by
 unfold wdsL;rw [List.range_succ,List.map_append]
 rfl
theorem wdsL_len (hs:List Int) (m:Nat):(wdsL hs m).length=m:=by simp [wdsL]
theorem wdsL_Ws {hs:List Int} (h:Dg hs) (m:Nat):Ws (wdsL hs m):=fun x hx=>by
 obtain ⟨j,_,rfl⟩:=List.mem_map.1 hx;exact (wd2_lt h j).1
theorem u32_one {b:Int}:∀ u∈(#[.int .u32 b]:Array Value).toList,u.oneCell'=true:=by
 intro u hu;simp at hu;rw [hu]
 rfl
def RetOf (w:World) (neg:Bool) (l:List Nat) (e:Ending) (w':World):Prop :=
 ∃ A c,e=.returned (.agg #[.bool (neg && decide (0<l.length)),.slice A l.length c])∧l.length≤c∧Wat w' A l.length l∧Fresh w.heap.size w' A l.length∧Below w.heap.size w w'
theorem rof_any (neg:Bool) (A:Option Addr) (n c:Nat) (hs:List Int) (w:World) (h:IsAt w A n hs) (hnc:n≤c) (hn:n≤1000000000000) (hd:Dg hs) :
  Calls Tryz.prog 184 #[.bool neg,.slice A n c] w (RetOf w neg (wdsL (hs.take (tl hs n)) ((tl hs n+1) / 2))):=by
 have HT:=Hj (fun W (hW:Below w.heap.size w W)=>rtrim_any A n c hs W (h.below hW) hnc (by omega));have hk:=tl_le hs n;have hd2:Dg (hs.take (tl hs n)):=fun i=>by
  rw [List.getElem?_take];split
  ·exact hd i
  ·simp
 generalize hs.take (tl hs n)=ts at *;generalize tl hs n=k at *;obtain ⟨ii,hii,hz0,hz1,hz2⟩:=info_parts info_u32;have HI:=Hj hii;have HZ0:=Hj hz0;have HZ1:=Hj hz1;have HZ2:=Hj hz2;have HD:=Hj hd2;clear h hii hz0 hz1 hz2 hd hd2;go_enter Tryz.func184,Tryz.ntmps184
 go_wp2_with fail
 have hbx:=Blk.new w 40 #[.bool false,.slice none 0 0];have hb0:Below w.heap.size w (w.alloc (.cells #[.bool false,.slice none 0 0] 40)):=(Below.refl _ _).alloc (Nat.le_refl _) _;generalize w.alloc (.cells #[.bool false,.slice none 0 0] 40)=W at *;refine (HT.out W hb0).mono ?_;rintro e w1 ⟨A1,rfl,hI,rfl⟩;have HI1:=Hj hI;have HBX:=Hj hbx;have HB0:=Hj hb0;have hwl:w.heap.size<w1.heap.size:=hbx.lt;clear hI HT hbx hb0
 go_wp2_with fail
 go_loopw [5,6] (fun tw t wr=>∃ (j:Nat) (Aw:Option Addr) (cw:Nat),2*j≤k+1∧t=.int .i64 ((2*j:Nat):Int)∧tw=.slice Aw j cw∧Hid (Below w1.heap.size w1 wr∧Own w1.heap.size 59 1 wr Aw j cw (u32s (wdsL ts j)))) (fun _ t _=>k+1-(intOf t).toNat)
 case atStart=>exact ⟨0,none,0,by omega,rfl,rfl,Below.refl _ _,Own.nil _ _ _ _⟩
 case round =>
  obtain ⟨j,Aw,cw,hj,rfl,rfl,hR⟩:=hrel;by_cases hlt:2*j<k
  ·obtain ⟨hB,hO⟩:=hR.out;obtain ⟨x1,x2⟩:=wd2_lt HD.out j;have y1:=HD.out (2*j);have y2:=HD.out (2*j+1);have T1:=rat_any A1 k c (2*j) ts wr (HI1.out.below hB);have T2:=rat_any A1 k c (2*j+1) ts wr (HI1.out.below hB);have hsn:=wdsL_snoc ts j;generalize ts[2*j]?.getD 0=a at *;generalize ts[2*j+1]?.getD 0=b at *;generalize wd2 ts j=d at *;have e1:IntKind.u32.wrap a=a:=by rw [IntKind.wrap_u32];omega
   have e2:IntKind.u32.wrap b=b:=by rw [IntKind.wrap_u32];omega
   have e3:IntKind.u32.wrap (b*65536)=b*65536:=by rw [IntKind.wrap_u32];omega
   have e4:IntKind.u32.wrap (a+b*65536)=(d:Int):=by rw [IntKind.wrap_u32];omega
   have e5:IntKind.i64.wrap (((2*j:Nat):Int)+1)=((2*j+1:Nat):Int):=IntWalk.i64_in _ (by omega);have d1:decide (((2*j:Nat):Int)<(k:Int))=true:=decide_eq_true (by omega);have e6:IntKind.i64.wrap (((2*j:Nat):Int)+2)=((2*(j+1):Nat):Int):=IntWalk.i64_in _ (by omega);have HT1:=Hj T1;have HT2:=Hj T2;have HSN:=Hj hsn;have HX2:=Hj x2;clear T1 T2 hsn x2 y1 y2 hR;generalize hz:((2*j:Nat):Int)=z at *;have HZ:=Hj hz;generalize hz':((2*j+1:Nat):Int)=z' at *;generalize hz2:((2*(j+1):Nat):Int)=z2 at *;have HZ2':=Hj hz2;clear hz hz' hz2;have k1:=(Kp.refl wr).alloc (.cells #[.int .u32 (d:Int)] 59);have q1:Below w1.heap.size w1 (wr.alloc (.cells #[.int .u32 (d:Int)] 59)):=hB.trans (Below.mono k1 hB.size);have o1:=hO.keep k1;have m1:=Blk.new wr 59 #[.int .u32 (d:Int)]
   go_wp2_with fail
   refine HT1.out.mono ?_;rintro e w2 ⟨rfl,rfl⟩;clear HT1
   go_wp2_with fail
   refine HT2.out.mono ?_;rintro e w3 ⟨rfl,rfl⟩;clear HT2
   go_wp2_with (first
    | (at_builtin;refine wpList_append_my rfl (base:=w1.heap.size) (e:=59) (size:=1) (bytes:=4) (.tmp 15) (.tmp 27) 38 rfl Tryz.underlying38 HI.out HZ0.out HZ1.out HZ2.out rfl (by decide) (xs:=u32s (wdsL ts j)) (news:=[.int .u32 (d:Int)]) rfl (by exact o1) rfl (by exact Blk.src m1 rfl u32_one) (by simp only [maxLen];omega) (by omega) (by exact q1.size) ?_
       intro B1 cb1 w4 hO1 hb1 hk1;have g1:Below w1.heap.size w1 w4:=q1.trans hb1;clear hb1 hk1))
   have hfin:Below w1.heap.size w1 w4∧Own w1.heap.size 59 1 w4 B1 (j+1) cb1 (u32s (wdsL ts (j+1))):=by
    refine ⟨g1,?_⟩;rw [HSN.out,u32s_append];exact hO1
   have HF:=Hj hfin;clear hfin g1 hO1 m1 o1 q1 k1 hO hB;go_wp2;go_roundw
   case rel=>exact ⟨j+1,B1,cb1,by omega,by rw [HZ2'.out],rfl,HF.out⟩
   case measure=>rw [← HZ2'.out,← HZ.out];simp [intOf];omega
  ·obtain ⟨hB,hO⟩:=hR.out;have hjm:(k+1) / 2=j:=by omega
   have d1:decide (((2*j:Nat):Int)<(k:Int))=false:=decide_eq_false (by omega);obtain ⟨A9,c9,hv9,hc9,_,hW9,hF9⟩:=wat_of_own (wdsL_Ws HD.out j) hO;simp at hv9;obtain ⟨rfl,rfl⟩:=hv9;have hbx:=HBX.out.below hB HBX.out.lt;have hB9:Below w.heap.size w wr:=HB0.out.trans (hB.mono HB0.out.size);have hfin:∀ bv,(neg && decide (0<j))=bv→RetOf w neg (wdsL ts ((k+1) / 2)) (.returned (.agg #[.bool bv,.slice Aw j cw])) ((wr.setCell ⟨w.heap.size,0,none⟩ (.bool bv)).setCell ⟨w.heap.size,1,none⟩ (.slice Aw j cw)):=by
    intro bv hbv;rw [hjm];refine ⟨Aw,cw,by rw [wdsL_len,hbv],by rw [wdsL_len];exact hc9,?_,?_,(hB9.setCell (p:=⟨w.heap.size,0,none⟩) (Nat.le_refl _) _).setCell (p:=⟨w.heap.size,1,none⟩) (Nat.le_refl _) _⟩
    ·rw [wdsL_len];exact (hW9.setFar hF9 (p:=⟨w.heap.size,0,none⟩) (by simp;omega) _).setFar (hF9.set _ _) (p:=⟨w.heap.size,1,none⟩) (by simp;omega) _
    ·rw [wdsL_len];exact ((hF9.set _ _).set _ _).mono (by omega)
   have hcell:∀ bv:Bool,((wr.setCell ⟨w.heap.size,0,none⟩ (.bool bv)).setCell ⟨w.heap.size,1,none⟩ (.slice Aw j cw)).cell? ⟨w.heap.size,0,none⟩=some (.bool bv)∧((wr.setCell ⟨w.heap.size,0,none⟩ (.bool bv)).setCell ⟨w.heap.size,1,none⟩ (.slice Aw j cw)).cell? ⟨w.heap.size,1,none⟩=some (.slice Aw j cw):=fun bv=>by
    have hbx2:Blk _ w.heap.size 40 #[.bool bv,.slice Aw j cw]:=(hbx.set 0 (.bool bv)).set 1 (.slice Aw j cw);exact ⟨hbx2.cell 0,hbx2.cell 1⟩
   obtain ⟨b0,b1,f0,f1⟩:=hbx.two;have HF:=Hj hfin;clear hfin hjm hB hO hR hW9 hF9 hB9 hbx;cases neg with
   | false =>
    obtain ⟨g0,g1⟩:=hcell false;have HFF:=Hj (HF.out false rfl);clear hcell;go_wp2;refine bodyPost_ret (v:=.agg #[.bool false,.slice Aw j cw]) ?_ rfl HFF.out;simp [results,Tryz.results184,go_sem,g0,g1]
   | true =>
    by_cases hj0:0<j
    ·have d2:decide ((0:Int)<(j:Int))=true:=decide_eq_true (by omega);obtain ⟨g0,g1⟩:=hcell true;have HFF:=Hj (HF.out true (by simp [hj0]));clear hcell;go_wp2;refine bodyPost_ret (v:=.agg #[.bool true,.slice Aw j cw]) ?_ rfl HFF.out;simp [results,Tryz.results184,go_sem,g0,g1]
    ·have d2:decide ((0:Int)<(j:Int))=false:=decide_eq_false (by omega);obtain ⟨g0,g1⟩:=hcell false;have HFF:=Hj (HF.out false (by simp [hj0]));clear hcell;go_wp2;refine bodyPost_ret (v:=.agg #[.bool false,.slice Aw j cw]) ?_ rfl HFF.out;simp [results,Tryz.results184,go_sem,g0,g1]
theorem tl_zero (hs:List Int):∀ {k i:Nat},tl hs k≤i→i<k→hs[i]?.getD 0=0
 | 0,i,_,h=>absurd h (by omega)
 | k+1,i,h,h2=>by
  rw [tl] at h;split at h
  ·rename_i hz
   by_cases he:i=k
   ·rw [he];exact hz
   ·exact tl_zero hs h (by omega)
  ·omega
theorem tl_last (hs:List Int):∀ {k j:Nat},tl hs k=j+1→hs[j]?.getD 0≠0
 | 0,j,h=>by simp [tl] at h
 | k+1,j,h=>by
  rw [tl] at h;split at h
  ·exact tl_last hs h
  ·rename_i hz
   obtain rfl:k=j:=by omega
   exact hz
theorem tl_idem (hs:List Int) (m:Nat):tl (hs.take (tl hs m)) (tl hs m)=tl hs m:=by
 cases hk:tl hs m with
 | zero=>rfl
 | succ j =>
  have h:=tl_last hs hk;rw [tl,if_neg];rw [List.getElem?_take,if_pos (by omega)];exact h
theorem halvesL_get:∀ (l:List Nat) (j:Nat),(halvesL l)[2*j]?.getD 0=((l[j]?.getD 0:Nat):Int) % 65536∧(halvesL l)[2*j+1]?.getD 0=((l[j]?.getD 0:Nat):Int) / 65536
 | [],j=>by simp [halvesL]
 | d :: l,0=>by simp [halvesL]
 | d :: l,j+1=>by
  have ih:=halvesL_get l j;have e:halvesL (d :: l)=[((d:Nat):Int) % 65536,((d:Nat):Int) / 65536] ++ halvesL l:=by unfold halvesL;rw [List.flatMap_cons]
  rw [e,List.getElem?_append_right (by simp;omega),List.getElem?_append_right (by simp;omega)];rw [show 2*(j+1) - [((d:Nat):Int) % 65536,((d:Nat):Int) / 65536].length=2*j by simp;omega,show 2*(j+1)+1 - [((d:Nat):Int) % 65536,((d:Nat):Int) / 65536].length=2*j+1 by simp;omega,List.getElem?_cons_succ];exact ih
theorem val_zeros:∀ {l:List Nat},(∀ j:Nat,l[j]?.getD 0=0)→val l=0
 | [],_=>rfl
 | d :: l,h=>by
  have h0:=h 0;simp at h0;rw [val_cons,h0,val_zeros fun j=>by have:=h (j+1);simpa using this]
theorem least_digs {l:List Nat} (hw:Ws l):wdsL ((halvesL l).take (tl (halvesL l) (2*l.length))) ((tl (halvesL l) (2*l.length)+1) / 2)=digs (val l):=by
 have hle:=tl_le (halvesL l) (2*l.length);have hz:∀ i:Nat,tl (halvesL l) (2*l.length)≤i→(halvesL l)[i]?.getD 0=0:=fun i hi=>by
  by_cases h:i<2*l.length
  ·exact tl_zero _ hi h
  ·rw [List.getElem?_eq_none (by rw [halvesL_len];omega)];rfl
 have hlast:=fun j=>@tl_last (halvesL l) (2*l.length) j;generalize tl (halvesL l) (2*l.length)=k at *;have hm:(k+1) / 2≤l.length:=by omega
 have hw1:∀ j,j<(k+1) / 2→wd2 ((halvesL l).take k) j=l[j]?.getD 0:=fun j hj=>by
  obtain ⟨g1,g2⟩:=halvesL_get l j;have hd:=hw.get j;have a1:((halvesL l).take k)[2*j]?.getD 0=((l[j]?.getD 0:Nat):Int) % 65536:=by rw [List.getElem?_take,if_pos (by omega)];exact g1
  have a2:((halvesL l).take k)[2*j+1]?.getD 0=((l[j]?.getD 0:Nat):Int) / 65536:=by
   rw [List.getElem?_take];split
   ·exact g2
   ·have:=hz (2*j+1) (by omega);rw [← g2,this]
    rfl
  unfold wd2;rw [a1,a2];omega
 have he:wdsL ((halvesL l).take k) ((k+1) / 2)=l.take ((k+1) / 2):=by
  apply List.ext_getElem (by simp [wdsL];omega);intro j h1 h2;have hj:j<(k+1) / 2:=by simpa [wdsL] using h1
  have:=hw1 j hj;rw [List.getElem?_eq_getElem (by omega)] at this;simpa [wdsL] using this
 rw [he];have hv:val l=val (l.take ((k+1) / 2)):=by
  rw [val_take_drop l _ hm,val_zeros (l:=l.drop ((k+1) / 2)) fun j=>?_,Nat.mul_zero,Nat.add_zero];rw [List.getElem?_drop];obtain ⟨g1,g2⟩:=halvesL_get l ((k+1) / 2+j);have z1:=hz (2*((k+1) / 2+j)) (by omega);have z2:=hz (2*((k+1) / 2+j)+1) (by omega);omega
 rw [hv,digs_val (hw.take _)];intro hl;by_cases h0:k=0
 ·subst h0;simp at hl
 ·obtain ⟨j,rfl⟩:∃ j,k=j+1:=⟨k-1,by omega⟩;have hne:=hlast j rfl;have hlen:(l.take ((j+1+1) / 2)).length=(j+1+1) / 2:=by simp;omega
  rw [List.getLast?_eq_getElem?,hlen,List.getElem?_take,if_pos (by omega)] at hl;obtain ⟨g1,g2⟩:=halvesL_get l ((j+1+1) / 2-1);rw [hl] at g1 g2;simp at g1 g2;by_cases hp:j=2*((j+1+1) / 2-1)
  ·rw [← hp] at g1;exact hne g1
  ·have:j=2*((j+1+1) / 2-1)+1:=by omega
   rw [← this] at g2;exact hne g2
theorem RetOf.toZ {w w':World} {neg:Bool} {l:List Nat} {e:Ending} (hl:Ws l) (h:RetOf w neg (digs (val l)) e w'):RetZ w (sg neg (val l)) e w':=by
 obtain ⟨A,c,he,h1,h2,h3,h4⟩:=h;refine ⟨A,(digs (val l)).length,c,?_,h1,by rw [sg_natAbs];exact h2,h3,h4⟩;rw [he];by_cases hz:val l=0
 ·rw [hz,sg_zero,digs_zero];simp
 ·have hp:0<(digs (val l)).length:=by
   rcases Nat.eq_zero_or_pos (digs (val l)).length with h0|h0
   ·have:=val_digs (val l);rw [List.eq_nil_of_length_eq_zero h0] at this;exact absurd this.symm hz
   ·exact h0
  rw [sg_neg hz,decide_eq_true hp,Bool.and_true]
theorem halvesL_Dg {l:List Nat} (hw:Ws l):Dg (halvesL l):=fun i=>by
 obtain ⟨g1,g2⟩:=halvesL_get l (i / 2);have hd:=hw.get (i / 2);rcases Nat.mod_two_eq_zero_or_one i with h|h
 ·rw [show 2*(i / 2)=i by omega] at g1;omega
 ·rw [show 2*(i / 2)+1=i by omega] at g2;omega
theorem Dg.take {hs:List Int} (h:Dg hs) (k:Nat):Dg (hs.take k):=fun i=>by
 rw [List.getElem?_take];split
 ·exact h i
 ·simp
theorem rleast_any (neg:Bool) (A:Option Addr) (n c:Nat) (l:List Nat) (w:World) (h:Wat w A n l) (hm:n≤10000000000) :
  Calls Tryz.prog 134 #[.agg #[.bool neg,.slice A n c]] w (RetZ w (sg neg (val l))):=by
 have hF:∀ (W:World) A1 c1,IsAt W A1 (tl (halvesL l) (2*n)) ((halvesL l).take (tl (halvesL l) (2*n)))→tl (halvesL l) (2*n)≤c1 →
   Calls Tryz.prog 184 #[.bool neg,.slice A1 (tl (halvesL l) (2*n)) c1] W (RetZ W (sg neg (val l))):=fun W A1 c1 hI hc=>by
  have hk:=tl_le (halvesL l) (2*n);refine (rof_any neg A1 _ c1 _ W hI hc (by omega) ((halvesL_Dg h.2.1).take _)).mono fun e w' hr=>?_;rw [← h.1] at hr hk;rw [tl_idem,List.take_take,Nat.min_self,least_digs h.2.1] at hr;exact hr.toZ h.2.1
 go_enter Tryz.func134,Tryz.ntmps134
 go_wp2_with fail
 obtain ⟨hB0,hB1,hBW,hsz⟩:=pre2 w 40 #[.bool neg,.slice A n c] 40 #[.bool false,.slice none 0 0];generalize (w.alloc (.cells #[.bool neg,.slice A n c] 40)).alloc (.cells #[.bool false,.slice none 0 0] 40)=W at *;have HSZ:=Hj hsz;have HFF:=Hj hF;clear hsz hF;have s4:=RS.start hB1;have hw:∀ w',RS (w.heap.size+1) 40 W w'→Wat w' A n l:=fun w' hk=>h.below (hBW.trans (hk.1.mono (by omega)));have HW:=Hj hw;clear hw;have hS:∀ w',RS (w.heap.size+1) 40 W w'→(w'.cell? ⟨w.heap.size,0,none⟩=some (.bool neg)∧w'.cell? ⟨w.heap.size,1,none⟩=some (.slice A n c))∧RS (w.heap.size+1) 40 W w':=fun w' hk=>⟨⟨(hk.blk hB0 (by omega)).cell 0,(hk.blk hB0 (by omega)).cell 1⟩,hk⟩;have HS:=Hj hS;clear hS;clear hB0 hB1
 go_region_held3 (fun w'=>(w'.cell? ⟨w.heap.size,0,none⟩=some (.bool neg)∧w'.cell? ⟨w.heap.size,1,none⟩=some (.slice A n c))∧RS (w.heap.size+1) 40 W w')
  (first|exact HS.out _ (by assumption)|exact HS.out _ (RS.drew (by assumption))|exact HS.out _ (RS.drew (And.right (by assumption)))|exact HS.out _ (RS.set (And.right (by assumption)) _ _))
  (first
   | (go_at_call 186;have hk:=And.right ‹_∧RS (w.heap.size+1) 40 W _›;refine (rhalves_any A n c l _ (HW.out _ hk) (by omega)).mono ?_;rintro e w1 ⟨A1,c1,rfl,hI1,hb1,hc1⟩;have hr1:=hk.call hb1)
   | (go_at_call 184;have hk:=And.right ‹_∧RS (w.heap.size+1) 40 W _›;refine (HFF.out _ A1 c1 hI1 hc1).mono ?_;intro e w2 hr;obtain ⟨A2,k2,c2,rfl,hk2,hW2,hF2,hb2⟩:=hr;have hr2:=hr1.call hb2;obtain ⟨_,_,c0,c1,f0,f1⟩:=hr2.two))
 have hfin:=retZ_close hBW (by omega) (by obtain ⟨_,_,_,hx⟩:=hr1;exact hx.lt) hr2 hk2 hW2 hF2;obtain ⟨d0,d1,-,-⟩:=(hr2.done (.bool (decide (sg neg (val l)<0))) (.slice A2 k2 c2)).two;have HF:=Hj hfin;clear hfin;go_wp2;refine bodyPost_ret (v:=.agg #[.bool (decide (sg neg (val l)<0)),.slice A2 k2 c2]) ?_ rfl HF.out;simp [results,Tryz.results134,go_sem,d0,d1]
theorem blk_wat2 {w:World} {g d d':Nat} {t:TypeId} (h:Blk w g t #[.int .u32 ((d:Nat):Int),.int .u32 ((d':Nat):Int)]) (h1:d<4294967296) (h2:d'<4294967296):Wat w (some ⟨g,0,none⟩) 2 [d,d']:=by
 refine ⟨rfl,?_,fun _=>⟨g,0,rfl,h.lt,fun j hj=>?_⟩⟩
 ·intro x hx;simp at hx;rcases hx with rfl|rfl<;>assumption
 ·obtain ⟨a,b,_,_⟩:=h.two;rcases j with _|_|j
  ·exact a
  ·exact b
  ·omega
theorem val_two (u:Nat):val [u % 4294967296,u / 4294967296]=u:=by
 rw [val_cons,val_cons,val_nil];omega
theorem rfrom_any (z:Int) (w:World) (h1 : -9223372036854775808≤z) (h2:z≤9223372036854775807) :
  Calls Tryz.prog 87 #[.int .i64 z] w (RetZ w z):=by
 by_cases hz:z<0
 ·have hw:IntKind.u64.wrap (-(IntKind.u64.wrap z))=(z.natAbs:Int):=by
   rw [IntKind.wrap_u64,IntKind.wrap_u64];omega
  have hw2:IntKind.u64.wrap ((z.natAbs:Int).tdiv 4294967296)=((z.natAbs / 4294967296:Nat):Int):=by
   rw [IntKind.wrap_u64,Int.tdiv_eq_ediv_of_nonneg (by omega)];omega
  have hm1:(z.natAbs:Int).tmod 4294967296 % 4294967296=((z.natAbs % 4294967296:Nat):Int):=by
   rw [Int.tmod_eq_emod_of_nonneg (by omega)];omega
  have hm2:((z.natAbs / 4294967296:Nat):Int) % 4294967296=((z.natAbs / 4294967296:Nat):Int):=by omega
  have hs:sg true (val [z.natAbs % 4294967296,z.natAbs / 4294967296])=z:=by rw [val_two];unfold sg;simp;omega
  have hd:z.natAbs % 4294967296<4294967296:=by omega
  have hd':z.natAbs / 4294967296<4294967296:=by omega
  have HW:=Hj hw;have HW2:=Hj hw2;have HM1:=Hj hm1;have HM2:=Hj hm2;clear hw hw2 hm1 hm2 h1 h2;go_enter Tryz.func87,Tryz.ntmps87
  go_wp2_with fail
  rw [HW.out,HW2.out,HM1.out,HM2.out];generalize z.natAbs % 4294967296=d at *;generalize z.natAbs / 4294967296=d' at *;clear HW HW2 HM1 HM2;clear hz;have HZ:=Hj hs;have hg:=(Blk.new w 40 #[.bool false,.slice none 0 0]).alloc (.cells #[.int .u32 ((d:Nat):Int),.int .u32 ((d':Nat):Int)] 59);have hu:=blk_wat2 (Blk.new1 w (.cells #[.bool false,.slice none 0 0] 40) 59 #[.int .u32 ((d:Nat):Int),.int .u32 ((d':Nat):Int)]) hd hd';have hbw:Below w.heap.size w ((w.alloc (.cells #[.bool false,.slice none 0 0] 40)).alloc (.cells #[.int .u32 ((d:Nat):Int),.int .u32 ((d':Nat):Int)] 59)):=((Below.refl _ _).alloc (Nat.le_refl _) _).alloc (by simp) _;have hsz:((w.alloc (.cells #[.bool false,.slice none 0 0] 40)).alloc (.cells #[.int .u32 ((d:Nat):Int),.int .u32 ((d':Nat):Int)] 59)).heap.size=w.heap.size+2:=by simp
  generalize (w.alloc (.cells #[.bool false,.slice none 0 0] 40)).alloc (.cells #[.int .u32 ((d:Nat):Int),.int .u32 ((d':Nat):Int)] 59)=W at *;refine (rleast_any _ _ 2 2 [d,d'] W hu (by omega)).mono ?_;rw [HZ.out];rintro e w1 ⟨A,k,c,rfl,hk,hW,hF,hB⟩;have hg1:=hg.below hB (by omega);have hfin:=retZ_close hbw (by omega) (by omega) ⟨hB.mono (by omega),_,_,hg1⟩ hk hW hF;have hg2:=hg1.set2 (.bool (decide (z<0))) (.slice A k c);obtain ⟨c0,c1,f0,f1⟩:=hg1.two;have HF:=Hj hfin;clear hfin hu hbw hsz hB hW hF hg hg1;generalize decide (z<0)=zb at *;go_wp2;obtain ⟨d0,d1,-,-⟩:=hg2.two;refine bodyPost_ret (v:=.agg #[.bool zb,.slice A k c]) ?_ rfl HF.out;simp [results,Tryz.results87,go_sem,d0,d1]
 ·have hn:z=(z.natAbs:Int):=by omega
  generalize z.natAbs=n at *;have hm1:z % 4294967296=((n % 4294967296:Nat):Int):=by omega
  have hm2:z / 4294967296=((n / 4294967296:Nat):Int):=by omega
  have hdz:decide (z<0)=false:=decide_eq_false hz;have hs:sg false (val [n % 4294967296,n / 4294967296])=z:=by rw [val_two,hn];unfold sg;simp
  have hd:n % 4294967296<4294967296:=by omega
  have hd':n / 4294967296<4294967296:=by omega
  have HM1:=Hj hm1;have HM2:=Hj hm2;have HDZ:=Hj hdz;clear hm1 hm2 hdz hn;go_enter Tryz.func87,Tryz.ntmps87
  go_wp2_with fail
  rw [HM1.out,HM2.out];clear HM1 HM2 hz HDZ;generalize n % 4294967296=d at *;generalize n / 4294967296=d' at *;have HZ:=Hj hs;have hg:=(Blk.new w 40 #[.bool false,.slice none 0 0]).alloc (.cells #[.int .u32 ((d:Nat):Int),.int .u32 ((d':Nat):Int)] 59);have hu:=blk_wat2 (Blk.new1 w (.cells #[.bool false,.slice none 0 0] 40) 59 #[.int .u32 ((d:Nat):Int),.int .u32 ((d':Nat):Int)]) hd hd';have hbw:Below w.heap.size w ((w.alloc (.cells #[.bool false,.slice none 0 0] 40)).alloc (.cells #[.int .u32 ((d:Nat):Int),.int .u32 ((d':Nat):Int)] 59)):=((Below.refl _ _).alloc (Nat.le_refl _) _).alloc (by simp) _;have hsz:((w.alloc (.cells #[.bool false,.slice none 0 0] 40)).alloc (.cells #[.int .u32 ((d:Nat):Int),.int .u32 ((d':Nat):Int)] 59)).heap.size=w.heap.size+2:=by simp
  generalize (w.alloc (.cells #[.bool false,.slice none 0 0] 40)).alloc (.cells #[.int .u32 ((d:Nat):Int),.int .u32 ((d':Nat):Int)] 59)=W at *;refine (rleast_any _ _ 2 2 [d,d'] W hu (by omega)).mono ?_;rw [HZ.out];rintro e w1 ⟨A,k,c,rfl,hk,hW,hF,hB⟩;have hg1:=hg.below hB (by omega);have hfin:=retZ_close hbw (by omega) (by omega) ⟨hB.mono (by omega),_,_,hg1⟩ hk hW hF;have hg2:=hg1.set2 (.bool (decide (z<0))) (.slice A k c);obtain ⟨c0,c1,f0,f1⟩:=hg1.two;have HF:=Hj hfin;clear hfin hu hbw hsz hB hW hF hg hg1;generalize decide (z<0)=zb at *;go_wp2;obtain ⟨d0,d1,-,-⟩:=hg2.two;refine bodyPost_ret (v:=.agg #[.bool zb,.slice A k c]) ?_ rfl HF.out;simp [results,Tryz.results87,go_sem,d0,d1]
def vh:List Int→Nat
 | []=>0
 | d :: l=>d.toNat+65536*vh l
theorem vh_cons (d:Int) (l:List Int):vh (d :: l)=d.toNat+65536*vh l:=rfl
theorem Dg.nil:Dg []:=fun i=>by simp
theorem Dg.head {d:Int} {l:List Int} (h:Dg (d :: l)):0≤d∧d<65536:=by have:=h 0;simpa using this
theorem Dg.tail {d:Int} {l:List Int} (h:Dg (d :: l)):Dg l:=fun i=>by have:=h (i+1);simpa using this
theorem Dg.cons {d:Int} {l:List Int} (h0:0≤d) (h1:d<65536) (h:Dg l):Dg (d :: l):=fun i=>by
 match i with
 | 0=>simp;omega
 | i+1=>have:=h i;simpa using this
theorem Dg.snoc {d:Int} {l:List Int} (h:Dg l) (h0:0≤d) (h1:d<65536):Dg (l ++ [d]):=by
 induction l with
 | nil=>exact Dg.cons h0 h1 Dg.nil
 | cons e l ih=>exact Dg.cons h.head.1 h.head.2 (ih h.tail)
theorem vh_snoc (a:List Int) (d:Int):vh (a ++ [d])=vh a+65536 ^ a.length*d.toNat:=by
 induction a with
 | nil=>simp [vh]
 | cons e a ih =>
  simp only [List.cons_append,vh_cons,ih,List.length_cons,Nat.pow_succ,Nat.mul_add];rw [show 65536*(65536 ^ a.length*d.toNat)=65536 ^ a.length*65536*d.toNat by
   rw [← Nat.mul_assoc,Nat.mul_comm 65536 (65536 ^ a.length)]]
  omega
theorem vh_lt {l:List Int} (h:Dg l):vh l<65536 ^ l.length:=by
 induction l with
 | nil=>simp [vh]
 | cons d l ih =>
  have h1:=ih h.tail;have h2:=h.head;simp only [vh_cons,List.length_cons,Nat.pow_succ];omega
theorem vh_get {l:List Int} (h:Dg l) (i:Nat):l[i]?.getD 0=((vh l / 65536 ^ i % 65536:Nat):Int):=by
 induction l generalizing i with
 | nil=>simp [vh]
 | cons d l ih =>
  have h2:=h.head
  match i with
  | 0=>simp [vh_cons];omega
  | i+1 =>
   rw [List.getElem?_cons_succ,ih h.tail i,vh_cons,Nat.pow_succ,Nat.mul_comm (65536 ^ i),← Nat.div_div_eq_div_mul,show (d.toNat+65536*vh l) / 65536=vh l by omega]
def hd (n:Nat):List Int:=if h:n=0 then [] else ((n % 65536:Nat):Int) :: hd (n / 65536)
 termination_by n
 decreasing_by exact Nat.div_lt_self (Nat.pos_of_ne_zero h) (by decide)
theorem hd_zero:hd 0=[]:=by rw [hd];simp
theorem hd_pos {n:Nat} (h:n≠0):hd n=((n % 65536:Nat):Int) :: hd (n / 65536):=by
 rw [hd];simp [h]
theorem vh_hd (n:Nat):vh (hd n)=n:=by
 induction n using Nat.strongRecOn with
 | _ n ih =>
  rcases Nat.eq_zero_or_pos n with h0|h0
  ·subst h0;rw [hd_zero];rfl
  ·rw [hd_pos (by omega),vh_cons,ih _ (Nat.div_lt_self h0 (by decide)),Int.toNat_natCast];omega
theorem hd_Dg (n:Nat):Dg (hd n):=by
 induction n using Nat.strongRecOn with
 | _ n ih =>
  rcases Nat.eq_zero_or_pos n with h0|h0
  ·subst h0;rw [hd_zero];exact Dg.nil
  ·rw [hd_pos (by omega)];exact Dg.cons (by omega) (by omega) (ih _ (Nat.div_lt_self h0 (by decide)))
theorem hd_len_le {n k:Nat}:(hd n).length≤k↔n<65536 ^ k:=by
 induction k generalizing n with
 | zero =>
  constructor
  ·intro h;rcases Nat.eq_zero_or_pos n with h0|h0
   ·omega
   ·rw [hd_pos (by omega)] at h;simp at h
  ·intro h;have:n=0:=by simpa using h
   subst this;rw [hd_zero];simp
 | succ k ih =>
  rcases Nat.eq_zero_or_pos n with h0|h0
  ·subst h0;rw [hd_zero];simp [Nat.pow_pos]
  ·rw [hd_pos (by omega),List.length_cons,Nat.pow_succ];have:=@ih (n / 65536);rw [Nat.add_le_add_iff_right,this,Nat.div_lt_iff_lt_mul (by decide)]
theorem hd_len_zero {n:Nat}:(hd n).length=0↔n=0:=by
 have:=@hd_len_le n 0;simp only [Nat.pow_zero] at this;omega
theorem hd_len_mono {m n:Nat} (h:m≤n):(hd m).length≤(hd n).length:=by
 rw [hd_len_le];have:=(@hd_len_le n (hd n).length).1 (Nat.le_refl _);omega
theorem hd_vh {l:List Int} (h:Dg l) (hl:∀ j,l.length=j+1→l[j]?.getD 0≠0):hd (vh l)=l:=by
 induction l with
 | nil=>exact hd_zero
 | cons d l ih =>
  have h2:=h.head;have hl2:∀ j,l.length=j+1→l[j]?.getD 0≠0:=fun j hj=>by
   have:=hl (j+1) (by rw [List.length_cons,hj])
   rwa [List.getElem?_cons_succ] at this
  have e:=ih h.tail hl2;have hne:vh (d :: l)≠0:=by
   intro h0;rw [vh_cons] at h0;have hv:vh l=0:=by omega
   rw [hv,hd_zero] at e;subst e;have:=hl 0 rfl;simp at this;omega
  rw [vh_cons] at hne ⊢;rw [hd_pos hne,show (d.toNat+65536*vh l) / 65536=vh l by omega,e,show (d.toNat+65536*vh l) % 65536=d.toNat by omega,Int.toNat_of_nonneg h2.1]
theorem vh_take_zero {l:List Int} {k:Nat} (h:∀ i,k≤i→l[i]?.getD 0=0):vh (l.take k)=vh l:=by
 induction l generalizing k with
 | nil=>simp
 | cons d l ih =>
  match k with
  | 0 =>
   have h0:=h 0 (Nat.le_refl _);have:=ih (k:=0) fun i hi=>by have:=h (i+1) (by omega);rwa [List.getElem?_cons_succ] at this
   simp at h0;simp [vh] at this ⊢;omega
  | k+1 =>
   rw [List.take_succ_cons,vh_cons,vh_cons,ih fun i hi=>by have:=h (i+1) (by omega);rwa [List.getElem?_cons_succ] at this]
theorem tl_hd {l:List Int} (h:Dg l):l.take (tl l l.length)=hd (vh l)∧tl l l.length=(hd (vh l)).length:=by
 have h1:vh (l.take (tl l l.length))=vh l:=vh_take_zero fun i hi=>by
  by_cases h:i<l.length
  ·exact tl_zero _ hi h
  ·rw [List.getElem?_eq_none (by omega)];rfl
 have h2:(l.take (tl l l.length)).length=tl l l.length:=by rw [List.length_take,Nat.min_eq_left (tl_le _ _)]
 have h3:=hd_vh (l:=l.take (tl l l.length)) (h.take _) fun j hj=>by
  rw [h2] at hj;rw [List.getElem?_take,if_pos (by omega)];exact tl_last l hj
 rw [h1] at h3;exact ⟨h3.symm,by rw [h3,h2]⟩
theorem vh_halves {l:List Nat} (hw:Ws l):vh (halvesL l)=val l:=by
 induction l with
 | nil=>rfl
 | cons d l ih =>
  have e:halvesL (d :: l)=[((d:Nat):Int) % 65536,((d:Nat):Int) / 65536] ++ halvesL l:=by unfold halvesL;rw [List.flatMap_cons]
  have hd:=hw.head;rw [e,val_cons];simp only [List.cons_append,List.nil_append,vh_cons,ih hw.tail];omega
theorem half_len {v K:Nat} (h:v<4294967296 ^ K):(hd v).length≤2*K:=by
 rw [hd_len_le,Nat.pow_mul];exact h
theorem words_hd (v:Nat):wdsL (hd v) (((hd v).length+1) / 2)=digs v:=by
 have h:=least_digs (digs_Ws v);have e:=tl_hd (halvesL_Dg (digs_Ws v));rw [vh_halves (digs_Ws v),val_digs,halvesL_len] at e;rw [e.1,e.2,val_digs] at h;exact h
def cmpN (a b:Nat):Int:=if a<b then -1 else if b<a then 1 else 0
theorem div_step (a i:Nat):a / 65536 ^ i=65536*(a / 65536 ^ (i+1))+a / 65536 ^ i % 65536:=by
 rw [Nat.pow_succ,← Nat.div_div_eq_div_mul];omega
theorem lt_of_div {a b i:Nat} (h:a / 65536 ^ i<b / 65536 ^ i):a<b:=by
 rcases Nat.lt_or_ge a b with h1|h1
 ·exact h1
 ·have:=Nat.div_le_div_right (c:=65536 ^ i) h1;omega
theorem mod_step (a i:Nat):a % 65536 ^ (i+1)=a % 65536 ^ i+65536 ^ i*(a / 65536 ^ i % 65536):=by
 rw [Nat.pow_succ,Nat.mod_mul]
theorem quo_step (a b i:Nat) (hb:0<b):(a / 65536 ^ (i+1) % b*65536+a / 65536 ^ i % 65536) / b=a / b / 65536 ^ i % 65536∧(a / 65536 ^ (i+1) % b*65536+a / 65536 ^ i % 65536) % b=a / 65536 ^ i % b:=by
 have e1:=div_step a i;have e2:=Nat.div_add_mod (a / 65536 ^ (i+1)) b;have e3:=Nat.mod_lt (a / 65536 ^ (i+1)) hb;have e4:a / b / 65536 ^ i=a / 65536 ^ i / b:=by rw [Nat.div_div_eq_div_mul,Nat.mul_comm,← Nat.div_div_eq_div_mul]
 have e5:a / 65536 ^ i % 65536<65536:=Nat.mod_lt _ (by decide);rw [e4];generalize a / 65536 ^ (i+1)=X at *;generalize a / 65536 ^ i=Y at *;generalize X % b=R at *;generalize hQ:X / b=Q at *;generalize Y % 65536=D at *;have e6:Y=b*(65536*Q)+(R*65536+D):=by
  rw [e1,← e2,Nat.mul_add,Nat.mul_left_comm];omega
 have e7:(R*65536+D) / b<65536:=by
  rw [Nat.div_lt_iff_lt_mul hb];have:(R+1)*65536≤b*65536:=Nat.mul_le_mul_right _ e3;omega
 refine ⟨?_,by rw [e6,Nat.mul_add_mod]⟩;rw [e6,Nat.mul_add_div hb,Nat.mul_add_mod,Nat.mod_eq_of_lt e7]
def RA (w:World) (A:Option Addr) (n c v:Nat):Prop:=∃ hs,IsAt w A n hs∧Dg hs∧vh hs=v∧n≤c
def HA (w:World) (A:Option Addr) (n c v:Nat):Prop:=n=(hd v).length∧IsAt w A n (hd v)∧n≤c
section
variable {w w':World} {A:Option Addr} {n c v:Nat}
theorem HA.ra (h:HA w A n c v):RA w A n c v:=⟨hd v,h.2.1,hd_Dg v,vh_hd v,h.2.2⟩
theorem RA.below (h:RA w A n c v) (hb:Below w.heap.size w w'):RA w' A n c v:=by
 obtain ⟨hs,h1,h2⟩:=h;exact ⟨hs,h1.below hb,h2⟩
theorem HA.below (h:HA w A n c v) (hb:Below w.heap.size w w'):HA w' A n c v:=⟨h.1,h.2.1.below hb,h.2.2⟩
theorem RA.lt (h:RA w A n c v):v<65536 ^ n:=by
 obtain ⟨hs,h1,h2,h3,h4⟩:=h;have:=vh_lt h2;rw [h1.1,h3] at this;exact this
theorem HA.len (h:HA w A n c v) {k:Nat} (hk:v<65536 ^ k):n≤k:=by rw [h.1];exact hd_len_le.2 hk
theorem HA.zero (h:HA w A n c v):n=0↔v=0:=by rw [h.1];exact hd_len_zero
theorem RA.nil:RA w none 0 0 0:=⟨[],⟨rfl,fun h=>absurd rfl h⟩,Dg.nil,rfl,Nat.le_refl _⟩
end
def dg (v i:Nat):Nat:=v / 65536 ^ i % 65536
theorem dg_lt (v i:Nat):dg v i<65536:=Nat.mod_lt _ (by decide)
theorem trim_at (A:Option Addr) (n c v:Nat) (w:World) (h:RA w A n c v) (hn:n≤1000000000000) :
  Calls Tryz.prog 211 #[.slice A n c] w fun e w'=>∃ A1 n1,e=.returned (.slice A1 n1 c)∧HA w' A1 n1 c v∧w'=w∧∀ b o,A=some ⟨b,o,none⟩→A1=some ⟨b,o,none⟩:=by
 obtain ⟨hs,h1,h2,h3,h4⟩:=h;refine (rtrim_at A n c hs w h1 h4 hn).mono ?_;rintro e w' ⟨A1,rfl,hI,rfl,hAA⟩;have e1:=tl_hd h2;rw [h1.1,h3] at e1;rw [e1.1] at hI;exact ⟨A1,tl hs n,rfl,⟨e1.2,hI,Nat.le_trans (tl_le _ _) h4⟩,rfl,hAA⟩
theorem trim_ra (A:Option Addr) (n c v:Nat) (w:World) (h:RA w A n c v) (hn:n≤1000000000000) :
  Calls Tryz.prog 211 #[.slice A n c] w fun e w'=>∃ A1 n1,e=.returned (.slice A1 n1 c)∧HA w' A1 n1 c v∧w'=w :=
 (trim_at A n c v w h hn).mono fun e w' ⟨A1,n1,h1,h2,h3,_⟩=>⟨A1,n1,h1,h2,h3⟩
theorem at_ra (A:Option Addr) (n c v i:Nat) (w:World) (h:RA w A n c v) :
  Calls Tryz.prog 212 #[.slice A n c,.int .i64 i] w fun e w'=>e=.returned (.int .i64 ((dg v i:Nat):Int))∧w'=w:=by
 obtain ⟨hs,h1,h2,h3,h4⟩:=h;have:=rat_any A n c i hs w h1;rw [vh_get h2,h3] at this;exact this
theorem halves_any (A:Option Addr) (n c:Nat) (l:List Nat) (w:World) (h:Wat w A n l) (hn:n≤100000000000) :
  Calls Tryz.prog 186 #[.slice A n c] w fun e w'=>∃ A1 n1 c1,e=.returned (.slice A1 n1 c1)∧HA w' A1 n1 c1 (val l)∧Below w.heap.size w w':=by
 refine (rhalves_any A n c l w h hn).mono ?_;rintro e w' ⟨A1,c1,rfl,hI,hb,hc⟩;have e1:=tl_hd (halvesL_Dg h.2.1);rw [halvesL_len,h.1,vh_halves h.2.1] at e1;rw [e1.1] at hI;exact ⟨A1,_,c1,rfl,⟨e1.2,hI,hc⟩,hb⟩
theorem of_any (neg:Bool) (A:Option Addr) (n c v:Nat) (w:World) (h:RA w A n c v) (hn:n≤1000000000000) :
  Calls Tryz.prog 184 #[.bool neg,.slice A n c] w (RetZ w (sg neg v)):=by
 obtain ⟨hs,h1,h2,h3,h4⟩:=h;refine (rof_any neg A n c hs w h1 h4 hn h2).mono fun e w' hr=>?_;have e1:=tl_hd h2;rw [h1.1,h3] at e1;rw [e1.1,e1.2,words_hd] at hr;have h2:=val_digs v;rw [← h2] at hr;have:=hr.toZ (digs_Ws v)
 rwa [h2] at this
theorem cmp_step {a b k:Nat} (h:a / 65536 ^ (k+1)=b / 65536 ^ (k+1)):(dg a k<dg b k→a<b)∧(dg b k<dg a k→b<a)∧(dg a k=dg b k→a / 65536 ^ k=b / 65536 ^ k):=by
 have e1:=div_step a k;have e2:=div_step b k;unfold dg;exact ⟨fun h1=>lt_of_div (i:=k) (by omega),fun h1=>lt_of_div (i:=k) (by omega),fun h1=>by omega⟩
theorem cmp_lt {a b:Nat} (h:a<b):cmpN a b = -1:=by unfold cmpN;rw [if_pos h]
theorem cmp_gt {a b:Nat} (h:b<a):cmpN a b=1:=by unfold cmpN;rw [if_neg (by omega),if_pos h]
theorem cmp_eq (a:Nat):cmpN a a=0:=by unfold cmpN;simp
theorem cmp_ra (A B:Option Addr) (n c m d a b:Nat) (w:World) (h:RA w A n c a) (h':RA w B m d b) (hn:n≤1000000000000) (hm:m≤1000000000000) :
  Calls Tryz.prog 188 #[.slice A n c,.slice B m d] w fun e w'=>e=.returned (.int .i64 (cmpN a b))∧w'=w:=by
 have TA:=Hj (fun (i:Nat)=>at_ra A n c a i w h);have TB:=Hj (fun (i:Nat)=>at_ra B m d b i w h');obtain ⟨p,hp1,hp2,hp3⟩:∃ p:Nat,max (n:Int) (m:Int)=(p:Int)∧a / 65536 ^ p=b / 65536 ^ p∧p≤1000000000000:=by
  refine ⟨max n m,by omega,?_,by omega⟩;rw [Nat.div_eq_of_lt (Nat.lt_of_lt_of_le h.lt (Nat.pow_le_pow_right (by decide) (Nat.le_max_left n m))),Nat.div_eq_of_lt (Nat.lt_of_lt_of_le h'.lt (Nat.pow_le_pow_right (by decide) (Nat.le_max_right n m)))]
 have hp4:(if (n:Int)<(m:Int) then (m:Int) else (n:Int))=(p:Int):=by rw [← hp1];split<;>omega
 have hp5:(if n<m then (m:Int) else (n:Int))=(p:Int):=by rw [← hp1];split<;>omega
 have HP:=Hj hp2;clear hp2 h h';go_enter Tryz.func188,Tryz.ntmps188
 go_wp2_with fail
 go_loopw [5] (fun t wr=>∃ k:Nat,k≤p∧t=.int .i64 ((k:Int)-1)∧Hid (a / 65536 ^ k=b / 65536 ^ k∧wr=w)) (fun t _=>(intOf t+1).toNat)
 case atStart=>exact ⟨p,Nat.le_refl _,by first|rfl|go_num,HP.out,rfl⟩
 case round =>
  obtain ⟨k,hk,rfl,hR⟩:=hrel;obtain ⟨hR1,rfl⟩:=hR.out;by_cases h0:k=0
  ·subst h0;have hab:a=b:=by simpa using hR1
   subst hab;have HC:=Hj (cmp_eq a);clear hR hR1;go_wp2;go_ret;exact ⟨by rw [HC.out];rfl,rfl⟩
  ·obtain ⟨j,rfl⟩:∃ j,k=j+1:=⟨k-1,by omega⟩;have ej:(((j+1:Nat):Int)-1)=(j:Int):=by omega
   have hs:=Hj (cmp_step hR1);have T1:=Hj (TA.out j);have T2:=Hj (TB.out j);generalize dg a j=x at *;generalize dg b j=y at *;simp only [ej];clear hR hR1 TA TB HP;have tri:x<y∨y<x∨x=y:=by omega
   rcases tri with h1|h1|h1
   ·have d1:decide (x<y)=true:=decide_eq_true (by omega);have HC:=Hj (cmp_lt (hs.out.1 h1));clear h1
    go_wp2_with fail
    refine T1.out.mono ?_;rintro e w2 ⟨rfl,rfl⟩
    go_wp2_with fail
    refine T2.out.mono ?_;rintro e w3 ⟨rfl,rfl⟩;go_wp2;go_ret;exact ⟨by rw [HC.out];rfl,rfl⟩
   ·have d1:decide (x<y)=false:=decide_eq_false (by omega);have d2:decide (y<x)=true:=decide_eq_true (by omega);have HC:=Hj (cmp_gt (hs.out.2.1 h1));clear h1
    go_wp2_with fail
    refine T1.out.mono ?_;rintro e w2 ⟨rfl,rfl⟩
    go_wp2_with fail
    refine T2.out.mono ?_;rintro e w3 ⟨rfl,rfl⟩
    go_wp2_with fail
    refine T1.out.mono ?_;rintro e w2 ⟨rfl,rfl⟩
    go_wp2_with fail
    refine T2.out.mono ?_;rintro e w3 ⟨rfl,rfl⟩;go_wp2;go_ret;exact ⟨by rw [HC.out];rfl,rfl⟩
   ·subst h1;have HC:=Hj (hs.out.2.2 rfl);have d1:decide (x<x)=false:=decide_eq_false (by omega)
    go_wp2_with fail
    refine T1.out.mono ?_;rintro e w2 ⟨rfl,rfl⟩
    go_wp2_with fail
    refine T2.out.mono ?_;rintro e w3 ⟨rfl,rfl⟩
    go_wp2_with fail
    refine T1.out.mono ?_;rintro e w2 ⟨rfl,rfl⟩
    go_wp2_with fail
    refine T2.out.mono ?_;rintro e w3 ⟨rfl,rfl⟩;go_wp2;go_roundw
    case rel=>exact ⟨j,by omega,by first|rfl|go_num,HC.out,by first|rfl|trivial⟩
    case measure=>simp [intOf]
theorem mod_dg (a i:Nat):a % 65536 ^ (i+1)=a % 65536 ^ i+65536 ^ i*dg a i:=mod_step a i
def AddI (a b i:Nat) (hs:List Int) (cy:Nat):Prop:=hs.length=i∧Dg hs∧vh hs+65536 ^ i*cy=a % 65536 ^ i+b % 65536 ^ i∧cy≤1
theorem AddI.start (a b:Nat):AddI a b 0 [] 0:=⟨rfl,Dg.nil,by simp [vh,Nat.mod_one],by omega⟩
theorem snoc_val {hs:List Int} {i x:Nat} (hl:hs.length=i):vh (hs ++ [((x % 65536:Nat):Int)])+65536 ^ (i+1)*(x / 65536)=vh hs+65536 ^ i*x:=by
 rw [vh_snoc,hl,Int.toNat_natCast,Nat.pow_succ,Nat.mul_assoc,Nat.add_assoc,← Nat.mul_add,Nat.mod_add_div]
theorem AddI.step {a b i cy:Nat} {hs:List Int} (h:AddI a b i hs cy):AddI a b (i+1) (hs ++ [(((dg a i+dg b i+cy) % 65536:Nat):Int)]) ((dg a i+dg b i+cy) / 65536):=by
 obtain ⟨h1,h2,h3,h4⟩:=h;have:=dg_lt a i;have:=dg_lt b i;refine ⟨by simp [h1],h2.snoc (by omega) (by omega),?_,by omega⟩;rw [snoc_val h1,mod_dg,mod_dg,Nat.mul_add,Nat.mul_add];omega
theorem AddI.done {a b i:Nat} {hs:List Int} (h:AddI a b i hs 0) (ha:a<65536 ^ i) (hb:b<65536 ^ i):vh hs=a+b:=by
 have:=h.2.2.1;rw [Nat.mod_eq_of_lt ha,Nat.mod_eq_of_lt hb] at this;omega
def SubI (a b i:Nat) (hs:List Int) (lt:Nat):Prop:=hs.length=i∧Dg hs∧vh hs+b % 65536 ^ i=a % 65536 ^ i+65536 ^ i*lt∧lt≤1
theorem SubI.start (a b:Nat):SubI a b 0 [] 0:=⟨rfl,Dg.nil,by simp [vh,Nat.mod_one],by omega⟩
theorem SubI.step0 {a b i lt:Nat} {hs:List Int} (h:SubI a b i hs lt) (hv:dg b i+lt≤dg a i):SubI a b (i+1) (hs ++ [((dg a i:Nat):Int)-(dg b i:Nat)-(lt:Nat)]) 0:=by
 obtain ⟨h1,h2,h3,h4⟩:=h;have:=dg_lt a i;refine ⟨by simp [h1],h2.snoc (by omega) (by omega),?_,by omega⟩;rw [vh_snoc,h1,mod_dg,mod_dg,show (((dg a i:Nat):Int)-(dg b i:Nat)-(lt:Nat)).toNat=dg a i-dg b i-lt by omega];obtain ⟨k,hk⟩:∃ k,dg a i=dg b i+lt+k:=⟨dg a i-dg b i-lt,by omega⟩;rw [hk,show dg b i+lt+k-dg b i-lt=k by omega,Nat.mul_add,Nat.mul_add];omega
theorem SubI.step1 {a b i lt:Nat} {hs:List Int} (h:SubI a b i hs lt) (hv:dg a i<dg b i+lt):SubI a b (i+1) (hs ++ [((dg a i:Nat):Int)-(dg b i:Nat)-(lt:Nat)+65536]) 1:=by
 obtain ⟨h1,h2,h3,h4⟩:=h;have:=dg_lt a i;have:=dg_lt b i;refine ⟨by simp [h1],h2.snoc (by omega) (by omega),?_,by omega⟩;rw [vh_snoc,h1,mod_dg,mod_dg,show (((dg a i:Nat):Int)-(dg b i:Nat)-(lt:Nat)+65536).toNat=dg a i+65536-dg b i-lt by omega];obtain ⟨k,hk⟩:∃ k,dg a i+65536=dg b i+lt+k:=⟨dg a i+65536-dg b i-lt,by omega⟩;have e:=congrArg (65536 ^ i * ·) hk;simp only [Nat.mul_add] at e;rw [hk,show dg b i+lt+k-dg b i-lt=k by omega,Nat.pow_succ];omega
theorem SubI.done {a b i lt:Nat} {hs:List Int} (h:SubI a b i hs lt) (ha:a<65536 ^ i) (hb:b≤a):vh hs=a-b:=by
 obtain ⟨h1,h2,h3,h4⟩:=h;have hl:=vh_lt h2;rw [h1] at hl;rw [Nat.mod_eq_of_lt ha,Nat.mod_eq_of_lt (by omega)] at h3;obtain rfl|rfl:lt=0∨lt=1:=by omega
 ·omega
 ·omega
def TimI (b n i:Nat) (hs:List Int) (cy:Nat):Prop:=hs.length=i∧Dg hs∧vh hs+65536 ^ i*cy=b % 65536 ^ i*n∧cy<65536
theorem TimI.start (b n:Nat):TimI b n 0 [] 0:=⟨rfl,Dg.nil,by simp [vh,Nat.mod_one],by omega⟩
theorem dg_mul_le (b i:Nat) {n:Nat} (hn:n≤65536):dg b i*n≤65535*65536:=Nat.mul_le_mul (by have:=dg_lt b i;omega) hn
theorem TimI.step {b n i cy:Nat} {hs:List Int} (h:TimI b n i hs cy) (hn:n≤65536):TimI b n (i+1) (hs ++ [(((dg b i*n+cy) % 65536:Nat):Int)]) ((dg b i*n+cy) / 65536):=by
 obtain ⟨h1,h2,h3,h4⟩:=h;have:=dg_mul_le b i hn;refine ⟨by simp [h1],h2.snoc (by omega) (by omega),?_,by omega⟩;rw [snoc_val h1,mod_dg,Nat.mul_add,Nat.add_mul,Nat.mul_assoc];omega
theorem TimI.done {b n i:Nat} {hs:List Int} (h:TimI b n i hs 0) (hb:b<65536 ^ i):vh hs=b*n:=by
 have:=h.2.2.1;rw [Nat.mod_eq_of_lt hb] at this;omega
theorem dg_over {b i:Nat} (hb:b<65536 ^ i):dg b i=0:=by unfold dg;rw [Nat.div_eq_of_lt hb]
theorem lt_pow_le {b i k:Nat} (hb:b<65536 ^ i) (h:i≤k):b<65536 ^ k:=Nat.lt_of_lt_of_le hb (Nat.pow_le_pow_right (by decide) h)
end Go.Proofs.YtjajigkacccdgaaGreat
