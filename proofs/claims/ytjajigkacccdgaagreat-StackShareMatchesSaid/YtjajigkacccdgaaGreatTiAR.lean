/-
Lemmas of the walk; no further conditions.
-/
import Derived.Test.YtjajigkacccdgaaGreatTiAQ
set_option linter.unusedVariables false
set_option linter.unusedSimpArgs false
set_option maxRecDepth 100000
set_option maxHeartbeats 16000000
namespace Go.Proofs.YtjajigkacccdgaaGreat
open Go.RowKit
open Wd
abbrev Lv0:St.Lv:=(0,0,[])
def LvAt (w:World) (A:Option Addr) (m n:Nat) (lv:List St.Lv):Prop :=
 lv.length=m∧(m≠0→∃ b o,A=some ⟨b,o,none⟩∧b<w.heap.size∧∀ j,j<m→∃ A' c',(w.cell? ⟨b,o+j*3,none⟩=some (.int .i64 (lv[j]?.getD Lv0).1)∧w.cell? ⟨b,o+j*3+1,none⟩=some (.int .i64 (lv[j]?.getD Lv0).2.1)∧w.cell? ⟨b,o+j*3+2,none⟩=some (.slice A' n c'))∧IsAt w A' n (lv[j]?.getD Lv0).2.2)
theorem LvAt.below {w w':World} {A:Option Addr} {m n:Nat} {lv:List St.Lv} (h:LvAt w A m n lv) (hb:Below w.heap.size w w'):LvAt w' A m n lv:=by
 refine ⟨h.1,fun hn=>?_⟩;obtain ⟨b,o,rfl,hlt,hc⟩:=h.2 hn;refine ⟨b,o,rfl,Nat.lt_of_lt_of_le hlt hb.size,fun j hj=>?_⟩;obtain ⟨A',c',⟨h1,h2,h3⟩,h4⟩:=hc j hj;exact ⟨A',c',⟨(hb.cell hlt).trans h1,(hb.cell hlt).trans h2,(hb.cell hlt).trans h3⟩,h4.below hb⟩
def sumI:List Int→Int
 | []=>0
 | x :: xs=>x+sumI xs
structure VL (up:Bool) (n:Nat) (lv:List St.Lv):Prop where
 len:lv.length≤48
 n0:lv.length≠0→1≤n
 n16:n≤16
 price:∀ x∈lv,-1000000≤x.1∧x.1≤1000000
 parts:∀ x∈lv,x.2.2.length=n∧∀ y∈x.2.2,0≤y∧y≤1000000
 sum:∀ x∈lv,x.2.1=sumI x.2.2∧x.2.1≠0
 mono:(lv.map (·.1)).Pairwise (St.ltU up)
theorem sumI_bd:∀ (xs:List Int),(∀ y∈xs,0≤y∧y≤1000000)→0≤sumI xs∧sumI xs≤1000000*(xs.length:Int)
 | [],_=>by simp [sumI]
 | x :: xs,h=>by
  have h1:=h x (List.mem_cons_self ..);have h2:=sumI_bd xs fun y hy=>h y (List.mem_cons_of_mem _ hy);rw [sumI,List.length_cons];omega
theorem sumI_snoc:∀ (xs:List Int) (y:Int),sumI (xs ++ [y])=sumI xs+y
 | [],y=>by simp [sumI]
 | x :: xs,y=>by rw [List.cons_append,sumI,sumI_snoc xs y,sumI];omega
theorem take_int {xs:List Int} {k:Nat} (hk:k<xs.length):xs.take (k+1)=xs.take k ++ [xs[k]?.getD 0]:=by
 rw [List.take_add_one,List.getElem?_eq_getElem hk];rfl
theorem VL.lt {up:Bool} {n:Nat} {lv:List St.Lv} (h:VL up n lv) {i j:Nat} (hi:i<j) (hj:j<lv.length):St.ltU up (lv[i]?.getD Lv0).1 (lv[j]?.getD Lv0).1:=by
 have:=List.pairwise_iff_getElem.1 h.mono i j (by simp;omega) (by simpa using hj) hi;rw [List.getElem?_eq_getElem (by omega),List.getElem?_eq_getElem hj];simpa using this
theorem inRange_ok (p q:Int) (A':Option Addr) (n c':Nat) (xs:List Int) (w:World) (h:IsAt w A' n xs) (hp1 : -1000000≤p) (hp2:p≤1000000) (hn1:1≤n) (hn2:n≤16) (hx:∀ y∈xs,0≤y∧y≤1000000) :
  Calls Tryz.prog 81 #[.agg #[.int .i64 p,.int .i64 q,.slice A' n c']] w fun e w'=>e=.returned (.bool true)∧Below w.heap.size w w':=by
 have HX:=Hj h;have HLN:=Hj h.1;have HB:=Hj hx;have d1:decide (p < -1000000)=false:=by simp;omega
 have d2:decide (1000000<p)=false:=by simp;omega
 have d3:decide ((n:Int)<1)=false:=by simp;omega
 have d4:decide ((16:Int)<(n:Int))=false:=by simp;omega
 clear h hx;go_enter Tryz.func81,Tryz.ntmps81
 go_wp2_with fail
 have hbx:=Blk.new w 64 #[.int .i64 p,.int .i64 q,.slice A' n c'];have hb0:Below w.heap.size w (w.alloc (.cells #[.int .i64 p,.int .i64 q,.slice A' n c'] 64)):=(Below.refl _ _).alloc (Nat.le_refl _) _;generalize w.alloc (.cells #[.int .i64 p,.int .i64 q,.slice A' n c'] 64)=W at *
 go_loopw [26] (fun t wr=>∃ k:Nat,k≤n∧t=.int .i64 k∧Hid (wr=W)) (fun t _=>n-(intOf t).toNat)
 case atStart=>exact ⟨0,Nat.zero_le _,rfl,by first|exact Hj rfl|exact Hj trivial⟩
 case round =>
  obtain ⟨k,hk,rfl,hW⟩:=hrel;obtain rfl:=hW.out;by_cases hlt:k<n
  ·obtain ⟨b,o,rfl,hb,hcell⟩:=HX.out.2 (by omega);have hc:=(hb0.cell (p:=⟨b,o+k,none⟩) hb).trans (hcell k hlt);have hy:=HB.out _ (getD_mem (d:=0) (show k<xs.length by rw [HLN.out];exact hlt));generalize xs[k]?.getD 0=y at *;have e1:decide (y<0)=false:=by simp;omega
   have e2:decide (1000000<y)=false:=by simp;omega
   have hki1:(0:Int)≤(k:Int):=by omega
   have hki2:(k:Int)<(n:Int):=by omega
   clear hcell hy;go_wp2;go_roundw
   case rel=>exact ⟨k+1,by omega,by go_num,by first|exact Hj rfl|exact Hj trivial⟩
   case measure=>simp [intOf];omega
  ·obtain rfl:k=n:=by omega
   have HB0:=Hj hb0;go_wp2;go_ret;exact ⟨rfl,HB0.out⟩
theorem moves_ok (up:Bool) (A:Option Addr) (m n c i:Nat) (lv:List St.Lv) (w:World) (h:LvAt w A m n lv) (hv:VL up n lv) (hi:i<m) :
  Calls Tryz.prog 82 #[.slice A m c,.int .i64 i] w fun e w'=>e=.returned (.bool true)∧Below w.heap.size w w':=by
 have hl:=h.1;by_cases h0:i=0
 ·subst h0;go_enter Tryz.func82,Tryz.ntmps82;go_wp2;go_ret;exact ⟨rfl,Below.refl _ _⟩
 ·obtain ⟨k,rfl⟩:∃ k,i=k+1:=⟨i-1,by omega⟩;obtain ⟨b,o,rfl,hb,hcell⟩:=h.2 (by omega);obtain ⟨_,_,⟨c1,_,_⟩,_⟩:=hcell (k+1) hi;obtain ⟨_,_,⟨c2,_,_⟩,_⟩:=hcell k (by omega);obtain ⟨_,_,⟨c3,_,_⟩,_⟩:=hcell 1 (by omega);obtain ⟨_,_,⟨c4,_,_⟩,_⟩:=hcell 0 (by omega);rw [Nat.one_mul] at c3;rw [Nat.zero_mul,Nat.add_zero] at c4;have l1:=hv.lt (i:=k) (j:=k+1) (by omega) (by omega);have l2:=hv.lt (i:=0) (j:=1) (by omega) (by omega);generalize (lv[k+1]?.getD Lv0).1=p1 at *;generalize (lv[k]?.getD Lv0).1=p2 at *;generalize (lv[1]?.getD Lv0).1=p3 at *;generalize (lv[0]?.getD Lv0).1=p4 at *;have e1:(p1 == p2)=false:=by simp;unfold St.ltU at l1;split at l1<;>omega
  have e2:(decide (p2<p1) == decide (p4<p3))=true:=by
   unfold St.ltU at l1 l2;split at l1
   ·rename_i hu;simp [hu] at l2;simp [l1,l2]
   ·rename_i hu;simp [hu] at l2
    have a:¬ p2<p1:=by omega
    have b:¬ p4<p3:=by omega
    simp [a,b]
  have ek:((k+1:Nat):Int)-1=(k:Int):=by omega
  have x0:(((k+1:Nat):Int) == 0)=false:=by simp;omega
  have xw:IntKind.i64.wrap (((k+1:Nat):Int)-1)=(k:Int):=by rw [ek];exact IntWalk.i64_in _ (by have:=hv.len;omega)
  have xw2:IntKind.i64.wrap ((k:Int)+1-1)=(k:Int):=by rw [show (k:Int)+1-1=(k:Int) by omega];exact IntWalk.i64_in _ (by have:=hv.len;omega)
  have r1:(0:Int)≤(k:Int):=by omega
  have r2:(k:Int)<(m:Int):=by omega
  have r3:(k:Int)+1<(m:Int):=by omega
  have r4:(1:Int)<(m:Int):=by omega
  have r5:(0:Int)<(m:Int):=by omega
  have hk48:k≤48:=by have:=hv.len;omega
  clear hcell h hv l1 l2 hl ek;go_enter Tryz.func82,Tryz.ntmps82
  go_wp2_with fail
  go_quiet (fail)
  go_wp2_with fail
  have r1':(0:Int)≤(k:Int):=by omega
  have r2':(k:Int)<(m:Int):=by omega
  have r3':(k:Int)+1<(m:Int):=by omega
  have r6':(0:Int)≤(k:Int)+1:=by omega
  have xw3:IntKind.i64.wrap (k:Int)=(k:Int):=IntWalk.i64_in _ (by omega);have c3':w.cell? ⟨b,o+3,none⟩=some (.int .i64 p3):=c3;have c4':w.cell? ⟨b,o,none⟩=some (.int .i64 p4):=c4;have r4':(1:Int)<(m:Int):=by omega
  have r5':(0:Int)<(m:Int):=by omega
  go_quiet (fail)
  go_wp2;go_ret;exact ⟨by simp,below_drewN (below_drewN (Below.refl _ _) _) _⟩
def totI (lv:List St.Lv):Int:=sumI (lv.map (·.2.1))
theorem VL.qty {up:Bool} {n:Nat} {lv:List St.Lv} (h:VL up n lv):∀ x∈lv,0<x.2.1∧x.2.1≤16000000:=fun x hx=>by
 obtain ⟨h1,h2⟩:=h.sum x hx;obtain ⟨h3,h4⟩:=h.parts x hx;have h5:=sumI_bd _ h4;have h6:=h.n16;rw [h3] at h5;omega
theorem tot_bd:∀ (lv:List St.Lv),(∀ x∈lv,0<x.2.1∧x.2.1≤16000000)→0≤totI lv∧totI lv≤16000000*(lv.length:Int)
 | [],_=>by simp [totI,sumI]
 | x :: lv,h=>by
  have h1:=h x (List.mem_cons_self ..);have h2:=tot_bd lv fun y hy=>h y (List.mem_cons_of_mem _ hy);unfold totI at *;rw [List.map_cons,sumI,List.length_cons];omega
theorem tot_snoc {lv:List St.Lv} {k:Nat} (hk:k<lv.length):totI (lv.take (k+1))=totI (lv.take k)+(lv[k]?.getD Lv0).2.1:=by
 have e:lv.take (k+1)=lv.take k ++ [lv[k]?.getD Lv0]:=by rw [List.take_add_one,List.getElem?_eq_getElem hk];rfl
 unfold totI;rw [e,List.map_append];exact sumI_snoc _ _
theorem check_ok (up:Bool) (A:Option Addr) (m n c:Nat) (lv:List St.Lv) (w:World) (h:LvAt w A m n lv) (hv:VL up n lv) :
  Calls Tryz.prog 27 #[.slice A m c] w fun e w'=>e=.returned (.int .i64 0)∧Below w.heap.size w w':=by
 have hl:=h.1;have hm:m≤48:=by have:=hv.len;omega
 have hn16:=hv.n16;have d1:decide ((48:Int)<(m:Int))=false:=by simp;omega
 have HL:=Hj h;have HV:=Hj hv;have HLN:=Hj hl;clear h hv hl;go_enter Tryz.func27,Tryz.ntmps27
 go_wp2_with fail
 go_loopw [13] (fun t wr=>∃ k:Nat,k≤m∧t=.int .i64 k∧Hid (Below w.heap.size w wr)) (fun t _=>m-(intOf t).toNat)
 case atStart=>exact ⟨0,Nat.zero_le _,rfl,Below.refl _ _⟩
 case round =>
  obtain ⟨k,hk,rfl,hB⟩:=hrel;by_cases hlt:k<m
  ·obtain ⟨b,o,rfl,hb,hcell⟩:=HL.out.2 (by omega);obtain ⟨A',c',⟨y0,y1,y2⟩,hp⟩:=hcell k hlt;obtain ⟨A0,c0,⟨-,-,z2⟩,-⟩:=hcell 0 (by omega);rw [Nat.zero_mul,Nat.add_zero] at z2;have hmem:=getD_mem (d:=Lv0) (show k<lv.length by rw [HLN.out];exact hlt);have v1:=HV.out.price _ hmem;have v2:=HV.out.parts _ hmem;have v3:=HV.out.sum _ hmem;have v4:=HV.out.n0 (by have:=HLN.out;omega);have HMV:=Hj (fun W (hW:Below w.heap.size w W)=>moves_ok up (some ⟨b,o,none⟩) m n c k lv W (HL.out.below hW) HV.out hlt);generalize (lv[k]?.getD Lv0).1=p at *;generalize (lv[k]?.getD Lv0).2.1=q at *;generalize (lv[k]?.getD Lv0).2.2=xs at *;replace y0:=(hB.out.cell (p:=⟨b,o+k*3,none⟩) hb).trans y0;replace y1:=(hB.out.cell (p:=⟨b,o+k*3+1,none⟩) hb).trans y1;replace y2:=(hB.out.cell (p:=⟨b,o+k*3+2,none⟩) hb).trans y2;have hki1:(0:Int)≤(k:Int):=by omega
   have hki2:(k:Int)<(m:Int):=by omega
   have hbx:=Blk.new wr 64 #[.int .i64 p,.int .i64 q,.slice A' n c'];have hb1:Below w.heap.size w (wr.alloc (.cells #[.int .i64 p,.int .i64 q,.slice A' n c'] 64)):=hB.out.trans (((Below.refl _ _).alloc (Nat.le_refl _) _:Below wr.heap.size wr (wr.alloc (.cells #[.int .i64 p,.int .i64 q,.slice A' n c'] 64))).mono hB.out.size);have HIR:=Hj (inRange_ok p q A' n c' xs (wr.alloc (.cells #[.int .i64 p,.int .i64 q,.slice A' n c'] 64)) (hp.below hb1) v1.1 v1.2 v4 hn16 v2.2);have HPT:=Hj hp;have V2:=Hj v2;have V3:=Hj v3;clear hcell hp v1 v2 v3
   go_wp2_with fail
   generalize wr.alloc (.cells #[.int .i64 p,.int .i64 q,.slice A' n c'] 64)=W at *;generalize wr.heap.size=g9 at *;obtain ⟨b0,b1,b2⟩:=hbx.three;refine HIR.out.mono ?_;rintro e w1 ⟨rfl,hb2⟩;have hbx1:=hbx.below hb2 hbx.lt;have hB1:=hb1.trans (hb2.mono hb1.size);clear b0 b1 b2 hbx hb1 hb2 HIR y0 y1 y2;obtain ⟨b0,b1,b2⟩:=hbx1.three;have HBX:=Hj hbx1;have HB1:=Hj hB1;have hg1:=hbx1.lt;clear hbx1
   go_wp2_with fail
   go_loopw [5,24] (fun t5 t wx=>∃ i:Nat,i≤n∧t=.int .i64 i∧t5=.int .i64 (sumI (xs.take i))∧Hid (wx=w1)) (fun _ t _=>n-(intOf t).toNat)
   case atStart=>exact ⟨0,Nat.zero_le _,rfl,rfl,by first|exact Hj rfl|exact Hj trivial⟩
   case round =>
    obtain ⟨i,hi,rfl,rfl,hW⟩:=hrel;obtain rfl:=hW.out;by_cases hin:i<n
    ·obtain ⟨b5,o5,rfl,hb5,hc5⟩:=HPT.out.2 (by omega);have hx:=(HB1.out.cell (p:=⟨b5,o5+i,none⟩) hb5).trans (hc5 i hin);have hs:=take_int (xs:=xs) (k:=i) (by rw [V2.out.1];exact hin);have hbd1:=sumI_bd (xs.take i) fun y hy=>V2.out.2 y (List.mem_of_mem_take hy);have hbd2:=V2.out.2 _ (getD_mem (d:=0) (show i<xs.length by rw [V2.out.1];exact hin));have hl2:=List.length_take_le i xs;have hs2:sumI (xs.take (i+1))=sumI (xs.take i)+xs[i]?.getD 0:=by rw [hs,sumI_snoc]
     generalize xs[i]?.getD 0=x at *;generalize hsi:sumI (xs.take i)=s at *;have xw:IntKind.i64.wrap (s+x)=s+x:=IntWalk.i64_in _ (by omega);have i1:(0:Int)≤(i:Int):=by omega
     have i2:(i:Int)<(n:Int):=by omega
     have HS2:=Hj hs2;clear hs hs2 hbd1 hbd2 hl2 hc5 hsi;go_wp2;go_roundw
     case rel=>exact ⟨i+1,by omega,by go_num,by rw [HS2.out],by first|exact Hj rfl|exact Hj trivial⟩
     case measure=>simp [intOf];omega
    ·obtain rfl:i=n:=by omega
     rw [List.take_of_length_le (by rw [V2.out.1];exact Nat.le_refl _),← V3.out.1];have n1:((i:Int) != (i:Int))=false:=by simp
     have n2:(q != q)=false:=by simp
     have n3:(q == 0)=false:=by simpa using V3.out.2
     have hbr:b<wr.heap.size:=Nat.lt_of_lt_of_le hb HB1.out.size;have u0:=fun s:KW wr=>(Below.cell s.h (p:=⟨g9,0,none⟩) hg1).trans b0;have u1:=fun s:KW wr=>(Below.cell s.h (p:=⟨g9,1,none⟩) hg1).trans b1;have u2:=fun s:KW wr=>(Below.cell s.h (p:=⟨g9,2,none⟩) hg1).trans b2;have u3:=fun s:KW wr=>(Below.cell s.h (p:=⟨b,o+2,none⟩) hbr).trans ((HB1.out.cell (p:=⟨b,o+2,none⟩) hb).trans z2);have m0:(0:Int)<(m:Int):=by omega
     go_wp2_with fail
     try simp only [List.append_eq,List.cons_append,List.nil_append]
     refine wp_region_kw (W:=wr) (by kernel_rfl) (by kernel_rfl) ?_
     repeat (go_big_quiet_step ((go_at_call 82;exact kw_call (HMV.out _ (HB1.out.trans (Below.mono (KW.h _) HB1.out.size))))))
     refine wpQuiet_nil ?_;intro v1 hw1;have hv1:Kp wr v1:=by obtain ⟨s,rfl⟩:=hw1;exact s.h
     have HV1:=Hj (HB1.out.trans (Below.mono hv1 HB1.out.size));clear hw1 hv1 u0 u1 u2 u3 HMV b0 b1 b2;go_wp2;go_roundw
     case rel=>exact ⟨k+1,by omega,by go_num,HV1.out⟩
     case measure=>simp [intOf];omega
  ·obtain rfl:k=m:=by omega
   go_wp2;go_ret;exact ⟨rfl,hB.out⟩
theorem total_ok (up:Bool) (A:Option Addr) (m n c:Nat) (lv:List St.Lv) (w:World) (h:LvAt w A m n lv) (hv:VL up n lv) :
  Calls Tryz.prog 29 #[.slice A m c] w fun e w'=>e=.returned (.int .i64 (totI lv))∧Below w.heap.size w w':=by
 have hl:=h.1;have hm:m≤48:=by have:=hv.len;omega
 have HCK:=Hj (check_ok up A m n c lv w h hv);have HL:=Hj h;have HLN:=Hj hl;have HQ:=Hj hv.qty;clear h hv hl;go_enter Tryz.func29,Tryz.ntmps29
 go_wp2_with fail
 refine HCK.out.mono ?_;rintro e w0 ⟨rfl,hb0⟩;have HB0:=Hj hb0;clear hb0 HCK
 go_wp2_with fail
 go_loopw [3,11] (fun t3 t wr=>∃ k:Nat,k≤m∧t=.int .i64 k∧t3=.int .i64 (totI (lv.take k))∧Hid (Below w.heap.size w wr)) (fun _ t _=>m-(intOf t).toNat)
 case atStart=>exact ⟨0,Nat.zero_le _,rfl,rfl,HB0.out⟩
 case round =>
  obtain ⟨k,hk,rfl,rfl,hB⟩:=hrel;by_cases hlt:k<m
  ·obtain ⟨b,o,rfl,hb,hcell⟩:=HL.out.2 (by omega);obtain ⟨A',c',⟨y0,y1,y2⟩,-⟩:=hcell k hlt;have hsn:=tot_snoc (lv:=lv) (k:=k) (by rw [HLN.out];exact hlt);have hq:=HQ.out _ (getD_mem (d:=Lv0) (show k<lv.length by rw [HLN.out];exact hlt));have hbd:=tot_bd (lv.take k) fun x hx=>HQ.out x (List.mem_of_mem_take hx);have hl2:=List.length_take_le k lv;generalize (lv[k]?.getD Lv0).1=p at *;generalize (lv[k]?.getD Lv0).2.1=q at *;generalize hts:totI (lv.take k)=s at *;replace y0:=(hB.out.cell (p:=⟨b,o+k*3,none⟩) hb).trans y0;replace y1:=(hB.out.cell (p:=⟨b,o+k*3+1,none⟩) hb).trans y1;replace y2:=(hB.out.cell (p:=⟨b,o+k*3+2,none⟩) hb).trans y2;have xw:IntKind.i64.wrap (s+q)=s+q:=IntWalk.i64_in _ (by omega);have hki1:(0:Int)≤(k:Int):=by omega
   have hki2:(k:Int)<(m:Int):=by omega
   have HSN:=Hj hsn;have HB1:=Hj (hB.out.trans (((Below.refl _ _).alloc (Nat.le_refl _) _:Below wr.heap.size wr (wr.alloc (.cells #[.int .i64 p,.int .i64 q,.slice A' n c'] 64))).mono hB.out.size));clear hcell hsn hq hbd hl2 hts;go_wp2;go_roundw
   case rel=>exact ⟨k+1,by omega,by go_num,by rw [HSN.out],HB1.out⟩
   case measure=>simp [intOf];omega
  ·obtain rfl:k=m:=by omega
   rw [List.take_of_length_le (by rw [HLN.out];exact Nat.le_refl _)];go_wp2;go_ret;exact ⟨rfl,hB.out⟩
def inR (p:Int) (xs:List Int):Bool:=decide (-1000000≤p) && decide (p≤1000000) && decide (1≤xs.length) && decide (xs.length≤16) && xs.all fun y=>decide (0≤y) && decide (y≤1000000)
theorem inR_no {p:Int} {xs:List Int} (h:p < -1000000∨1000000<p∨xs.length<1∨16<xs.length∨∃ y∈xs,y<0∨1000000<y):inR p xs=false:=by
 rw [Bool.eq_false_iff];intro hr;simp only [inR,Bool.and_eq_true,decide_eq_true_eq,List.all_eq_true] at hr;obtain ⟨⟨⟨⟨r1,r2⟩,r3⟩,r4⟩,r5⟩:=hr;obtain h|h|h|h|⟨y,hy,h⟩:=h
 ·omega
 ·omega
 ·omega
 ·omega
 ·have:=r5 y hy;omega
theorem inR_yes {p:Int} {xs:List Int} (h1:¬ p < -1000000) (h2:¬ 1000000<p) (h3:¬ xs.length<1) (h4:¬ 16<xs.length) (h5:∀ j,j<xs.length→0≤xs[j]?.getD 0∧xs[j]?.getD 0≤1000000):inR p xs=true:=by
 simp only [inR,Bool.and_eq_true,decide_eq_true_eq,List.all_eq_true];refine ⟨⟨⟨⟨by omega,by omega⟩,by omega⟩,by omega⟩,fun y hy=>?_⟩;obtain ⟨j,hj,rfl⟩:=List.getElem_of_mem hy;have:=h5 j hj
 rwa [List.getElem?_eq_getElem hj,Option.getD_some] at this
theorem inRange_any (p q:Int) (A':Option Addr) (n c':Nat) (xs:List Int) (w:World) (h:IsAt w A' n xs) :
  Calls Tryz.prog 81 #[.agg #[.int .i64 p,.int .i64 q,.slice A' n c']] w fun e w'=>e=.returned (.bool (inR p xs))∧Below w.heap.size w w':=by
 have HX:=Hj h;have HLN:=Hj h.1;have hn:=h.1;clear h;have hb0:=Hj ((Below.refl w.heap.size w).alloc (Nat.le_refl _) (.cells #[.int .i64 p,.int .i64 q,.slice A' n c'] 64));by_cases h1:p < -1000000
 ·have hr:=Hj (inR_no (xs:=xs) (.inl h1));have d1:decide (p < -1000000)=true:=by simpa using h1
  clear h1 hn;go_enter Tryz.func81,Tryz.ntmps81;go_wp2;go_ret;exact ⟨by rw [hr.out];rfl,hb0.out⟩
 have d1:decide (p < -1000000)=false:=by simpa using h1
 by_cases h2:1000000<p
 ·have hr:=Hj (inR_no (xs:=xs) (.inr (.inl h2)));have d2:decide (1000000<p)=true:=by simpa using h2
  clear h1 h2 hn;go_enter Tryz.func81,Tryz.ntmps81;go_wp2;go_ret;exact ⟨by rw [hr.out];rfl,hb0.out⟩
 have d2:decide (1000000<p)=false:=by simpa using h2
 by_cases h3:xs.length<1
 ·have hr:=Hj (inR_no (p:=p) (.inr (.inr (.inl h3))));have d3:decide ((n:Int)<1)=true:=by simp;omega
  clear h1 h2 h3 hn;go_enter Tryz.func81,Tryz.ntmps81;go_wp2;go_ret;exact ⟨by rw [hr.out];rfl,hb0.out⟩
 have d3:decide ((n:Int)<1)=false:=by simp;omega
 by_cases h4:16<xs.length
 ·have hr:=Hj (inR_no (p:=p) (.inr (.inr (.inr (.inl h4)))));have d4:decide ((16:Int)<(n:Int))=true:=by simp;omega
  clear h1 h2 h3 h4 hn;go_enter Tryz.func81,Tryz.ntmps81;go_wp2;go_ret;exact ⟨by rw [hr.out];rfl,hb0.out⟩
 have d4:decide ((16:Int)<(n:Int))=false:=by simp;omega
 have hn16:n≤16:=by omega
 have HY:=Hj (inR_yes (p:=p) h1 h2 h3 h4);have HN:=Hj (fun h5=>inR_no (p:=p) (xs:=xs) (.inr (.inr (.inr (.inr h5)))));clear h1 h2 h3 h4;go_enter Tryz.func81,Tryz.ntmps81
 go_wp2_with fail
 have hbx:=Blk.new w 64 #[.int .i64 p,.int .i64 q,.slice A' n c'];generalize w.alloc (.cells #[.int .i64 p,.int .i64 q,.slice A' n c'] 64)=W at *
 go_loopw [26] (fun t wr=>∃ k:Nat,k≤n∧t=.int .i64 k∧Hid (wr=W∧∀ j,j<k→0≤xs[j]?.getD 0∧xs[j]?.getD 0≤1000000)) (fun t _=>n-(intOf t).toNat)
 case atStart=>exact ⟨0,Nat.zero_le _,rfl,Hj ⟨rfl,fun j hj=>absurd hj (Nat.not_lt_zero j)⟩⟩
 case round =>
  obtain ⟨k,hk,rfl,hW⟩:=hrel;obtain ⟨rfl,hJ⟩:=hW.out;have HJ:=Hj hJ;clear hJ hW;by_cases hlt:k<n
  ·obtain ⟨b,o,rfl,hb,hcell⟩:=HX.out.2 (by omega);have hc:=(hb0.out.cell (p:=⟨b,o+k,none⟩) hb).trans (hcell k hlt);have hm:=Hj (getD_mem (d:=0) (show k<xs.length by rw [HLN.out];exact hlt));have HG:=Hj (Eq.refl (xs[k]?.getD 0));have hki1:(0:Int)≤(k:Int):=by omega
   have hki2:(k:Int)<(n:Int):=by omega
   clear hcell;by_cases e1:xs[k]?.getD 0<0
   ·have HF:=Hj (HN.out ⟨_,hm.out,.inl e1⟩);generalize xs[k]?.getD 0=y at *;have e1':decide (y<0)=true:=by simpa using e1
    have HB0:=Hj hb0.out;go_wp2;go_ret;exact ⟨by rw [HF.out];rfl,HB0.out⟩
   by_cases e2:1000000<xs[k]?.getD 0
   ·have HF:=Hj (HN.out ⟨_,hm.out,.inr e2⟩);generalize xs[k]?.getD 0=y at *;have e1':decide (y<0)=false:=by simpa using e1
    have e2':decide (1000000<y)=true:=by simpa using e2
    have HB0:=Hj hb0.out;go_wp2;go_ret;exact ⟨by rw [HF.out];rfl,HB0.out⟩
   have HJ2:=Hj (show ∀ j,j<k+1→0≤xs[j]?.getD 0∧xs[j]?.getD 0≤1000000 from fun j hj=>by
    by_cases hjk:j=k
    ·subst hjk;omega
    ·exact HJ.out j (by omega))
   have e1':decide (xs[k]?.getD 0<0)=false:=by simpa using e1
   have e2':decide (1000000<xs[k]?.getD 0)=false:=by simpa using e2
   clear e1 e2 hm HG;generalize xs[k]?.getD 0=y at hc e1' e2';go_wp2;go_roundw
   case rel=>exact ⟨k+1,by omega,by go_num,Hj ⟨by first|exact rfl|exact trivial,HJ2.out⟩⟩
   case measure=>simp [intOf];omega
  ·obtain rfl:k=n:=by omega
   have HF:=Hj (HY.out (fun j hj=>HJ.out j (by rw [← HLN.out];exact hj)));go_wp2;go_ret;exact ⟨by rw [HF.out];rfl,hb0.out⟩
def LsAt (w:World) (A:Option Addr) (m:Nat) (lv:List St.Lv):Prop :=
 lv.length=m∧(m≠0→∃ b o,A=some ⟨b,o,none⟩∧b<w.heap.size∧∀ j,j<m→∃ A' c',(w.cell? ⟨b,o+j*3,none⟩=some (.int .i64 (lv[j]?.getD Lv0).1)∧w.cell? ⟨b,o+j*3+1,none⟩=some (.int .i64 (lv[j]?.getD Lv0).2.1)∧w.cell? ⟨b,o+j*3+2,none⟩=some (.slice A' (lv[j]?.getD Lv0).2.2.length c'))∧IsAt w A' (lv[j]?.getD Lv0).2.2.length (lv[j]?.getD Lv0).2.2)
theorem LsAt.below {w w':World} {A:Option Addr} {m:Nat} {lv:List St.Lv} (h:LsAt w A m lv) (hb:Below w.heap.size w w'):LsAt w' A m lv:=by
 refine ⟨h.1,fun hn=>?_⟩;obtain ⟨b,o,rfl,hlt,hc⟩:=h.2 hn;refine ⟨b,o,rfl,Nat.lt_of_lt_of_le hlt hb.size,fun j hj=>?_⟩;obtain ⟨A',c',⟨h1,h2,h3⟩,h4⟩:=hc j hj;exact ⟨A',c',⟨(hb.cell hlt).trans h1,(hb.cell hlt).trans h2,(hb.cell hlt).trans h3⟩,h4.below hb⟩
abbrev prc (lv:List St.Lv) (i:Nat):Int:=(lv[i]?.getD Lv0).1
def mvB (lv:List St.Lv) (i:Nat):Bool:=decide (i=0) || (!(prc lv i == prc lv (i-1)) && (decide (prc lv (i-1)<prc lv i) == decide (prc lv 0<prc lv 1)))
theorem moves_any (A:Option Addr) (m c i:Nat) (lv:List St.Lv) (w:World) (h:LsAt w A m lv) (hm:m≤48) (hi:i<m) :
  Calls Tryz.prog 82 #[.slice A m c,.int .i64 i] w fun e w'=>e=.returned (.bool (mvB lv i))∧Below w.heap.size w w':=by
 have hl:=h.1;by_cases h0:i=0
 ·subst h0;go_enter Tryz.func82,Tryz.ntmps82;go_wp2;go_ret;exact ⟨rfl,Below.refl _ _⟩
 ·obtain ⟨k,rfl⟩:∃ k,i=k+1:=⟨i-1,by omega⟩;obtain ⟨b,o,rfl,hb,hcell⟩:=h.2 (by omega);obtain ⟨_,_,⟨c1,_,_⟩,_⟩:=hcell (k+1) hi;obtain ⟨_,_,⟨c2,_,_⟩,_⟩:=hcell k (by omega);obtain ⟨_,_,⟨c3,_,_⟩,_⟩:=hcell 1 (by omega);obtain ⟨_,_,⟨c4,_,_⟩,_⟩:=hcell 0 (by omega);rw [Nat.one_mul] at c3;rw [Nat.zero_mul,Nat.add_zero] at c4;have HM:mvB lv (k+1)=(!(prc lv (k+1) == prc lv k) && (decide (prc lv k<prc lv (k+1)) == decide (prc lv 0<prc lv 1))):=by simp [mvB]
  rw [HM];clear HM;unfold prc;generalize (lv[k+1]?.getD Lv0).1=p1 at *;generalize (lv[k]?.getD Lv0).1=p2 at *;generalize (lv[1]?.getD Lv0).1=p3 at *;generalize (lv[0]?.getD Lv0).1=p4 at *;have ek:((k+1:Nat):Int)-1=(k:Int):=by omega
  have x0:(((k+1:Nat):Int) == 0)=false:=by simp;omega
  have xw:IntKind.i64.wrap (((k+1:Nat):Int)-1)=(k:Int):=by rw [ek];exact IntWalk.i64_in _ (by omega)
  have xw2:IntKind.i64.wrap ((k:Int)+1-1)=(k:Int):=by rw [show (k:Int)+1-1=(k:Int) by omega];exact IntWalk.i64_in _ (by omega)
  have r1:(0:Int)≤(k:Int):=by omega
  have r2:(k:Int)<(m:Int):=by omega
  have r3:(k:Int)+1<(m:Int):=by omega
  have r4:(1:Int)<(m:Int):=by omega
  have r5:(0:Int)<(m:Int):=by omega
  have hk48:k≤48:=by omega
  clear hcell h hl ek;by_cases q1:p1=p2
  ·have e1:(p1 == p2)=true:=by simpa using q1
   clear q1;go_enter Tryz.func82,Tryz.ntmps82
   go_wp2_with fail
   go_quiet (fail)
   go_wp2;go_ret;exact ⟨by simp [e1],below_drewN (Below.refl _ _) _⟩
  have e1:(p1 == p2)=false:=by simpa using q1
  clear q1;obtain ⟨B,HB⟩:∃ B,(decide (p2<p1) == decide (p4<p3))=B:=⟨_,rfl⟩;go_enter Tryz.func82,Tryz.ntmps82
  go_wp2_with fail
  go_quiet (fail)
  go_wp2_with fail
  have r1':(0:Int)≤(k:Int):=by omega
  have r2':(k:Int)<(m:Int):=by omega
  have r3':(k:Int)+1<(m:Int):=by omega
  have r6':(0:Int)≤(k:Int)+1:=by omega
  have xw3:IntKind.i64.wrap (k:Int)=(k:Int):=IntWalk.i64_in _ (by omega);have c3':w.cell? ⟨b,o+3,none⟩=some (.int .i64 p3):=c3;have c4':w.cell? ⟨b,o,none⟩=some (.int .i64 p4):=c4;have r4':(1:Int)<(m:Int):=by omega
  have r5':(0:Int)<(m:Int):=by omega
  go_quiet (fail)
  go_wp2;go_ret;exact ⟨by simp [e1];exact HB.symm,below_drewN (below_drewN (Below.refl _ _) _) _⟩
def fst0 (f:Nat→Int):Nat→Int
 | 0=>0
 | n+1=>if fst0 f n=0 then f n else fst0 f n
theorem fst0_keep {f:Nat→Int} {k:Nat} (h:fst0 f k≠0):∀ d,fst0 f (k+d)=fst0 f k
 | 0=>rfl
 | d+1=>by
  have e:=fst0_keep h d;show (if fst0 f (k+d)=0 then f (k+d) else fst0 f (k+d))=_;rw [e,if_neg h]
theorem fst0_at {f:Nat→Int} {k n:Nat} (h0:fst0 f k=0) (h:f k≠0) (hk:k<n):fst0 f n=f k:=by
 have e:fst0 f (k+1)=f k:=by
  show (if fst0 f k=0 then f k else fst0 f k)=_;rw [if_pos h0]
 obtain ⟨d,rfl⟩:∃ d,n=k+1+d:=⟨n-(k+1),by omega⟩;rw [fst0_keep (by rw [e];exact h) d,e]
theorem fst0_next {f:Nat→Int} {k:Nat} (h0:fst0 f k=0) (h:f k=0):fst0 f (k+1)=0:=by
 show (if fst0 f k=0 then f k else fst0 f k)=_;rw [if_pos h0,h]
abbrev prt (lv:List St.Lv) (i:Nat):List Int:=(lv[i]?.getD Lv0).2.2
def chk1 (lv:List St.Lv) (i:Nat):Int :=
 if inR (prc lv i) (prt lv i)=false then 1
 else if (prt lv i).length≠(prt lv 0).length∨(lv[i]?.getD Lv0).2.1≠sumI (prt lv i)∨sumI (prt lv i)=0∨mvB lv i=false then 3 else 0
def chkL (lv:List St.Lv):Int:=if 48<lv.length then 5 else fst0 (chk1 lv) lv.length
theorem inR_bd {p:Int} {xs:List Int} (h:inR p xs=true):xs.length≤16∧∀ y∈xs,0≤y∧y≤1000000:=by
 simp only [inR,Bool.and_eq_true,decide_eq_true_eq,List.all_eq_true] at h;exact ⟨h.1.2,h.2⟩
theorem check_any (A:Option Addr) (m c:Nat) (lv:List St.Lv) (w:World) (h:LsAt w A m lv) :
  Calls Tryz.prog 27 #[.slice A m c] w fun e w'=>e=.returned (.int .i64 (chkL lv))∧Below w.heap.size w w':=by
 have hl:=h.1;by_cases hm:48<m
 ·have d1:decide ((48:Int)<(m:Int))=true:=by simp;omega
  have HF:Hid (chkL lv=5):=Hj (by rw [chkL,if_pos (by omega)]);clear hm h hl;go_enter Tryz.func27,Tryz.ntmps27;go_wp2;go_ret;exact ⟨by rw [HF.out];rfl,Below.refl _ _⟩
 have d1:decide ((48:Int)<(m:Int))=false:=by simp;omega
 have HR:Hid (chkL lv=fst0 (chk1 lv) m):=Hj (by rw [chkL,if_neg (by omega),hl]);have HL:=Hj h;have HLN:=Hj hl;clear h hl;go_enter Tryz.func27,Tryz.ntmps27
 go_wp2_with fail
 go_loopw [13] (fun t wr=>∃ k:Nat,k≤m∧t=.int .i64 k∧Hid (Below w.heap.size w wr∧fst0 (chk1 lv) k=0)) (fun t _=>m-(intOf t).toNat)
 case atStart=>exact ⟨0,Nat.zero_le _,rfl,Hj ⟨Below.refl _ _,rfl⟩⟩
 case round =>
  obtain ⟨k,hk,rfl,hBJ⟩:=hrel;have hB:=Hj hBJ.out.1;have HJ:=Hj hBJ.out.2;clear hBJ;by_cases hlt:k<m
  ·obtain ⟨b,o,rfl,hb,hcell⟩:=HL.out.2 (by omega);obtain ⟨A',c',⟨y0,y1,y2⟩,hp⟩:=hcell k hlt;obtain ⟨A0,c0,⟨-,-,z2⟩,-⟩:=hcell 0 (by omega);rw [Nat.zero_mul,Nat.add_zero] at z2;have HMV:=Hj (fun W (hW:Below w.heap.size w W)=>moves_any (some ⟨b,o,none⟩) m c k lv W (HL.out.below hW) (by omega) hlt);have HC:=Hj (show chk1 lv k=_ from rfl);have HFIN:=Hj (fun (z:Int) (e:chk1 lv k=z) (hz:z≠0)=>HR.out.trans ((fst0_at HJ.out (by rw [e];exact hz) hlt).trans e));have HC1:Hid (chk1 lv k=if inR (prc lv k) (prt lv k)=false then 1 else if (prt lv k).length≠(prt lv 0).length∨(lv[k]?.getD Lv0).2.1≠sumI (prt lv k)∨sumI (prt lv k)=0∨mvB lv k=false then 3 else 0):=Hj rfl;clear HC;unfold prc prt at HC1;generalize hz0:chk1 lv k=z0 at *;generalize mvB lv k=B at *;generalize (lv[k]?.getD Lv0).1=p at *;generalize (lv[k]?.getD Lv0).2.1=q at *;generalize (lv[k]?.getD Lv0).2.2=xs at *;generalize (lv[0]?.getD Lv0).2.2.length=n0 at *;have HZ0:=Hj hz0;clear hz0;replace y0:=(hB.out.cell (p:=⟨b,o+k*3,none⟩) hb).trans y0;replace y1:=(hB.out.cell (p:=⟨b,o+k*3+1,none⟩) hb).trans y1;replace y2:=(hB.out.cell (p:=⟨b,o+k*3+2,none⟩) hb).trans y2;have hki1:(0:Int)≤(k:Int):=by omega
   have hki2:(k:Int)<(m:Int):=by omega
   generalize hxl:xs.length=n at *;have HXL:=Hj hxl;clear hxl;have hbx:=Blk.new wr 64 #[.int .i64 p,.int .i64 q,.slice A' n c'];have hb1:Below w.heap.size w (wr.alloc (.cells #[.int .i64 p,.int .i64 q,.slice A' n c'] 64)):=hB.out.trans (((Below.refl _ _).alloc (Nat.le_refl _) _:Below wr.heap.size wr (wr.alloc (.cells #[.int .i64 p,.int .i64 q,.slice A' n c'] 64))).mono hB.out.size);have HIR:=Hj (inRange_any p q A' n c' xs (wr.alloc (.cells #[.int .i64 p,.int .i64 q,.slice A' n c'] 64)) (hp.below hb1));have HPT:=Hj hp;clear hcell hp;by_cases hir:inR p xs=false
   ·rw [hir] at HIR;have HF:=Hj (HFIN.out 1 (HC1.out.trans (if_pos hir)) (by decide));clear HMV HC1 HFIN
    go_wp2_with fail
    generalize wr.alloc (.cells #[.int .i64 p,.int .i64 q,.slice A' n c'] 64)=W at *;refine HIR.out.mono ?_;rintro e w1 ⟨rfl,hb2⟩;have HB1:=Hj (hb1.trans (hb2.mono hb1.size));clear hbx hb1 hb2 HIR y0 y1 y2;go_wp2;go_ret;exact ⟨by rw [HF.out];rfl,HB1.out⟩
   rw [Bool.not_eq_false] at hir;rw [hir] at HIR;have V2:=Hj (inR_bd hir);have HC2:=Hj (HC1.out.trans (if_neg (by rw [hir];decide)));clear HC1 hir
   go_wp2_with fail
   generalize wr.alloc (.cells #[.int .i64 p,.int .i64 q,.slice A' n c'] 64)=W at *;generalize wr.heap.size=g9 at *;obtain ⟨b0,b1,b2⟩:=hbx.three;refine HIR.out.mono ?_;rintro e w1 ⟨rfl,hb2⟩;have hbx1:=hbx.below hb2 hbx.lt;have hB1:=hb1.trans (hb2.mono hb1.size);clear b0 b1 b2 hbx hb1 hb2 HIR y0 y1 y2;obtain ⟨b0,b1,b2⟩:=hbx1.three;have HBX:=Hj hbx1;have HB1:=Hj hB1;have hg1:=hbx1.lt;clear hbx1 hB1;have hn16:n≤16:=by have:=V2.out.1;have:=HXL.out;omega
   go_wp2_with fail
   go_loopw [5,24] (fun t5 t wx=>∃ i:Nat,i≤n∧t=.int .i64 i∧t5=.int .i64 (sumI (xs.take i))∧Hid (wx=w1)) (fun _ t _=>n-(intOf t).toNat)
   case atStart=>exact ⟨0,Nat.zero_le _,rfl,rfl,by first|exact Hj rfl|exact Hj trivial⟩
   case round =>
    obtain ⟨i,hi,rfl,rfl,hW⟩:=hrel;obtain rfl:=hW.out;by_cases hin:i<n
    ·obtain ⟨b5,o5,rfl,hb5,hc5⟩:=HPT.out.2 (by omega);have hx:=(HB1.out.cell (p:=⟨b5,o5+i,none⟩) hb5).trans (hc5 i hin);have hs:=take_int (xs:=xs) (k:=i) (by rw [HXL.out];exact hin);have hbd1:=sumI_bd (xs.take i) fun y hy=>V2.out.2 y (List.mem_of_mem_take hy);have hbd2:=V2.out.2 _ (getD_mem (d:=0) (show i<xs.length by rw [HXL.out];exact hin));have hl2:=List.length_take_le i xs;have hs2:sumI (xs.take (i+1))=sumI (xs.take i)+xs[i]?.getD 0:=by rw [hs,sumI_snoc]
     generalize xs[i]?.getD 0=x at *;generalize hsi:sumI (xs.take i)=s at *;have xw:IntKind.i64.wrap (s+x)=s+x:=IntWalk.i64_in _ (by omega);have i1:(0:Int)≤(i:Int):=by omega
     have i2:(i:Int)<(n:Int):=by omega
     have HS2:=Hj hs2;clear hs hs2 hbd1 hbd2 hl2 hc5 hsi;go_wp2;go_roundw
     case rel=>exact ⟨i+1,by omega,by go_num,by rw [HS2.out],by first|exact Hj rfl|exact Hj trivial⟩
     case measure=>simp [intOf];omega
    ·obtain rfl:i=n:=by omega
     rw [List.take_of_length_le (by rw [HXL.out];exact Nat.le_refl _)];generalize sumI xs=S at *;have HBAD:=Hj (fun hh=>HFIN.out 3 (HC2.out.trans (if_pos hh)) (by decide));have HGOOD:=Hj (fun hh=>HC2.out.trans (if_neg hh));clear HC2 HFIN V2 HXL HPT;by_cases c1:i≠n0
     ·have HF:=Hj (HBAD.out (.inl c1));have n1:((i:Int) != (n0:Int))=true:=by simp;omega
      clear c1 HBAD HGOOD;have hbr:b<wr.heap.size:=Nat.lt_of_lt_of_le hb HB1.out.size;have u0:=fun s:KW wr=>(Below.cell s.h (p:=⟨g9,0,none⟩) hg1).trans b0;have u1:=fun s:KW wr=>(Below.cell s.h (p:=⟨g9,1,none⟩) hg1).trans b1;have u2:=fun s:KW wr=>(Below.cell s.h (p:=⟨g9,2,none⟩) hg1).trans b2;have u3:=fun s:KW wr=>(Below.cell s.h (p:=⟨b,o+2,none⟩) hbr).trans ((HB1.out.cell (p:=⟨b,o+2,none⟩) hb).trans z2);have m0:(0:Int)<(m:Int):=by omega
      go_wp2_with fail
      try simp only [List.append_eq,List.cons_append,List.nil_append]
      refine wp_region_kw (W:=wr) (by kernel_rfl) (by kernel_rfl) ?_
      repeat (go_big_quiet_step ((go_at_call 82;exact kw_call (HMV.out _ (HB1.out.trans (Below.mono (KW.h _) HB1.out.size))))))
      refine wpQuiet_nil ?_;intro v1 hw1;have hv1:Kp wr v1:=by obtain ⟨s,rfl⟩:=hw1;exact s.h
      have HV1:=Hj (HB1.out.trans (Below.mono hv1 HB1.out.size));clear hw1 hv1 u0 u1 u2 u3 HMV b0 b1 b2;go_wp2;go_ret;exact ⟨by rw [HF.out];rfl,HV1.out⟩
     have n1:((i:Int) != (n0:Int))=false:=by simp;omega
     by_cases c2:q≠S
     ·have HF:=Hj (HBAD.out (.inr (.inl c2)));have n2:(q != S)=true:=by simpa using c2
      clear c2 HBAD HGOOD;have hbr:b<wr.heap.size:=Nat.lt_of_lt_of_le hb HB1.out.size;have u0:=fun s:KW wr=>(Below.cell s.h (p:=⟨g9,0,none⟩) hg1).trans b0;have u1:=fun s:KW wr=>(Below.cell s.h (p:=⟨g9,1,none⟩) hg1).trans b1;have u2:=fun s:KW wr=>(Below.cell s.h (p:=⟨g9,2,none⟩) hg1).trans b2;have u3:=fun s:KW wr=>(Below.cell s.h (p:=⟨b,o+2,none⟩) hbr).trans ((HB1.out.cell (p:=⟨b,o+2,none⟩) hb).trans z2);have m0:(0:Int)<(m:Int):=by omega
      go_wp2_with fail
      try simp only [List.append_eq,List.cons_append,List.nil_append]
      refine wp_region_kw (W:=wr) (by kernel_rfl) (by kernel_rfl) ?_
      repeat (go_big_quiet_step ((go_at_call 82;exact kw_call (HMV.out _ (HB1.out.trans (Below.mono (KW.h _) HB1.out.size))))))
      refine wpQuiet_nil ?_;intro v1 hw1;have hv1:Kp wr v1:=by obtain ⟨s,rfl⟩:=hw1;exact s.h
      have HV1:=Hj (HB1.out.trans (Below.mono hv1 HB1.out.size));clear hw1 hv1 u0 u1 u2 u3 HMV b0 b1 b2;go_wp2;go_ret;exact ⟨by rw [HF.out];rfl,HV1.out⟩
     have n2:(q != S)=false:=by simpa using c2
     by_cases c3:S=0
     ·have HF:=Hj (HBAD.out (.inr (.inr (.inl c3))));have n3:(S == 0)=true:=by simpa using c3
      clear c3 HBAD HGOOD;have hbr:b<wr.heap.size:=Nat.lt_of_lt_of_le hb HB1.out.size;have u0:=fun s:KW wr=>(Below.cell s.h (p:=⟨g9,0,none⟩) hg1).trans b0;have u1:=fun s:KW wr=>(Below.cell s.h (p:=⟨g9,1,none⟩) hg1).trans b1;have u2:=fun s:KW wr=>(Below.cell s.h (p:=⟨g9,2,none⟩) hg1).trans b2;have u3:=fun s:KW wr=>(Below.cell s.h (p:=⟨b,o+2,none⟩) hbr).trans ((HB1.out.cell (p:=⟨b,o+2,none⟩) hb).trans z2);have m0:(0:Int)<(m:Int):=by omega
      go_wp2_with fail
      try simp only [List.append_eq,List.cons_append,List.nil_append]
      refine wp_region_kw (W:=wr) (by kernel_rfl) (by kernel_rfl) ?_
      repeat (go_big_quiet_step ((go_at_call 82;exact kw_call (HMV.out _ (HB1.out.trans (Below.mono (KW.h _) HB1.out.size))))))
      refine wpQuiet_nil ?_;intro v1 hw1;have hv1:Kp wr v1:=by obtain ⟨s,rfl⟩:=hw1;exact s.h
      have HV1:=Hj (HB1.out.trans (Below.mono hv1 HB1.out.size));clear hw1 hv1 u0 u1 u2 u3 HMV b0 b1 b2;go_wp2;go_ret;exact ⟨by rw [HF.out];rfl,HV1.out⟩
     have n3:(S == 0)=false:=by simpa using c3
     by_cases c4:B=false
     ·have HF:=Hj (HBAD.out (.inr (.inr (.inr c4))));subst c4;clear HBAD HGOOD;have hbr:b<wr.heap.size:=Nat.lt_of_lt_of_le hb HB1.out.size;have u0:=fun s:KW wr=>(Below.cell s.h (p:=⟨g9,0,none⟩) hg1).trans b0;have u1:=fun s:KW wr=>(Below.cell s.h (p:=⟨g9,1,none⟩) hg1).trans b1;have u2:=fun s:KW wr=>(Below.cell s.h (p:=⟨g9,2,none⟩) hg1).trans b2;have u3:=fun s:KW wr=>(Below.cell s.h (p:=⟨b,o+2,none⟩) hbr).trans ((HB1.out.cell (p:=⟨b,o+2,none⟩) hb).trans z2);have m0:(0:Int)<(m:Int):=by omega
      go_wp2_with fail
      try simp only [List.append_eq,List.cons_append,List.nil_append]
      refine wp_region_kw (W:=wr) (by kernel_rfl) (by kernel_rfl) ?_
      repeat (go_big_quiet_step ((go_at_call 82;exact kw_call (HMV.out _ (HB1.out.trans (Below.mono (KW.h _) HB1.out.size))))))
      refine wpQuiet_nil ?_;intro v1 hw1;have hv1:Kp wr v1:=by obtain ⟨s,rfl⟩:=hw1;exact s.h
      have HV1:=Hj (HB1.out.trans (Below.mono hv1 HB1.out.size));clear hw1 hv1 u0 u1 u2 u3 HMV b0 b1 b2;go_wp2;go_ret;exact ⟨by rw [HF.out];rfl,HV1.out⟩
     have HF:=Hj (HGOOD.out (by intro hh;rcases hh with hh|hh|hh|hh;exact c1 hh;exact c2 hh;exact c3 hh;exact c4 hh));have c4':B=true:=by simpa using c4
     subst c4';clear c1 c2 c3 c4 HBAD HGOOD;have hbr:b<wr.heap.size:=Nat.lt_of_lt_of_le hb HB1.out.size;have u0:=fun s:KW wr=>(Below.cell s.h (p:=⟨g9,0,none⟩) hg1).trans b0;have u1:=fun s:KW wr=>(Below.cell s.h (p:=⟨g9,1,none⟩) hg1).trans b1;have u2:=fun s:KW wr=>(Below.cell s.h (p:=⟨g9,2,none⟩) hg1).trans b2;have u3:=fun s:KW wr=>(Below.cell s.h (p:=⟨b,o+2,none⟩) hbr).trans ((HB1.out.cell (p:=⟨b,o+2,none⟩) hb).trans z2);have m0:(0:Int)<(m:Int):=by omega
     go_wp2_with fail
     try simp only [List.append_eq,List.cons_append,List.nil_append]
     refine wp_region_kw (W:=wr) (by kernel_rfl) (by kernel_rfl) ?_
     repeat (go_big_quiet_step ((go_at_call 82;exact kw_call (HMV.out _ (HB1.out.trans (Below.mono (KW.h _) HB1.out.size))))))
     refine wpQuiet_nil ?_;intro v1 hw1;have hv1:Kp wr v1:=by obtain ⟨s,rfl⟩:=hw1;exact s.h
     have HV1:=Hj (HB1.out.trans (Below.mono hv1 HB1.out.size));clear hw1 hv1 u0 u1 u2 u3 HMV b0 b1 b2;go_wp2;go_roundw
     case rel=>exact ⟨k+1,by omega,by go_num,Hj ⟨HV1.out,fst0_next HJ.out (HZ0.out.trans HF.out)⟩⟩
     case measure=>simp [intOf];omega
  ·obtain rfl:k=m:=by omega
   have HF:=Hj (HR.out.trans HJ.out);go_wp2;go_ret;exact ⟨by rw [HF.out];rfl,hB.out⟩
theorem fst0_all {f:Nat→Int}:∀ {n:Nat},fst0 f n=0→∀ j,j<n→f j=0
 | 0,_,j,hj=>absurd hj (Nat.not_lt_zero j)
 | n+1,h,j,hj=>by
  have h':(if fst0 f n=0 then f n else fst0 f n)=0:=h;by_cases h0:fst0 f n=0
  ·rw [if_pos h0] at h';by_cases hjn:j=n
   ·rw [hjn];exact h'
   ·exact fst0_all h0 j (by omega)
  ·rw [if_neg h0] at h';exact absurd h' h0
theorem chkL_ok {lv:List St.Lv} (h:chkL lv=0):lv.length≤48∧∀ i,i<lv.length→chk1 lv i=0:=by
 unfold chkL at h;by_cases hm:48<lv.length
 ·rw [if_pos hm] at h;exact absurd h (by decide)
 ·rw [if_neg hm] at h;exact ⟨by omega,fst0_all h⟩
theorem chk1_ok {lv:List St.Lv} {i:Nat} (h:chk1 lv i=0):inR (prc lv i) (prt lv i)=true∧(prt lv i).length=(prt lv 0).length∧(lv[i]?.getD Lv0).2.1=sumI (prt lv i)∧sumI (prt lv i)≠0∧mvB lv i=true:=by
 unfold chk1 at h;by_cases hr:inR (prc lv i) (prt lv i)=false
 ·rw [if_pos hr] at h;exact absurd h (by decide)
 rw [if_neg hr] at h;by_cases hc:(prt lv i).length≠(prt lv 0).length∨(lv[i]?.getD Lv0).2.1≠sumI (prt lv i)∨sumI (prt lv i)=0∨mvB lv i=false
 ·rw [if_pos hc] at h;exact absurd h (by decide)
 refine ⟨by simpa using hr,?_,?_,?_,?_⟩
 ·exact Decidable.byContradiction fun e=>hc (.inl e)
 ·exact Decidable.byContradiction fun e=>hc (.inr (.inl e))
 ·exact fun e=>hc (.inr (.inr (.inl e)))
 ·cases hb:mvB lv i with
  | true=>rfl
  | false=>exact absurd (.inr (.inr (.inr hb))) hc
theorem chkL_qty {lv:List St.Lv} (h:chkL lv=0):∀ x∈lv,0<x.2.1∧x.2.1≤16000000:=fun x hx=>by
 obtain ⟨j,hj,rfl⟩:=List.getElem_of_mem hx;obtain ⟨h1,-,h3,h4,-⟩:=chk1_ok ((chkL_ok h).2 j hj);have h5:=inR_bd h1;have h6:=sumI_bd _ h5.2;have e:lv[j]?.getD Lv0=lv[j]:=by rw [List.getElem?_eq_getElem hj];rfl
 have h7:=h5.1;rw [e] at h3;omega
def totL (lv:List St.Lv):Int:=if chkL lv=0 then totI lv else 0
theorem total_any (A:Option Addr) (m c:Nat) (lv:List St.Lv) (w:World) (h:LsAt w A m lv) :
  Calls Tryz.prog 29 #[.slice A m c] w fun e w'=>e=.returned (.int .i64 (totL lv))∧Below w.heap.size w w':=by
 have hl:=h.1;have HCK:=Hj (check_any A m c lv w h);by_cases hc:chkL lv=0
 ·have HT:Hid (totL lv=totI lv):=Hj (by rw [totL,if_pos hc]);have hm:m≤48:=by have:=(chkL_ok hc).1;omega
  have HL:=Hj h;have HLN:=Hj hl;have HQ:=Hj (chkL_qty hc);rw [hc] at HCK;clear h hl hc;go_enter Tryz.func29,Tryz.ntmps29
  go_wp2_with fail
  refine HCK.out.mono ?_;rintro e w0 ⟨rfl,hb0⟩;have HB0:=Hj hb0;clear hb0 HCK
  go_wp2_with fail
  go_loopw [3,11] (fun t3 t wr=>∃ k:Nat,k≤m∧t=.int .i64 k∧t3=.int .i64 (totI (lv.take k))∧Hid (Below w.heap.size w wr)) (fun _ t _=>m-(intOf t).toNat)
  case atStart=>exact ⟨0,Nat.zero_le _,rfl,rfl,HB0.out⟩
  case round =>
   obtain ⟨k,hk,rfl,rfl,hB⟩:=hrel;by_cases hlt:k<m
   ·obtain ⟨b,o,rfl,hb,hcell⟩:=HL.out.2 (by omega);obtain ⟨A',c',⟨y0,y1,y2⟩,-⟩:=hcell k hlt;have hsn:=tot_snoc (lv:=lv) (k:=k) (by rw [HLN.out];exact hlt);have hq:=HQ.out _ (getD_mem (d:=Lv0) (show k<lv.length by rw [HLN.out];exact hlt));have hbd:=tot_bd (lv.take k) fun x hx=>HQ.out x (List.mem_of_mem_take hx);have hl2:=List.length_take_le k lv;generalize (lv[k]?.getD Lv0).1=p at *;generalize (lv[k]?.getD Lv0).2.1=q at *;generalize hts:totI (lv.take k)=s at *;replace y0:=(hB.out.cell (p:=⟨b,o+k*3,none⟩) hb).trans y0;replace y1:=(hB.out.cell (p:=⟨b,o+k*3+1,none⟩) hb).trans y1;replace y2:=(hB.out.cell (p:=⟨b,o+k*3+2,none⟩) hb).trans y2;have xw:IntKind.i64.wrap (s+q)=s+q:=IntWalk.i64_in _ (by omega);have hki1:(0:Int)≤(k:Int):=by omega
    have hki2:(k:Int)<(m:Int):=by omega
    have HSN:=Hj hsn;have HB1:=Hj (hB.out.trans (((Below.refl _ _).alloc (Nat.le_refl _) _:Below wr.heap.size wr (wr.alloc (.cells #[.int .i64 p,.int .i64 q,.slice A' (lv[k]?.getD Lv0).2.2.length c'] 64))).mono hB.out.size));clear hcell hsn hq hbd hl2 hts;go_wp2;go_roundw
    case rel=>exact ⟨k+1,by omega,by go_num,by rw [HSN.out],HB1.out⟩
    case measure=>simp [intOf];omega
   ·obtain rfl:k=m:=by omega
    rw [List.take_of_length_le (by rw [HLN.out];exact Nat.le_refl _)];go_wp2;go_ret;exact ⟨by rw [HT.out];rfl,hB.out⟩
 ·have HT:Hid (totL lv=0):=Hj (by rw [totL,if_neg hc]);have hz:(chkL lv != 0)=true:=by simpa using hc
  generalize chkL lv=z at *;clear h hl hc;go_enter Tryz.func29,Tryz.ntmps29
  go_wp2_with fail
  refine HCK.out.mono ?_;rintro e w0 ⟨rfl,hb0⟩;have HB0:=Hj hb0;clear hb0 HCK;go_wp2;go_ret;exact ⟨by rw [HT.out];rfl,HB0.out⟩
theorem ltU_trans {up:Bool} {a b c:Int} (h1:St.ltU up a b) (h2:St.ltU up b c):St.ltU up a c:=by
 unfold St.ltU at *;cases up<;>simp at *<;>omega
theorem mvB_lt {lv:List St.Lv} {i:Nat} (h:mvB lv (i+1)=true):St.ltU (decide (prc lv 0<prc lv 1)) (prc lv i) (prc lv (i+1)):=by
 have e:mvB lv (i+1)=(!(prc lv (i+1) == prc lv i) && (decide (prc lv i<prc lv (i+1)) == decide (prc lv 0<prc lv 1))):=by simp [mvB]
 rw [e] at h;generalize prc lv 0=a at *;generalize prc lv 1=b at *;generalize prc lv i=x at *;generalize prc lv (i+1)=y at *;unfold St.ltU;simp at h;obtain ⟨h1,h2⟩:=h;by_cases hab:a<b
 ·have:x<y:=h2.2 hab;simpa [hab] using this
 ·have:¬ x<y:=fun q=>hab (h2.1 q);simp [hab];omega
theorem chkL_mono {lv:List St.Lv} (h:chkL lv=0):∀ (d i:Nat),i+d+1<lv.length→St.ltU (decide (prc lv 0<prc lv 1)) (prc lv i) (prc lv (i+d+1))
 | 0,i,hi=>mvB_lt (chk1_ok ((chkL_ok h).2 (i+1) hi)).2.2.2.2
 | d+1,i,hi=>ltU_trans (chkL_mono h d i (by omega)) (mvB_lt (chk1_ok ((chkL_ok h).2 (i+d+1+1) (by omega))).2.2.2.2)
theorem getD_at {lv:List St.Lv} {i:Nat} (h:i<lv.length):lv[i]?.getD Lv0=lv[i]:=by
 rw [List.getElem?_eq_getElem h];rfl
theorem chkL_VL {lv:List St.Lv} (h:chkL lv=0):∃ up,VL up (prt lv 0).length lv:=by
 refine ⟨decide (prc lv 0<prc lv 1),(chkL_ok h).1,fun hn=>?_,?_,fun x hx=>?_,fun x hx=>?_,fun x hx=>?_,?_⟩
 ·have h1:=(chk1_ok ((chkL_ok h).2 0 (by omega))).1;simp only [inR,Bool.and_eq_true,decide_eq_true_eq] at h1;exact h1.1.1.2
 ·by_cases hn:lv.length=0
  ·have e:lv=[]:=List.length_eq_zero_iff.1 hn;subst e;decide
  ·exact (inR_bd (chk1_ok ((chkL_ok h).2 0 (by omega))).1).1
 ·obtain ⟨j,hj,rfl⟩:=List.getElem_of_mem hx;have h1:=(chk1_ok ((chkL_ok h).2 j hj)).1;simp only [inR,Bool.and_eq_true,decide_eq_true_eq] at h1;have h2:=h1.1.1.1;unfold prc at h2
  rwa [getD_at hj] at h2
 ·obtain ⟨j,hj,rfl⟩:=List.getElem_of_mem hx;obtain ⟨h1,h2,-⟩:=chk1_ok ((chkL_ok h).2 j hj);have h3:=(inR_bd h1).2;unfold prt at h2 h3;rw [getD_at hj] at h2 h3;exact ⟨h2,h3⟩
 ·obtain ⟨j,hj,rfl⟩:=List.getElem_of_mem hx;obtain ⟨-,-,h2,h3,-⟩:=chk1_ok ((chkL_ok h).2 j hj);unfold prt at h2 h3;rw [getD_at hj] at h2 h3;exact ⟨h2,by rw [h2];exact h3⟩
 ·rw [List.pairwise_iff_getElem];intro i j hi hj hij;rw [List.length_map] at hi hj;have h1:=chkL_mono h (j-i-1) i (by omega);rw [show i+(j-i-1)+1=j by omega] at h1;unfold prc at h1;rw [getD_at hi,getD_at hj] at h1;simpa using h1
theorem LsAt.lv {w:World} {A:Option Addr} {m:Nat} {lv:List St.Lv} (h:LsAt w A m lv) (hc:chkL lv=0):LvAt w A m (prt lv 0).length lv:=by
 refine ⟨h.1,fun hm=>?_⟩;obtain ⟨b,o,hA,hb,hcell⟩:=h.2 hm;refine ⟨b,o,hA,hb,fun j hj=>?_⟩;have e:=(chk1_ok ((chkL_ok hc).2 j (by rw [h.1];exact hj))).2.1;obtain ⟨A',c',h1,h2⟩:=hcell j hj;unfold prt at e;rw [e] at h1 h2;exact ⟨A',c',h1,h2⟩
end Go.Proofs.YtjajigkacccdgaaGreat
