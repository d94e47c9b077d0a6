/-
Lemmas of the walk; no further conditions.
-/
import Derived.Test.YtjajigkacccdgaaGreatTgAS
set_option linter.unusedVariables false
set_option linter.unusedSimpArgs false
set_option maxRecDepth 100000
set_option maxHeartbeats 16000000
namespace Go.Proofs.YtjajigkacccdgaaGreat
open Go.RowKit
open Wd
abbrev Lv0:St.Lv:=(0,0,[])
def LvAt (w:World) (A:Option Addr) (m n:Nat) (lv:List St.Lv):Prop :=
 lv.length=m∧(m≠0→∃ b o,A=some ⟨b,o,none⟩∧b<w.heap.size∧∀ j,j<m→∃ A' c',(w.cell? ⟨b,o+j*3,none⟩=some (.int .i64 (lv[j]?.getD Lv0).1)∧w.cell? ⟨b,o+j*3+1,none⟩=some (.int .i64 (lv[j]?.getD Lv0).2.1)∧w.cell? ⟨b,o+j*3+2,none⟩=some (.slice A' n c'))∧IsAt w A' n (lv[j]?.getD Lv0).2.2)
theorem LvAt.below {w w':World} {A:Option Addr} {m n:Nat} {lv:List St.Lv} (h:LvAt w A m n lv) (hb:Below w.heap.size w w'):LvAt w' A m n lv:=by
 refine ⟨h.1,fun hn=>?_⟩;obtain ⟨b,o,rfl,hlt,hc⟩:=h.2 hn;refine ⟨b,o,rfl,Nat.lt_of_lt_of_le hlt hb.size,fun j hj=>?_⟩;obtain ⟨A',c',⟨h1,h2,h3⟩,h4⟩:=hc j hj;exact ⟨A',c',⟨(hb.cell hlt).trans h1,(hb.cell hlt).trans h2,(hb.cell hlt).trans h3⟩,h4.below hb⟩
def sumI:List Int→Int
 | []=>0
 | x :: xs=>x+sumI xs
structure VL (up:Bool) (n:Nat) (lv:List St.Lv):Prop where
 len:lv.length≤48
 n0:lv.length≠0→1≤n
 n16:n≤16
 price:∀ x∈lv,-1000000≤x.1∧x.1≤1000000
 parts:∀ x∈lv,x.2.2.length=n∧∀ y∈x.2.2,0≤y∧y≤1000000
 sum:∀ x∈lv,x.2.1=sumI x.2.2∧x.2.1≠0
 mono:(lv.map (·.1)).Pairwise (St.ltU up)
theorem sumI_bd:∀ (xs:List Int),(∀ y∈xs,0≤y∧y≤1000000)→0≤sumI xs∧sumI xs≤1000000*(xs.length:Int)
 | [],_=>by simp [sumI]
 | x :: xs,h=>by
  have h1:=h x (List.mem_cons_self ..);have h2:=sumI_bd xs fun y hy=>h y (List.mem_cons_of_mem _ hy);rw [sumI,List.length_cons];omega
theorem sumI_snoc:∀ (xs:List Int) (y:Int),sumI (xs ++ [y])=sumI xs+y
 | [],y=>by simp [sumI]
 | x :: xs,y=>by rw [List.cons_append,sumI,sumI_snoc xs y,sumI];omega
theorem take_int {xs:List Int} {k:Nat} (hk:k<xs.length):xs.take (k+1)=xs.take k ++ [xs[k]?.getD 0]:=by
 rw [List.take_add_one,List.getElem?_eq_getElem hk];rfl
theorem VL.lt {up:Bool} {n:Nat} {lv:List St.Lv} (h:VL up n lv) {i j:Nat} (hi:i<j) (hj:j<lv.length):St.ltU up (lv[i]?.getD Lv0).1 (lv[j]?.getD Lv0).1:=by
 have:=List.pairwise_iff_getElem.1 h.mono i j (by simp;omega) (by simpa using hj) hi;rw [List.getElem?_eq_getElem (by omega),List.getElem?_eq_getElem hj];simpa using this
theorem inRange_ok (p q:Int) (A':Option Addr) (n c':Nat) (xs:List Int) (w:World) (h:IsAt w A' n xs) (hp1 : -1000000≤p) (hp2:p≤1000000) (hn1:1≤n) (hn2:n≤16) (hx:∀ y∈xs,0≤y∧y≤1000000) :
  Calls Tryz.prog 81 #[.agg #[.int .i64 p,.int .i64 q,.slice A' n c']] w fun e w'=>e=.returned (.bool true)∧Below w.heap.size w w':=by
 have HX:=Hj h;have HLN:=Hj h.1;have HB:=Hj hx;have d1:decide (p < -1000000)=false:=by simp;omega
 have d2:decide (1000000<p)=false:=by simp;omega
 have d3:decide ((n:Int)<1)=false:=by simp;omega
 have d4:decide ((16:Int)<(n:Int))=false:=by simp;omega
 clear h hx;go_enter Tryz.func81,Tryz.ntmps81
 go_wp2_with fail
 have hbx:=Blk.new w 64 #[.int .i64 p,.int .i64 q,.slice A' n c'];have hb0:Below w.heap.size w (w.alloc (.cells #[.int .i64 p,.int .i64 q,.slice A' n c'] 64)):=(Below.refl _ _).alloc (Nat.le_refl _) _;generalize w.alloc (.cells #[.int .i64 p,.int .i64 q,.slice A' n c'] 64)=W at *
 go_loopw [26] (fun t wr=>∃ k:Nat,k≤n∧t=.int .i64 k∧Hid (wr=W)) (fun t _=>n-(intOf t).toNat)
 case atStart=>exact ⟨0,Nat.zero_le _,rfl,by first|exact Hj rfl|exact Hj trivial⟩
 case round =>
  obtain ⟨k,hk,rfl,hW⟩:=hrel;obtain rfl:=hW.out;by_cases hlt:k<n
  ·obtain ⟨b,o,rfl,hb,hcell⟩:=HX.out.2 (by omega);have hc:=(hb0.cell (p:=⟨b,o+k,none⟩) hb).trans (hcell k hlt);have hy:=HB.out _ (getD_mem (d:=0) (show k<xs.length by rw [HLN.out];exact hlt));generalize xs[k]?.getD 0=y at *;have e1:decide (y<0)=false:=by simp;omega
   have e2:decide (1000000<y)=false:=by simp;omega
   have hki1:(0:Int)≤(k:Int):=by omega
   have hki2:(k:Int)<(n:Int):=by omega
   clear hcell hy;go_wp2;go_roundw
   case rel=>exact ⟨k+1,by omega,by go_num,by first|exact Hj rfl|exact Hj trivial⟩
   case measure=>simp [intOf];omega
  ·obtain rfl:k=n:=by omega
   have HB0:=Hj hb0;go_wp2;go_ret;exact ⟨rfl,HB0.out⟩
theorem moves_ok (up:Bool) (A:Option Addr) (m n c i:Nat) (lv:List St.Lv) (w:World) (h:LvAt w A m n lv) (hv:VL up n lv) (hi:i<m) :
  Calls Tryz.prog 82 #[.slice A m c,.int .i64 i] w fun e w'=>e=.returned (.bool true)∧Below w.heap.size w w':=by
 have hl:=h.1;by_cases h0:i=0
 ·subst h0;go_enter Tryz.func82,Tryz.ntmps82;go_wp2;go_ret;exact ⟨rfl,Below.refl _ _⟩
 ·obtain ⟨k,rfl⟩:∃ k,i=k+1:=⟨i-1,by omega⟩;obtain ⟨b,o,rfl,hb,hcell⟩:=h.2 (by omega);obtain ⟨_,_,⟨c1,_,_⟩,_⟩:=hcell (k+1) hi;obtain ⟨_,_,⟨c2,_,_⟩,_⟩:=hcell k (by omega);obtain ⟨_,_,⟨c3,_,_⟩,_⟩:=hcell 1 (by omega);obtain ⟨_,_,⟨c4,_,_⟩,_⟩:=hcell 0 (by omega);rw [Nat.one_mul] at c3;rw [Nat.zero_mul,Nat.add_zero] at c4;have l1:=hv.lt (i:=k) (j:=k+1) (by omega) (by omega);have l2:=hv.lt (i:=0) (j:=1) (by omega) (by omega);generalize (lv[k+1]?.getD Lv0).1=p1 at *;generalize (lv[k]?.getD Lv0).1=p2 at *;generalize (lv[1]?.getD Lv0).1=p3 at *;generalize (lv[0]?.getD Lv0).1=p4 at *;have e1:(p1 == p2)=false:=by simp;unfold St.ltU at l1;split at l1<;>omega
  have e2:(decide (p2<p1) == decide (p4<p3))=true:=by
   unfold St.ltU at l1 l2;split at l1
   ·rename_i hu;simp [hu] at l2;simp [l1,l2]
   ·rename_i hu;simp [hu] at l2
    have a:¬ p2<p1:=by omega
    have b:¬ p4<p3:=by omega
    simp [a,b]
  have ek:((k+1:Nat):Int)-1=(k:Int):=by omega
  have x0:(((k+1:Nat):Int) == 0)=false:=by simp;omega
  have xw:IntKind.i64.wrap (((k+1:Nat):Int)-1)=(k:Int):=by rw [ek];exact IntWalk.i64_in _ (by have:=hv.len;omega)
  have xw2:IntKind.i64.wrap ((k:Int)+1-1)=(k:Int):=by rw [show (k:Int)+1-1=(k:Int) by omega];exact IntWalk.i64_in _ (by have:=hv.len;omega)
  have r1:(0:Int)≤(k:Int):=by omega
  have r2:(k:Int)<(m:Int):=by omega
  have r3:(k:Int)+1<(m:Int):=by omega
  have r4:(1:Int)<(m:Int):=by omega
  have r5:(0:Int)<(m:Int):=by omega
  have hk48:k≤48:=by have:=hv.len;omega
  clear hcell h hv l1 l2 hl ek;go_enter Tryz.func82,Tryz.ntmps82
  go_wp2_with fail
  go_quiet (fail)
  go_wp2_with fail
  have r1':(0:Int)≤(k:Int):=by omega
  have r2':(k:Int)<(m:Int):=by omega
  have r3':(k:Int)+1<(m:Int):=by omega
  have r6':(0:Int)≤(k:Int)+1:=by omega
  have xw3:IntKind.i64.wrap (k:Int)=(k:Int):=IntWalk.i64_in _ (by omega);have c3':w.cell? ⟨b,o+3,none⟩=some (.int .i64 p3):=c3;have c4':w.cell? ⟨b,o,none⟩=some (.int .i64 p4):=c4;have r4':(1:Int)<(m:Int):=by omega
  have r5':(0:Int)<(m:Int):=by omega
  go_quiet (fail)
  go_wp2;go_ret;exact ⟨by simp,below_drewN (below_drewN (Below.refl _ _) _) _⟩
def totI (lv:List St.Lv):Int:=sumI (lv.map (·.2.1))
theorem VL.qty {up:Bool} {n:Nat} {lv:List St.Lv} (h:VL up n lv):∀ x∈lv,0<x.2.1∧x.2.1≤16000000:=fun x hx=>by
 obtain ⟨h1,h2⟩:=h.sum x hx;obtain ⟨h3,h4⟩:=h.parts x hx;have h5:=sumI_bd _ h4;have h6:=h.n16;rw [h3] at h5;omega
theorem tot_bd:∀ (lv:List St.Lv),(∀ x∈lv,0<x.2.1∧x.2.1≤16000000)→0≤totI lv∧totI lv≤16000000*(lv.length:Int)
 | [],_=>by simp [totI,sumI]
 | x :: lv,h=>by
  have h1:=h x (List.mem_cons_self ..);have h2:=tot_bd lv fun y hy=>h y (List.mem_cons_of_mem _ hy);unfold totI at *;rw [List.map_cons,sumI,List.length_cons];omega
theorem tot_snoc {lv:List St.Lv} {k:Nat} (hk:k<lv.length):totI (lv.take (k+1))=totI (lv.take k)+(lv[k]?.getD Lv0).2.1:=by
 have e:lv.take (k+1)=lv.take k ++ [lv[k]?.getD Lv0]:=by rw [List.take_add_one,List.getElem?_eq_getElem hk];rfl
 unfold totI;rw [e,List.map_append];exact sumI_snoc _ _
theorem check_ok (up:Bool) (A:Option Addr) (m n c:Nat) (lv:List St.Lv) (w:World) (h:LvAt w A m n lv) (hv:VL up n lv) :
  Calls Tryz.prog 27 #[.slice A m c] w fun e w'=>e=.returned (.int .i64 0)∧Below w.heap.size w w':=by
 have hl:=h.1;have hm:m≤48:=by have:=hv.len;omega
 have hn16:=hv.n16;have d1:decide ((48:Int)<(m:Int))=false:=by simp;omega
 have HL:=Hj h;have HV:=Hj hv;have HLN:=Hj hl;clear h hv hl;go_enter Tryz.func27,Tryz.ntmps27
 go_wp2_with fail
 go_loopw [13] (fun t wr=>∃ k:Nat,k≤m∧t=.int .i64 k∧Hid (Below w.heap.size w wr)) (fun t _=>m-(intOf t).toNat)
 case atStart=>exact ⟨0,Nat.zero_le _,rfl,Below.refl _ _⟩
 case round =>
  obtain ⟨k,hk,rfl,hB⟩:=hrel;by_cases hlt:k<m
  ·obtain ⟨b,o,rfl,hb,hcell⟩:=HL.out.2 (by omega);obtain ⟨A',c',⟨y0,y1,y2⟩,hp⟩:=hcell k hlt;obtain ⟨A0,c0,⟨-,-,z2⟩,-⟩:=hcell 0 (by omega);rw [Nat.zero_mul,Nat.add_zero] at z2;have hmem:=getD_mem (d:=Lv0) (show k<lv.length by rw [HLN.out];exact hlt);have v1:=HV.out.price _ hmem;have v2:=HV.out.parts _ hmem;have v3:=HV.out.sum _ hmem;have v4:=HV.out.n0 (by have:=HLN.out;omega);have HMV:=Hj (fun W (hW:Below w.heap.size w W)=>moves_ok up (some ⟨b,o,none⟩) m n c k lv W (HL.out.below hW) HV.out hlt);generalize (lv[k]?.getD Lv0).1=p at *;generalize (lv[k]?.getD Lv0).2.1=q at *;generalize (lv[k]?.getD Lv0).2.2=xs at *;replace y0:=(hB.out.cell (p:=⟨b,o+k*3,none⟩) hb).trans y0;replace y1:=(hB.out.cell (p:=⟨b,o+k*3+1,none⟩) hb).trans y1;replace y2:=(hB.out.cell (p:=⟨b,o+k*3+2,none⟩) hb).trans y2;have hki1:(0:Int)≤(k:Int):=by omega
   have hki2:(k:Int)<(m:Int):=by omega
   have hbx:=Blk.new wr 64 #[.int .i64 p,.int .i64 q,.slice A' n c'];have hb1:Below w.heap.size w (wr.alloc (.cells #[.int .i64 p,.int .i64 q,.slice A' n c'] 64)):=hB.out.trans (((Below.refl _ _).alloc (Nat.le_refl _) _:Below wr.heap.size wr (wr.alloc (.cells #[.int .i64 p,.int .i64 q,.slice A' n c'] 64))).mono hB.out.size);have HIR:=Hj (inRange_ok p q A' n c' xs (wr.alloc (.cells #[.int .i64 p,.int .i64 q,.slice A' n c'] 64)) (hp.below hb1) v1.1 v1.2 v4 hn16 v2.2);have HPT:=Hj hp;have V2:=Hj v2;have V3:=Hj v3;clear hcell hp v1 v2 v3
   go_wp2_with fail
   generalize wr.alloc (.cells #[.int .i64 p,.int .i64 q,.slice A' n c'] 64)=W at *;generalize wr.heap.size=g9 at *;obtain ⟨b0,b1,b2⟩:=hbx.three;refine HIR.out.mono ?_;rintro e w1 ⟨rfl,hb2⟩;have hbx1:=hbx.below hb2 hbx.lt;have hB1:=hb1.trans (hb2.mono hb1.size);clear b0 b1 b2 hbx hb1 hb2 HIR y0 y1 y2;obtain ⟨b0,b1,b2⟩:=hbx1.three;have HBX:=Hj hbx1;have HB1:=Hj hB1;have hg1:=hbx1.lt;clear hbx1
   go_wp2_with fail
   go_loopw [5,24] (fun t5 t wx=>∃ i:Nat,i≤n∧t=.int .i64 i∧t5=.int .i64 (sumI (xs.take i))∧Hid (wx=w1)) (fun _ t _=>n-(intOf t).toNat)
   case atStart=>exact ⟨0,Nat.zero_le _,rfl,rfl,by first|exact Hj rfl|exact Hj trivial⟩
   case round =>
    obtain ⟨i,hi,rfl,rfl,hW⟩:=hrel;obtain rfl:=hW.out;by_cases hin:i<n
    ·obtain ⟨b5,o5,rfl,hb5,hc5⟩:=HPT.out.2 (by omega);have hx:=(HB1.out.cell (p:=⟨b5,o5+i,none⟩) hb5).trans (hc5 i hin);have hs:=take_int (xs:=xs) (k:=i) (by rw [V2.out.1];exact hin);have hbd1:=sumI_bd (xs.take i) fun y hy=>V2.out.2 y (List.mem_of_mem_take hy);have hbd2:=V2.out.2 _ (getD_mem (d:=0) (show i<xs.length by rw [V2.out.1];exact hin));have hl2:=List.length_take_le i xs;have hs2:sumI (xs.take (i+1))=sumI (xs.take i)+xs[i]?.getD 0:=by rw [hs,sumI_snoc]
     generalize xs[i]?.getD 0=x at *;generalize hsi:sumI (xs.take i)=s at *;have xw:IntKind.i64.wrap (s+x)=s+x:=IntWalk.i64_in _ (by omega);have i1:(0:Int)≤(i:Int):=by omega
     have i2:(i:Int)<(n:Int):=by omega
     have HS2:=Hj hs2;clear hs hs2 hbd1 hbd2 hl2 hc5 hsi;go_wp2;go_roundw
     case rel=>exact ⟨i+1,by omega,by go_num,by rw [HS2.out],by first|exact Hj rfl|exact Hj trivial⟩
     case measure=>simp [intOf];omega
    ·obtain rfl:i=n:=by omega
     rw [List.take_of_length_le (by rw [V2.out.1];exact Nat.le_refl _),← V3.out.1];have n1:((i:Int) != (i:Int))=false:=by simp
     have n2:(q != q)=false:=by simp
     have n3:(q == 0)=false:=by simpa using V3.out.2
     have hbr:b<wr.heap.size:=Nat.lt_of_lt_of_le hb HB1.out.size;have u0:=fun s:KW wr=>(Below.cell s.h (p:=⟨g9,0,none⟩) hg1).trans b0;have u1:=fun s:KW wr=>(Below.cell s.h (p:=⟨g9,1,none⟩) hg1).trans b1;have u2:=fun s:KW wr=>(Below.cell s.h (p:=⟨g9,2,none⟩) hg1).trans b2;have u3:=fun s:KW wr=>(Below.cell s.h (p:=⟨b,o+2,none⟩) hbr).trans ((HB1.out.cell (p:=⟨b,o+2,none⟩) hb).trans z2);have m0:(0:Int)<(m:Int):=by omega
     go_wp2_with fail
     try simp only [List.append_eq,List.cons_append,List.nil_append]
     refine wp_region_kw (W:=wr) (by kernel_rfl) (by kernel_rfl) ?_
     repeat (go_big_quiet_step ((go_at_call 82;exact kw_call (HMV.out _ (HB1.out.trans (Below.mono (KW.h _) HB1.out.size))))))
     refine wpQuiet_nil ?_;intro v1 hw1;have hv1:Kp wr v1:=by obtain ⟨s,rfl⟩:=hw1;exact s.h
     have HV1:=Hj (HB1.out.trans (Below.mono hv1 HB1.out.size));clear hw1 hv1 u0 u1 u2 u3 HMV b0 b1 b2;go_wp2;go_roundw
     case rel=>exact ⟨k+1,by omega,by go_num,HV1.out⟩
     case measure=>simp [intOf];omega
  ·obtain rfl:k=m:=by omega
   go_wp2;go_ret;exact ⟨rfl,hB.out⟩
theorem total_ok (up:Bool) (A:Option Addr) (m n c:Nat) (lv:List St.Lv) (w:World) (h:LvAt w A m n lv) (hv:VL up n lv) :
  Calls Tryz.prog 29 #[.slice A m c] w fun e w'=>e=.returned (.int .i64 (totI lv))∧Below w.heap.size w w':=by
 have hl:=h.1;have hm:m≤48:=by have:=hv.len;omega
 have HCK:=Hj (check_ok up A m n c lv w h hv);have HL:=Hj h;have HLN:=Hj hl;have HQ:=Hj hv.qty;clear h hv hl;go_enter Tryz.func29,Tryz.ntmps29
 go_wp2_with fail
 refine HCK.out.mono ?_;rintro e w0 ⟨rfl,hb0⟩;have HB0:=Hj hb0;clear hb0 HCK
 go_wp2_with fail
 go_loopw [3,11] (fun t3 t wr=>∃ k:Nat,k≤m∧t=.int .i64 k∧t3=.int .i64 (totI (lv.take k))∧Hid (Below w.heap.size w wr)) (fun _ t _=>m-(intOf t).toNat)
 case atStart=>exact ⟨0,Nat.zero_le _,rfl,rfl,HB0.out⟩
 case round =>
  obtain ⟨k,hk,rfl,rfl,hB⟩:=hrel;by_cases hlt:k<m
  ·obtain ⟨b,o,rfl,hb,hcell⟩:=HL.out.2 (by omega);obtain ⟨A',c',⟨y0,y1,y2⟩,-⟩:=hcell k hlt;have hsn:=tot_snoc (lv:=lv) (k:=k) (by rw [HLN.out];exact hlt);have hq:=HQ.out _ (getD_mem (d:=Lv0) (show k<lv.length by rw [HLN.out];exact hlt));have hbd:=tot_bd (lv.take k) fun x hx=>HQ.out x (List.mem_of_mem_take hx);have hl2:=List.length_take_le k lv;generalize (lv[k]?.getD Lv0).1=p at *;generalize (lv[k]?.getD Lv0).2.1=q at *;generalize hts:totI (lv.take k)=s at *;replace y0:=(hB.out.cell (p:=⟨b,o+k*3,none⟩) hb).trans y0;replace y1:=(hB.out.cell (p:=⟨b,o+k*3+1,none⟩) hb).trans y1;replace y2:=(hB.out.cell (p:=⟨b,o+k*3+2,none⟩) hb).trans y2;have xw:IntKind.i64.wrap (s+q)=s+q:=IntWalk.i64_in _ (by omega);have hki1:(0:Int)≤(k:Int):=by omega
   have hki2:(k:Int)<(m:Int):=by omega
   have HSN:=Hj hsn;have HB1:=Hj (hB.out.trans (((Below.refl _ _).alloc (Nat.le_refl _) _:Below wr.heap.size wr (wr.alloc (.cells #[.int .i64 p,.int .i64 q,.slice A' n c'] 64))).mono hB.out.size));clear hcell hsn hq hbd hl2 hts;go_wp2;go_roundw
   case rel=>exact ⟨k+1,by omega,by go_num,by rw [HSN.out],HB1.out⟩
   case measure=>simp [intOf];omega
  ·obtain rfl:k=m:=by omega
   rw [List.take_of_length_le (by rw [HLN.out];exact Nat.le_refl _)];go_wp2;go_ret;exact ⟨rfl,hB.out⟩
def NoInt (cs:Array Value):Prop:=∀ (i:Nat) (k:IntKind) (z:Int),cs[i]?≠some (.int k z)
theorem NoInt.four {a b:Bool} {A A':Option Addr} {n c n' c':Nat}:NoInt #[.bool a,.slice A n c,.bool b,.slice A' n' c']:=by
 intro i k z
 match i with
 | 0=>simp
 | 1=>simp
 | 2=>simp
 | 3=>simp
 | i+4=>simp
theorem NoInt.set {cs:Array Value} (h:NoInt cs) (i:Nat) (v:Value) (hv:∀ k z,v≠.int k z):NoInt (cs.setIfInBounds i v):=by
 intro j k z;rw [Array.getElem?_setIfInBounds];split
 ·split
  ·intro e;injection e with e;exact hv _ _ e
  ·simp
 ·exact h j k z
theorem Wat.setQ {w:World} {A:Option Addr} {n:Nat} {l:List Nat} {g:Nat} {t:TypeId} {cs:Array Value} (h:Wat w A n l) (hb:Blk w g t cs) (hn:NoInt cs) (i:Nat) (u:Value):Wat (w.setCell ⟨g,i,none⟩ u) A n l:=by
 refine ⟨h.1,h.2.1,fun hn0=>?_⟩;obtain ⟨b,o,rfl,hlt,hc⟩:=h.2.2 hn0;have hne:b≠g:=by
  intro e;subst e;have h0:=hc 0 (by omega);rw [hb.cell] at h0;exact hn _ _ _ h0
 refine ⟨b,o,rfl,by simpa [World.setCell] using hlt,fun j hj=>?_⟩;rw [World.cell?_of_block (w:=w) (Below.heap_setCell w _ u b (by simpa using hne))];exact hc j hj
def qst (w:World) (g o:Nat) (a b:Bool) (A A':Option Addr) (k c k' c':Nat):World :=
 (((w.setCell ⟨g,o,none⟩ (.bool a)).setCell ⟨g,o+1,none⟩ (.slice A k c)).setCell ⟨g,o+2,none⟩ (.bool b)).setCell ⟨g,o+3,none⟩ (.slice A' k' c')
def qput (cs:Array Value) (o:Nat) (a b:Bool) (A A':Option Addr) (k c k' c':Nat):Array Value :=
 (((cs.setIfInBounds o (.bool a)).setIfInBounds (o+1) (.slice A k c)).setIfInBounds (o+2) (.bool b)).setIfInBounds (o+3) (.slice A' k' c')
section
variable {w:World} {g o:Nat} {a b:Bool} {A A':Option Addr} {k c k' c':Nat} {cs:Array Value} {t:TypeId}
theorem NoInt.put4 (h:NoInt cs):NoInt (qput cs o a b A A' k c k' c') :=
 (((h.set o _ (by simp)).set (o+1) _ (by simp)).set (o+2) _ (by simp)).set (o+3) _ (by simp)
theorem Blk.put4 (h:Blk w g t cs):Blk (qst w g o a b A A' k c k' c') g t (qput cs o a b A A' k c k' c') :=
 (((h.set o _).set (o+1) _).set (o+2) _).set (o+3) _
theorem Blk.far4 {g':Nat} {t':TypeId} {cs':Array Value} (h:Blk w g' t' cs') (hne:g'≠g):Blk (qst w g o a b A A' k c k' c') g' t' cs' :=
 (((h.far (by simpa using hne) _).far (by simpa using hne) _).far (by simpa using hne) _).far (by simpa using hne) _
theorem Wat.put4 {B:Option Addr} {n:Nat} {l:List Nat} (hW:Wat w B n l) (h:Blk w g t cs) (hn:NoInt cs):Wat (qst w g o a b A A' k c k' c') B n l:=by
 have b1:=h.set o (.bool a);have n1:=hn.set o (.bool a) (by simp);have b2:=b1.set (o+1) (.slice A k c);have n2:=n1.set (o+1) (.slice A k c) (by simp);have b3:=b2.set (o+2) (.bool b);have n3:=n2.set (o+2) (.bool b) (by simp);exact (((hW.setQ h hn _ _).setQ b1 n1 _ _).setQ b2 n2 _ _).setQ b3 n3 _ _
theorem below_qst {B:Nat} {w0:World} (h:Below B w0 w) (hg:B≤g):Below B w0 (qst w g o a b A A' k c k' c') :=
 (((h.setCell (p:=⟨g,o,none⟩) hg _).setCell (p:=⟨g,o+1,none⟩) hg _).setCell (p:=⟨g,o+2,none⟩) hg _).setCell (p:=⟨g,o+3,none⟩) hg _
theorem qput_size:(qput cs o a b A A' k c k' c').size=cs.size:=by simp [qput]
theorem qput_same (h:o+3<cs.size):(qput cs o a b A A' k c k' c')[o]?=some (.bool a)∧(qput cs o a b A A' k c k' c')[o+1]?=some (.slice A k c)∧(qput cs o a b A A' k c k' c')[o+2]?=some (.bool b)∧(qput cs o a b A A' k c k' c')[o+3]?=some (.slice A' k' c'):=by
 unfold qput;refine ⟨?_,?_,?_,?_⟩<;>simp [Array.getElem?_setIfInBounds]<;>omega
theorem qput_other {j:Nat} (h:j<o∨o+3<j):(qput cs o a b A A' k c k' c')[j]?=cs[j]?:=by
 unfold qput;rw [Array.getElem?_setIfInBounds_ne (by omega),Array.getElem?_setIfInBounds_ne (by omega),Array.getElem?_setIfInBounds_ne (by omega),Array.getElem?_setIfInBounds_ne (by omega)]
end
def QRow (w:World) (g n:Nat) (ps:List Rat):Prop :=
 ps.length=n∧∃ cs,Blk w g 42 cs∧NoInt cs∧cs.size=n*4∧∀ j,j<n→∃ A k c A' k' c',
  cs[j*4]?=some (.bool (decide ((ps[j]?.getD 0).num<0)))∧cs[j*4+1]?=some (.slice A k c)∧cs[j*4+2]?=some (.bool false)∧cs[j*4+3]?=some (.slice A' k' c') ∧
  k≤c∧k'≤c'∧Wat w A k (digs (ps[j]?.getD 0).num.natAbs)∧Wat w A' k' (denW (ps[j]?.getD 0).den)
theorem QRow.below {w w':World} {g n:Nat} {ps:List Rat} (h:QRow w g n ps) (hb:Below w.heap.size w w'):QRow w' g n ps:=by
 obtain ⟨h1,cs,h2,h3,h4,h5⟩:=h;refine ⟨h1,cs,h2.below hb h2.lt,h3,h4,fun j hj=>?_⟩;obtain ⟨A,k,c,A',k',c',e1,e2,e3,e4,e5,e6,e7,e8⟩:=h5 j hj;exact ⟨A,k,c,A',k',c',e1,e2,e3,e4,e5,e6,e7.below hb,e8.below hb⟩
theorem QRow.put {w:World} {g n i:Nat} {ps:List Rat} {q:Rat} {A A':Option Addr} {k c k' c':Nat} (h:QRow w g n ps) (hi:i<n) (hk:k≤c) (hk':k'≤c') (hW:Wat w A k (digs q.num.natAbs)) (hW':Wat w A' k' (denW q.den)) :
  QRow (qst w g (i*4) (decide (q.num<0)) false A A' k c k' c') g n (ps.set i q):=by
 obtain ⟨h1,cs,h2,h3,h4,h5⟩:=h;refine ⟨by simpa using h1,_,h2.put4,h3.put4,by rw [qput_size,h4],fun j hj=>?_⟩;by_cases hji:j=i
 ·subst hji;have e:((ps.set j q)[j]?.getD 0)=q:=by simp [h1,hj]
  rw [e];obtain ⟨p1,p2,p3,p4⟩:=qput_same (cs:=cs) (o:=j*4) (a:=decide (q.num<0)) (b:=false) (A:=A) (A':=A') (k:=k) (c:=c) (k':=k') (c':=c') (by omega);exact ⟨A,k,c,A',k',c',p1,p2,p3,p4,hk,hk',hW.put4 h2 h3,hW'.put4 h2 h3⟩
 ·have e:((ps.set i q)[j]?.getD 0)=(ps[j]?.getD 0):=by rw [List.getElem?_set_ne (Ne.symm hji)]
  rw [e];obtain ⟨B,m,d,B',m',d',e1,e2,e3,e4,e5,e6,e7,e8⟩:=h5 j hj;refine ⟨B,m,d,B',m',d',?_,?_,?_,?_,e5,e6,e7.put4 h2 h3,e8.put4 h2 h3⟩
  ·rw [qput_other (by omega)];exact e1
  ·rw [qput_other (by omega)];exact e2
  ·rw [qput_other (by omega)];exact e3
  ·rw [qput_other (by omega)];exact e4
theorem QRow.far4 {w:World} {g g' n o:Nat} {ps:List Rat} {a b:Bool} {A A':Option Addr} {k c k' c':Nat} {t:TypeId} {cs:Array Value} (h:QRow w g n ps) (hne:g≠g') (hb:Blk w g' t cs) (hn:NoInt cs) :
  QRow (qst w g' o a b A A' k c k' c') g n ps:=by
 obtain ⟨h1,cs',h2,h3,h4,h5⟩:=h;refine ⟨h1,cs',h2.far4 hne,h3,h4,fun j hj=>?_⟩;obtain ⟨B,m,d,B',m',d',e1,e2,e3,e4,e5,e6,e7,e8⟩:=h5 j hj;exact ⟨B,m,d,B',m',d',e1,e2,e3,e4,e5,e6,e7.put4 hb hn,e8.put4 hb hn⟩
theorem QAt.put4 {w:World} {Nn Nd:Nat} {neg neg':Bool} {B B':Option Addr} {n d n' d':Nat} {q:Rat} {g o:Nat} {a b:Bool} {A A':Option Addr} {k c k' c':Nat} {t:TypeId} {cs:Array Value} (h:QAt Nn Nd w neg B n d neg' B' n' d' q) (hb:Blk w g t cs) (hn:NoInt cs) :
  QAt Nn Nd (qst w g o a b A A' k c k' c') neg B n d neg' B' n' d' q:=by
 obtain ⟨na,da,⟨l,l',h1,h2,h3⟩,h4⟩:=h;exact ⟨na,da,⟨l,l',h1.put4 hb hn,h2.put4 hb hn,h3⟩,h4⟩
def lessQ (r:Rat) (a:Int):Rat:=if (a:Rat)<r then (a:Rat) else r
def restAt (l:List (Int×Int)) (q:Rat):Nat→Rat
 | 0=>q
 | k+1=>restAt l q k-lessQ (restAt l q k) (l[k]?.getD (0,0)).1
def partAt (l:List (Int×Int)) (q:Rat) (k:Nat):Rat:=lessQ (restAt l q k) (l[k]?.getD (0,0)).1
theorem sub_whole (r:Rat) (a:Int):(r-(a:Rat)).num=r.num-a*r.den∧(r-(a:Rat)).den=r.den:=by
 have hd:=r.den_nz;have e0:r-(a:Rat)=mkRat (r.num-a*r.den) r.den:=by
  have e1:r=mkRat r.num r.den:=(Rat.mkRat_self r).symm;have e2:(a:Rat)=mkRat a 1:=by rw [Rat.mkRat_one]
  have:=rat_sub r.num a (r.den:Int) 1 (by omega) (by omega);simp only [Int.natAbs_natCast,Int.mul_one] at this;rw [show (1:Int).natAbs=1 from rfl,← e1,← e2] at this;exact this
 have hg:Nat.gcd (r.num-a*r.den).natAbs r.den=1:=by
  have h1:Nat.gcd r.num.natAbs r.den=1:=r.reduced;have h2:Int.gcd (r.num-a*r.den) r.den=Int.gcd r.num r.den:=by
   rw [Int.sub_eq_add_neg,← Int.neg_mul,Int.mul_comm (-a),Int.gcd_add_mul_left_left]
  exact h2.trans h1
 rw [e0,mk_num _ _ hd,mk_den _ _ hd,hg];simp
theorem rest_bd {r:Rat} {a:Int} {Nn Nd:Nat} (h0:0≤r) (ha:0≤a) (hn:r.num.natAbs<Nn) (hd:r.den<Nd) :
  0≤r-lessQ r a∧(r-lessQ r a).num.natAbs<Nn∧(r-lessQ r a).den<Nd:=by
 have hdp:=r.den_pos;unfold lessQ;split
 ·rename_i hlt
  obtain ⟨e1,e2⟩:=sub_whole r a;have h1:0≤r-(a:Rat):=by grind
  have h2:0≤(r-(a:Rat)).num:=Rat.num_nonneg.2 h1;have h3:0≤r.num:=Rat.num_nonneg.2 h0;refine ⟨h1,?_,by rw [e2];exact hd⟩;have h4:0≤a*r.den:=Int.mul_nonneg ha (by omega);rw [e1] at h2 ⊢;omega
 ·have e:r-r=0:=by grind
  rw [e];refine ⟨Rat.le_refl,?_,?_⟩
  ·show 0<Nn;omega
  ·show 1<Nd;omega
theorem restAt_bd {l:List (Int×Int)} {q:Rat} {Nn Nd:Nat} (h0:0≤q) (hok:∀ s∈l,¬ Bad s.1 s.2) (hn:q.num.natAbs<Nn) (hd:q.den<Nd):∀ k,k≤l.length→0≤restAt l q k∧(restAt l q k).num.natAbs<Nn∧(restAt l q k).den<Nd
 | 0,_=>⟨h0,hn,hd⟩
 | k+1,hk=>by
  obtain ⟨i1,i2,i3⟩:=restAt_bd h0 hok hn hd k (by omega);have hm:(l[k]?.getD (0,0))∈l:=by rw [List.getElem?_eq_getElem (by omega)];exact List.getElem_mem _
  have hb:=hok _ hm;unfold Bad at hb;exact rest_bd i1 (by omega) i2 i3
theorem QAt.bd {Nn Nd:Nat} {w:World} {neg neg':Bool} {A A':Option Addr} {n c n' c':Nat} {q:Rat} (h:QAt Nn Nd w neg A n c neg' A' n' c' q):q.num.natAbs<Nn∧q.den<Nd:=by
 obtain ⟨na,da,_,h1,h2,rfl⟩:=h;have hp:=qden_pos da;rw [mk_num _ _ (by omega),mk_den _ _ (by omega)];refine ⟨?_,Nat.lt_of_le_of_lt (Nat.div_le_self _ _) h2⟩;rw [Int.natAbs_tdiv];exact Nat.lt_of_le_of_lt (Nat.div_le_self _ _) h1
theorem info_Q:(Tryz.prog.info? 42).map (fun i=>(i.zero,i.size,i.bytes))=some (some (.agg #[.bool false,.slice none 0 0,.bool false,.slice none 0 0]),4,64):=by kernel_rfl
def qzero:Array Value:=#[.bool false,.slice none 0 0,.bool false,.slice none 0 0]
theorem run_make_Q (k:Nat) (hk:k≤1000000000) (w:World) :
  (Instr.makeSlice 46 (.int .i64 (k:Int)) (.int .i64 (k:Int))).run Tryz.prog w=.ok (.slice (some ⟨w.heap.size,0,none⟩) k k) (w.alloc (.cells (madeCells qzero (k*4)) 42)):=by
 obtain ⟨i0,hi,hz0,hz1,hz2⟩:=info_parts info_Q;have h:=run_make (P:=Tryz.prog) w 46 42 i0 _ Tryz.underlying46 hi hz0 .i64 .i64 k k (by omega) (Int.le_refl _) (by rw [hz2];omega) (by omega);rw [h,hz1];simp only [Int.toNat_natCast,Value.cells]
 rfl
theorem made_get (n i:Nat) (h:i<n):(madeCells qzero n)[i]?=some (qzero[i % 4]!):=by
 simp [madeCells,h,qzero]
theorem made_noInt (n:Nat):NoInt (madeCells qzero n):=by
 intro i k z;by_cases h:i<n
 ·rw [made_get n i h];have h4:i % 4<4:=Nat.mod_lt _ (by omega);generalize i % 4=m at *
  match m,h4 with
  | 0,_=>simp [qzero]
  | 1,_=>simp [qzero]
  | 2,_=>simp [qzero]
  | 3,_=>simp [qzero]
 ·rw [Array.getElem?_eq_none (by rw [size_madeCells];omega)];simp
theorem QRow.start (w:World) (n:Nat):QRow (w.alloc (.cells (madeCells qzero (n*4)) 42)) w.heap.size n (List.replicate n 0):=by
 refine ⟨by simp,_,Blk.new _ _ _,made_noInt _,size_madeCells _ _,fun j hj=>?_⟩;have e:((List.replicate n (0:Rat))[j]?.getD 0)=0:=by simp [hj]
 rw [e];refine ⟨none,0,0,none,0,0,?_,?_,?_,?_,Nat.le_refl _,Nat.le_refl _,?_,?_⟩
 ·rw [made_get _ _ (by omega),show j*4 % 4=0 by omega];rfl
 ·rw [made_get _ _ (by omega),show (j*4+1) % 4=1 by omega];rfl
 ·rw [made_get _ _ (by omega),show (j*4+2) % 4=2 by omega];rfl
 ·rw [made_get _ _ (by omega),show (j*4+3) % 4=3 by omega];rfl
 ·show Wat _ none 0 (digs 0);rw [digs_zero];exact Wat.nil
 ·show Wat _ none 0 [];exact Wat.nil
end Go.Proofs.YtjajigkacccdgaaGreat
