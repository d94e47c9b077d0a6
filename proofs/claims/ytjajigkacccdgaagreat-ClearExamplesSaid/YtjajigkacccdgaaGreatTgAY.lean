/-
Lemmas of the walk; no further conditions.
-/
import Derived.Test.YtjajigkacccdgaaGreatTgAX
set_option linter.unusedVariables false
set_option linter.unusedSimpArgs false
set_option maxRecDepth 100000
set_option maxHeartbeats 16000000
namespace Go.Proofs.YtjajigkacccdgaaGreat
open Go.RowKit
open Wd
def ckB (os bs:List (List (Int×Int))):Int:=if 5<os.length∨6<bs.length then 5 else if (ckF true 0 os).2≠0 then (ckF true 0 os).2 else (ckF false 0 bs).2
theorem ckF_zero_iff {up:Bool} {ls:List (List (Int×Int))} {k:Nat}:(ckF up k ls).2=0↔∀ l∈ls,chk up l=0:=⟨fun h=>ckF_good h,fun h=>ckF_zero h⟩
theorem ckB_iff {os bs:List (List (Int×Int))}:ckB os bs=0↔os.length≤5∧bs.length≤6∧(∀ l∈os,chk true l=0)∧∀ l∈bs,chk false l=0:=by
 unfold ckB;split
 ·constructor
  ·intro h;simp at h
  ·rintro ⟨h1,h2,_⟩;omega
 ·split
  ·rename_i h1 h2
   constructor
   ·intro h;exact absurd h h2
   ·rintro ⟨_,_,h3,_⟩;exact absurd (ckF_zero h3) h2
  ·rename_i h1 h2
   rw [ckF_zero_iff];constructor
   ·intro h;exact ⟨by omega,by omega,ckF_zero_iff.1 (Classical.not_not.1 h2),h⟩
   ·rintro ⟨_,_,_,h⟩;exact h
theorem ckF_skip {up:Bool} {ls:List (List (Int×Int))} {k:Nat} (hk:k<ls.length) (h:chk up (ls[k]?.getD [])=0):(ckF up k (ls.drop k)).2=(ckF up (k+1) (ls.drop (k+1))).2:=by
 rw [dropL hk,ckF,if_neg (by simpa using h)]
theorem ckF_hit {up:Bool} {ls:List (List (Int×Int))} {k:Nat} (hk:k<ls.length) (h:chk up (ls[k]?.getD [])≠0):(ckF up k (ls.drop k)).2=chk up (ls[k]?.getD []):=by
 rw [dropL hk,ckF,if_pos h]
def ckX (os bs:List (List (Int×Int))):Int:=if (ckF true 0 os).2≠0 then (ckF true 0 os).2 else (ckF false 0 bs).2
theorem ccheck_any (A B:Option Addr) (n c m d:Nat) (os bs:List (List (Int×Int))) (w:World) (h:CsAt w A n os) (h':CsAt w B m bs) (hs:∀ l∈os,l.length≤1000000000000) (ht:∀ l∈bs,l.length≤1000000000000) :
  Calls Tryz.prog 104 #[.slice A n c,.slice B m d] w fun e w'=>e=.returned (.int .i64 (ckB os bs))∧Below w.heap.size w w':=by
 have HX:=Hj h;have HY:=Hj h';have HLN:=Hj h.1;have HMN:=Hj h'.1;have HS:=Hj hs;have HT:=Hj ht;by_cases h5:5<n
 ·have e:ckB os bs=5:=by unfold ckB;rw [if_pos (by rw [h.1];exact Or.inl h5)]
  have d5:decide ((5:Int)<(n:Int))=true:=by simp;omega
  rw [e];clear h h' hs ht e;go_enter Tryz.func104,Tryz.ntmps104;go_wp2;go_ret;exact ⟨rfl,Below.refl _ _⟩
 ·have d5:decide ((5:Int)<(n:Int))=false:=by simp;omega
  by_cases h6:6<m
  ·have e:ckB os bs=5:=by unfold ckB;rw [if_pos (by rw [h'.1];exact Or.inr h6)]
   have d6:decide ((6:Int)<(m:Int))=true:=by simp;omega
   rw [e];clear h h' hs ht e;go_enter Tryz.func104,Tryz.ntmps104;go_wp2;go_ret;exact ⟨rfl,Below.refl _ _⟩
  ·have d6:decide ((6:Int)<(m:Int))=false:=by simp;omega
   have HE0:Hid (ckB os bs=ckX os bs):=by
    show ckB os bs=ckX os bs;unfold ckB ckX;rw [if_neg (by rw [h.1,h'.1];omega)]
   clear h h' hs ht;go_enter Tryz.func104,Tryz.ntmps104
   go_wp2_with fail
   go_loopw [21] (fun t wr=>∃ k:Nat,k≤n∧t=.int .i64 k∧Hid (Below w.heap.size w wr∧(ckF true 0 os).2=(ckF true k (os.drop k)).2)) (fun t _=>n-(intOf t).toNat)
   case atStart=>exact ⟨0,Nat.zero_le _,rfl,Below.refl _ _,by simp⟩
   case round =>
    obtain ⟨k,hk,rfl,hR⟩:=hrel;by_cases hlt:k<n
    ·obtain ⟨b,o,rfl,hb,hc⟩:=HX.out.2 (by omega);obtain ⟨A',n',c',hcell,hst⟩:=hc k hlt;have hcl:=(hR.out.1.cell (p:=⟨b,o+k,none⟩) hb).trans hcell;have hkl:k<os.length:=by rw [HLN.out];exact hlt
     have hmem:=getD_mem (d:=([]:List (Int×Int))) hkl;have hCK:=checkOffer_any A' n' c' (os[k]?.getD []) wr (hst.below hR.out.1) (by rw [← hst.1];exact HS.out _ hmem);have hsk:=ckF_skip (up:=true) hkl;have hht:=ckF_hit (up:=true) hkl;generalize chk true (os[k]?.getD [])=x at *;have k1:(0:Int)≤(k:Int):=by omega
     have k2:(k:Int)<(n:Int):=by omega
     have HCK:=Hj hCK;have HR:=Hj hR.out;have HSK:=Hj hsk;have HHT:=Hj hht;clear hc hcell hst hkl hmem hCK hR hsk hht
     go_wp2_with fail
     refine HCK.out.mono ?_;rintro e v1 ⟨rfl,hb1⟩;have HV1:=Hj (HR.out.1.trans (hb1.mono HR.out.1.size));clear hb1 HCK;by_cases hx:x=0
     ·have dx:(x != 0)=false:=by simpa using hx
      have HE:=Hj (HR.out.2.trans (HSK.out hx));clear HSK HHT HR hx;go_wp2;go_roundw
      case rel=>exact ⟨k+1,by omega,by go_num,HV1.out,HE.out⟩
      case measure=>simp [intOf];omega
     ·have dx:(x != 0)=true:=by simpa using hx
      have HE:=Hj (HR.out.2.trans (HHT.out hx));clear HSK HHT HR;go_wp2;go_ret;exact ⟨by rw [HE0.out];unfold ckX;rw [HE.out,if_pos hx];rfl,HV1.out⟩
    ·obtain rfl:k=n:=by omega
     have he:(ckF true 0 os).2=0:=by
      rw [hR.out.2,List.drop_eq_nil_of_le (by rw [HLN.out];exact Nat.le_refl _)]
      rfl
     have HZ:=Hj he;have HBA:=Hj hR.out.1;clear he hR
     go_wp2_with fail
     go_loopw [33] (fun t wr=>∃ k:Nat,k≤m∧t=.int .i64 k∧Hid (Below w.heap.size w wr∧(ckF false 0 bs).2=(ckF false k (bs.drop k)).2)) (fun t _=>m-(intOf t).toNat)
     case atStart=>exact ⟨0,Nat.zero_le _,rfl,HBA.out,by simp⟩
     case round =>
      obtain ⟨k,hk,rfl,hR⟩:=hrel;by_cases hlt:k<m
      ·obtain ⟨b,o,rfl,hb,hc⟩:=HY.out.2 (by omega);obtain ⟨A',n',c',hcell,hst⟩:=hc k hlt;have hcl:=(hR.out.1.cell (p:=⟨b,o+k,none⟩) hb).trans hcell;have hkl:k<bs.length:=by rw [HMN.out];exact hlt
       have hmem:=getD_mem (d:=([]:List (Int×Int))) hkl;have hCK:=checkBid_any A' n' c' (bs[k]?.getD []) wr (hst.below hR.out.1) (by rw [← hst.1];exact HT.out _ hmem);have hsk:=ckF_skip (up:=false) hkl;have hht:=ckF_hit (up:=false) hkl;generalize chk false (bs[k]?.getD [])=x at *;have k1:(0:Int)≤(k:Int):=by omega
       have k2:(k:Int)<(m:Int):=by omega
       have HCK:=Hj hCK;have HR:=Hj hR.out;have HSK:=Hj hsk;have HHT:=Hj hht;clear hc hcell hst hkl hmem hCK hR hsk hht
       go_wp2_with fail
       refine HCK.out.mono ?_;rintro e v1 ⟨rfl,hb1⟩;have HV1:=Hj (HR.out.1.trans (hb1.mono HR.out.1.size));clear hb1 HCK;by_cases hx:x=0
       ·have dx:(x != 0)=false:=by simpa using hx
        have HE:=Hj (HR.out.2.trans (HSK.out hx));clear HSK HHT HR hx;go_wp2;go_roundw
        case rel=>exact ⟨k+1,by omega,by go_num,HV1.out,HE.out⟩
        case measure=>simp [intOf];omega
       ·have dx:(x != 0)=true:=by simpa using hx
        have HE:=Hj (HR.out.2.trans (HHT.out hx));clear HSK HHT HR;go_wp2;go_ret;exact ⟨by rw [HE0.out];unfold ckX;rw [HZ.out,if_neg (by simp),HE.out];rfl,HV1.out⟩
      ·obtain rfl:k=m:=by omega
       have he:(ckF false 0 bs).2=0:=by
        rw [hR.out.2,List.drop_eq_nil_of_le (by rw [HMN.out];exact Nat.le_refl _)]
        rfl
       have HE:=Hj he;have HB9:=Hj hR.out.1;clear he hR;go_wp2;go_ret;exact ⟨by rw [HE0.out];unfold ckX;rw [HZ.out,if_neg (by simp),HE.out];rfl,HB9.out⟩
def wsL (side:Int) (q:Rat) (ls:List (List (Int×Int))):Int:=sumI (ls.map (wlL side q))
def wsM (side:Int) (q:Rat) (ls:List (List (Int×Int))):Int:=sumI (ls.map (wlM side q))
def balB (os bs:List (List (Int×Int))) (q:Rat):Bool:=decide (wsL (-1) q os≤wsM 1 q bs) && decide (wsL 1 q bs≤wsM (-1) q os)
theorem ws_snoc (side:Int) (q:Rat) {ls:List (List (Int×Int))} {k:Nat} (hk:k<ls.length):wsL side q (ls.take (k+1))=wsL side q (ls.take k)+wlL side q (ls[k]?.getD [])∧wsM side q (ls.take (k+1))=wsM side q (ls.take k)+wlM side q (ls[k]?.getD []) :=
 ⟨sumw_snoc _ hk,sumw_snoc _ hk⟩
theorem wl_bd3 {up:Bool} {l:List (Int×Int)} (h:chk up l=0) (side:Int) (q:Rat):(0≤wlL side q l∧wlL side q l≤3000000)∧(0≤wlM side q l∧wlM side q l≤3000000):=by
 have h2:=chk_ok h;have h3:=wl_bd (l:=l) side q h2.2.2.2;have h4:=h2.2.1;omega
theorem ws_bd {up:Bool} {ls:List (List (Int×Int))} (h:∀ l∈ls,chk up l=0) (side:Int) (q:Rat):(0≤wsL side q ls∧wsL side q ls≤3000000*(ls.length:Int))∧(0≤wsM side q ls∧wsM side q ls≤3000000*(ls.length:Int)) :=
 ⟨sumw_bd _ ls fun l hl=>(wl_bd3 (h l hl) side q).1,sumw_bd _ ls fun l hl=>(wl_bd3 (h l hl) side q).2⟩
theorem balances_any (A B:Option Addr) (n c m d:Nat) (os bs:List (List (Int×Int))) (an an':Bool) (aA aA':Option Addr) (ak ac ak' ac':Nat) (q:Rat) (w:World) (h:CsAt w A n os) (h':CsAt w B m bs) (hq:QArg w an aA ak ac an' aA' ak' ac' q) (ho:∀ l∈os,chk true l=0) (hb:∀ l∈bs,chk false l=0) (hn:n≤1000) (hm:m≤1000) :
  Calls Tryz.prog 110 #[.slice A n c,.slice B m d,.agg #[.bool an,.slice aA ak ac,.bool an',.slice aA' ak' ac']] w fun e w'=>e=.returned (.bool (balB os bs q))∧Below w.heap.size w w':=by
 have HX:=Hj h;have HY:=Hj h';have HLN:=Hj h.1;have HMN:=Hj h'.1;have HQ:=Hj hq;have HCA:=Hj ho;have HCB:=Hj hb;clear h h' hq ho hb;go_enter Tryz.func110,Tryz.ntmps110
 go_wp2_with fail
 have hbx:=Blk.new w 42 #[.bool an,.slice aA ak ac,.bool an',.slice aA' ak' ac'];have hb0:Below w.heap.size w (w.alloc (.cells #[.bool an,.slice aA ak ac,.bool an',.slice aA' ak' ac'] 42)):=(Below.refl _ _).alloc (Nat.le_refl _) _;generalize w.alloc (.cells #[.bool an,.slice aA ak ac,.bool an',.slice aA' ak' ac'] 42)=W0 at *;have HST:=Hj (And.intro hb0 hbx);clear hb0 hbx
 go_loopw [7,8,23] (fun tl tm t wr=>∃ k:Nat,k≤n∧t=.int .i64 k∧tl=.int .i64 (wsL (-1) q (os.take k))∧tm=.int .i64 (wsM (-1) q (os.take k))∧Hid (Below w.heap.size w wr∧Blk wr w.heap.size 42 #[.bool an,.slice aA ak ac,.bool an',.slice aA' ak' ac'])) (fun _ _ t _=>n-(intOf t).toNat)
 case atStart=>exact ⟨0,Nat.zero_le _,rfl,rfl,rfl,HST.out⟩
 case round =>
  obtain ⟨k,hk,rfl,rfl,rfl,hR⟩:=hrel;by_cases hlt:k<n
  ·obtain ⟨b,o,rfl,hb,hc⟩:=HX.out.2 (by omega);obtain ⟨A',n',c',hcell,hst⟩:=hc k hlt;obtain ⟨hBW,hBX⟩:=hR.out;have hcl:=(hBW.cell (p:=⟨b,o+k,none⟩) hb).trans hcell;have hkl:k<os.length:=by rw [HLN.out];exact hlt
   have hmem:=getD_mem (d:=([]:List (Int×Int))) hkl;have hck:=HCA.out _ hmem;have hCT:=supplyAt_any A' n' c' (os[k]?.getD []) an an' aA aA' ak ac ak' ac' q wr (hst.below hBW) (HQ.out.below hBW) hck;obtain ⟨s1,s2⟩:=ws_snoc (-1) q hkl;have bd:=ws_bd (fun l hl=>HCA.out l (List.mem_of_mem_take hl):∀ l∈os.take k,chk true l=0) (-1) q;have bd2:=wl_bd3 hck (-1) q;have hl2:=List.length_take_le k os;generalize wlL (-1) q (os[k]?.getD [])=xl at *;generalize wlM (-1) q (os[k]?.getD [])=xm at *;generalize wsL (-1) q (os.take k)=vl at *;generalize wsM (-1) q (os.take k)=vm at *;have wl1:IntKind.i64.wrap (vl+xl)=vl+xl:=IntWalk.i64_in _ (by omega);have wl2:IntKind.i64.wrap (vm+xm)=vm+xm:=IntWalk.i64_in _ (by omega);obtain ⟨f0,f1,f2,f3,-,-,-,-⟩:=hBX.four;have k1:(0:Int)≤(k:Int):=by omega
   have k2:(k:Int)<(n:Int):=by omega
   have HCT:=Hj hCT;have HS1:=Hj s1;have HS2:=Hj s2;have HR:=Hj hR.out;clear hc hcell hst hkl hmem hck hCT s1 s2 bd bd2 hl2 hR hBW hBX
   go_wp2_with fail
   refine HCT.out.mono ?_;rintro e v1 ⟨rfl,hb1⟩;have HV1:=Hj (And.intro (HR.out.1.trans (hb1.mono HR.out.1.size)) (HR.out.2.below hb1 HR.out.2.lt));clear hb1 HCT HR f0 f1 f2 f3;go_wp2;go_roundw
   case rel=>exact ⟨k+1,by omega,by go_num,by rw [HS1.out],by rw [HS2.out],HV1.out⟩
   case measure=>simp [intOf];omega
  ·obtain rfl:k=n:=by omega
   rw [List.take_of_length_le (by rw [HLN.out];exact Nat.le_refl _)];have HBL:Hid (balB os bs q=(decide (wsL (-1) q os≤wsM 1 q bs) && decide (wsL 1 q bs≤wsM (-1) q os))):=rfl;generalize wsL (-1) q os=x1 at *;generalize wsM (-1) q os=x2 at *;have HRA:=Hj hR.out;clear hR
   go_wp2_with fail
   go_loopw [9,10,43] (fun tl tm t wr=>∃ k:Nat,k≤m∧t=.int .i64 k∧tl=.int .i64 (wsL (1) q (bs.take k))∧tm=.int .i64 (wsM (1) q (bs.take k))∧Hid (Below w.heap.size w wr∧Blk wr w.heap.size 42 #[.bool an,.slice aA ak ac,.bool an',.slice aA' ak' ac'])) (fun _ _ t _=>m-(intOf t).toNat)
   case atStart=>exact ⟨0,Nat.zero_le _,rfl,rfl,rfl,HRA.out⟩
   case round =>
    obtain ⟨k,hk,rfl,rfl,rfl,hR⟩:=hrel;by_cases hlt:k<m
    ·obtain ⟨b,o,rfl,hb,hc⟩:=HY.out.2 (by omega);obtain ⟨A',n',c',hcell,hst⟩:=hc k hlt;obtain ⟨hBW,hBX⟩:=hR.out;have hcl:=(hBW.cell (p:=⟨b,o+k,none⟩) hb).trans hcell;have hkl:k<bs.length:=by rw [HMN.out];exact hlt
     have hmem:=getD_mem (d:=([]:List (Int×Int))) hkl;have hck:=HCB.out _ hmem;have hCT:=demandAt_any A' n' c' (bs[k]?.getD []) an an' aA aA' ak ac ak' ac' q wr (hst.below hBW) (HQ.out.below hBW) hck;obtain ⟨s1,s2⟩:=ws_snoc (1) q hkl;have bd:=ws_bd (fun l hl=>HCB.out l (List.mem_of_mem_take hl):∀ l∈bs.take k,chk false l=0) (1) q;have bd2:=wl_bd3 hck (1) q;have hl2:=List.length_take_le k bs;generalize wlL (1) q (bs[k]?.getD [])=xl at *;generalize wlM (1) q (bs[k]?.getD [])=xm at *;generalize wsL (1) q (bs.take k)=vl at *;generalize wsM (1) q (bs.take k)=vm at *;have wl1:IntKind.i64.wrap (vl+xl)=vl+xl:=IntWalk.i64_in _ (by omega);have wl2:IntKind.i64.wrap (vm+xm)=vm+xm:=IntWalk.i64_in _ (by omega);obtain ⟨f0,f1,f2,f3,-,-,-,-⟩:=hBX.four;have k1:(0:Int)≤(k:Int):=by omega
     have k2:(k:Int)<(m:Int):=by omega
     have HCT:=Hj hCT;have HS1:=Hj s1;have HS2:=Hj s2;have HR:=Hj hR.out;clear hc hcell hst hkl hmem hck hCT s1 s2 bd bd2 hl2 hR hBW hBX
     go_wp2_with fail
     refine HCT.out.mono ?_;rintro e v1 ⟨rfl,hb1⟩;have HV1:=Hj (And.intro (HR.out.1.trans (hb1.mono HR.out.1.size)) (HR.out.2.below hb1 HR.out.2.lt));clear hb1 HCT HR f0 f1 f2 f3;go_wp2;go_roundw
     case rel=>exact ⟨k+1,by omega,by go_num,by rw [HS1.out],by rw [HS2.out],HV1.out⟩
     case measure=>simp [intOf];omega
    ·obtain rfl:k=m:=by omega
     rw [List.take_of_length_le (by rw [HMN.out];exact Nat.le_refl _)];generalize wsL 1 q bs=y1 at *;generalize wsM 1 q bs=y2 at *;have HB9:=Hj hR.out.1;clear hR;by_cases p1:x1≤y2
     ·have d1:decide (x1≤y2)=true:=decide_eq_true p1;go_wp2;go_ret;exact ⟨by rw [HBL.out,d1];rfl,HB9.out⟩
     ·have d1:decide (x1≤y2)=false:=decide_eq_false p1;go_wp2;go_ret;exact ⟨by rw [HBL.out,d1];rfl,HB9.out⟩
def uP:List St.Lv→Int→Option Int
 | [],_=>none
 | x :: r,u=>if u<x.2.1 then some x.1 else uP r (u-x.2.1)
theorem uP_at:∀ {lv:List St.Lv} {i:Nat} {u:Int},(∀ x∈lv,0<x.2.1∧x.2.1≤16000000)→i<lv.length→totI (lv.take i)≤u→u<totI (lv.take i)+(lv[i]?.getD Lv0).2.1→uP lv u=some (lv[i]?.getD Lv0).1
 | [],_,_,_,hi,_,_=>by simp at hi
 | x :: r,0,u,h,_,h1,h2=>by
  simp only [List.take_zero,totI,List.map_nil,sumI,List.getElem?_cons_zero,Option.getD_some] at h1 h2 ⊢;rw [uP,if_pos (by omega)]
 | x :: r,i+1,u,h,hi,h1,h2=>by
  have hx:=h x (List.mem_cons_self ..);have hr:=tot_bd (r.take i) fun y hy=>h y (List.mem_cons_of_mem _ (List.mem_of_mem_take hy));have e:totI ((x :: r).take (i+1))=x.2.1+totI (r.take i):=by simp [totI,sumI]
  rw [e] at h1 h2;rw [List.getElem?_cons_succ] at h2 ⊢;rw [uP,if_neg (by omega)];exact uP_at (fun y hy=>h y (List.mem_cons_of_mem _ hy)) (by simpa using hi) (by omega) (by omega)
theorem uP_out:∀ {lv:List St.Lv} {u:Int},(∀ x∈lv,0<x.2.1∧x.2.1≤16000000)→totI lv≤u→uP lv u=none
 | [],_,_,_=>rfl
 | x :: r,u,h,h1=>by
  have hr:=tot_bd r fun y hy=>h y (List.mem_cons_of_mem _ hy);have e:totI (x :: r)=x.2.1+totI r:=rfl;rw [e] at h1;rw [uP,if_neg (by omega)];exact uP_out (fun y hy=>h y (List.mem_cons_of_mem _ hy)) (by omega)
def okU (S D:List St.Lv) (u:Int):Prop:=∃ a b,uP S u=some a∧uP D u=some b∧a<b
def TrZ (S D:List St.Lv) (z:Int):Prop:=0≤z∧(∀ u,0≤u→u<z→okU S D u)∧¬ okU S D z
theorem TrZ.only {S D:List St.Lv} {z z':Int} (h:TrZ S D z) (h':TrZ S D z'):z=z':=by
 rcases Int.lt_trichotomy z z' with hl|hl|hl
 ·exact absurd (h'.2.1 z h.1 hl) h.2.2
 ·exact hl
 ·exact absurd (h.2.1 z' h'.1 hl) h'.2.2
structure TrI (S D:List St.Lv) (i k:Nat) (z s b:Int):Prop where
 s0:0≤s
 b0:0≤b
 si:i<S.length→s<(S[i]?.getD Lv0).2.1
 bi:k<D.length→b<(D[k]?.getD Lv0).2.1
 se:¬ i<S.length→s=0
 be:¬ k<D.length→b=0
 zs:z=totI (S.take i)+s
 zb:z=totI (D.take k)+b
 ok:∀ u,0≤u→u<z→okU S D u
theorem TrI.start {S D:List St.Lv} (hS:∀ x∈S,0<x.2.1∧x.2.1≤16000000) (hD:∀ x∈D,0<x.2.1∧x.2.1≤16000000):TrI S D 0 0 0 0 0 :=
 ⟨Int.le_refl _,Int.le_refl _,fun h=>(hS _ (getD_mem h)).1,fun h=>(hD _ (getD_mem h)).1,fun _=>rfl,fun _=>rfl,by simp [totI,sumI],by simp [totI,sumI],fun u h0 h1=>by omega⟩
theorem TrI.stop {S D:List St.Lv} {i k:Nat} {z s b:Int} (h:TrI S D i k z s b) (hS:∀ x∈S,0<x.2.1∧x.2.1≤16000000) (hD:∀ x∈D,0<x.2.1∧x.2.1≤16000000)
  (hx:¬ (i<S.length∧k<D.length∧(S[i]?.getD Lv0).1<(D[k]?.getD Lv0).1)):TrZ S D z:=by
 have b1:=(tot_bd (S.take i) fun x hx=>hS x (List.mem_of_mem_take hx)).1;have hs0:=h.s0;have hzs:=h.zs;have hzb:=h.zb;refine ⟨by omega,h.ok,?_⟩;rintro ⟨a,c,h1,h2,h3⟩;by_cases hi:i<S.length
 ·by_cases hk:k<D.length
  ·have e1:=uP_at hS hi (u:=z) (by omega) (by have:=h.si hi;omega);have e2:=uP_at hD hk (u:=z) (by have:=h.b0;omega) (by have:=h.bi hk;omega);rw [e1] at h1;rw [e2] at h2;simp at h1 h2;exact hx ⟨hi,hk,by omega⟩
  ·have hb:=h.be hk;rw [List.take_of_length_le (by omega)] at hzb;rw [uP_out hD (by omega)] at h2;simp at h2
 ·have hs:=h.se hi;rw [List.take_of_length_le (by omega)] at hzs;rw [uP_out hS (by omega)] at h1;simp at h1
theorem TrI.next {S D:List St.Lv} {i k:Nat} {z s b a:Int} (h:TrI S D i k z s b) (hS:∀ x∈S,0<x.2.1∧x.2.1≤16000000) (hD:∀ x∈D,0<x.2.1∧x.2.1≤16000000)
  (hi:i<S.length) (hk:k<D.length) (hp:(S[i]?.getD Lv0).1<(D[k]?.getD Lv0).1) (ha:a=min ((S[i]?.getD Lv0).2.1-s) ((D[k]?.getD Lv0).2.1-b)) :
  TrI S D (if s+a=(S[i]?.getD Lv0).2.1 then i+1 else i) (if b+a=(D[k]?.getD Lv0).2.1 then k+1 else k) (z+a) (if s+a=(S[i]?.getD Lv0).2.1 then 0 else s+a) (if b+a=(D[k]?.getD Lv0).2.1 then 0 else b+a):=by
 have hsi:=h.si hi;have hbi:=h.bi hk;have hs0:=h.s0;have hb0:=h.b0;have hzs:=h.zs;have hzb:=h.zb;have t1:=tot_snoc hi;have t2:=tot_snoc hk;refine ⟨?_,?_,fun hl=>?_,fun hl=>?_,fun hl=>?_,fun hl=>?_,?_,?_,fun u h0 h1=>?_⟩
 ·split<;>omega
 ·split<;>omega
 ·split at hl
  ·rename_i e
   rw [if_pos e,if_pos e];exact (hS _ (getD_mem hl)).1
  ·rename_i e
   rw [if_neg e,if_neg e];omega
 ·split at hl
  ·rename_i e
   rw [if_pos e,if_pos e];exact (hD _ (getD_mem hl)).1
  ·rename_i e
   rw [if_neg e,if_neg e];omega
 ·split at hl
  ·rename_i e;rw [if_pos e]
  ·exact absurd hi hl
 ·split at hl
  ·rename_i e;rw [if_pos e]
  ·exact absurd hk hl
 ·split<;>omega
 ·split<;>omega
 ·by_cases hu:u<z
  ·exact h.ok u h0 hu
  ·exact ⟨_,_,uP_at hS hi (by omega) (by omega),uP_at hD hk (by omega) (by omega),hp⟩
theorem traded_any (A B:Option Addr) (m n c m' n' c':Nat) (S D:List St.Lv) (w:World) (h:LvAt w A m n S) (h':LvAt w B m' n' D) (hS:∀ x∈S,0<x.2.1∧x.2.1≤16000000) (hD:∀ x∈D,0<x.2.1∧x.2.1≤16000000) (hm:m≤48) (hm':m'≤48) :
  Calls Tryz.prog 105 #[.slice A m c,.slice B m' c'] w fun e w'=>∃ z,e=.returned (.int .i64 z)∧TrZ S D z∧Below w.heap.size w w':=by
 have HA:=Hj h;have HB:=Hj h';have HLN:=Hj h.1;have HMN:=Hj h'.1;have HS:=Hj hS;have HD:=Hj hD;clear h h' hS hD;go_enter Tryz.func105,Tryz.ntmps105
 go_wp2_with fail
 go_loopw [5,6,7,8,9] (fun tz ts tb ti tk wr=>∃ (i k:Nat) (z s b:Int),i≤m∧k≤m'∧tz=.int .i64 z∧ts=.int .i64 s∧tb=.int .i64 b∧ti=.int .i64 i∧tk=.int .i64 k∧Hid (Below w.heap.size w wr∧TrI S D i k z s b)) (fun _ _ _ ti tk _=>(m-(intOf ti).toNat)+(m'-(intOf tk).toNat))
 case atStart=>exact ⟨0,0,0,0,0,Nat.zero_le _,Nat.zero_le _,rfl,rfl,rfl,rfl,rfl,Below.refl _ _,TrI.start HS.out HD.out⟩
 case round =>
  obtain ⟨i,k,z,s,b,hi,hk,rfl,rfl,rfl,rfl,rfl,hR⟩:=hrel;have i1:(0:Int)≤(i:Int):=by omega
  have k1:(0:Int)≤(k:Int):=by omega
  by_cases hlt:i<m
  ·have i2:(i:Int)<(m:Int):=by omega
   by_cases hlt2:k<m'
   ·have k2:(k:Int)<(m':Int):=by omega
    obtain ⟨b1,o1,rfl,hb1,hc1⟩:=HA.out.2 (by omega);obtain ⟨b2,o2,rfl,hb2,hc2⟩:=HB.out.2 (by omega);obtain ⟨P1,d1,⟨y0,y1,-⟩,-⟩:=hc1 i hlt;obtain ⟨P2,d2,⟨z0,z1,-⟩,-⟩:=hc2 k hlt2;replace y0:=(hR.out.1.cell (p:=⟨b1,o1+i*3,none⟩) hb1).trans y0;replace y1:=(hR.out.1.cell (p:=⟨b1,o1+i*3+1,none⟩) hb1).trans y1;replace z0:=(hR.out.1.cell (p:=⟨b2,o2+k*3,none⟩) hb2).trans z0;replace z1:=(hR.out.1.cell (p:=⟨b2,o2+k*3+1,none⟩) hb2).trans z1;have hil:i<S.length:=by rw [HLN.out];exact hlt
    have hkl:k<D.length:=by rw [HMN.out];exact hlt2
    have hq1:=HS.out _ (getD_mem (d:=Lv0) hil);have hq2:=HD.out _ (getD_mem (d:=Lv0) hkl);have hsi:=hR.out.2.si hil;have hbi:=hR.out.2.bi hkl;have hs0:=hR.out.2.s0;have hb0:=hR.out.2.b0;have hnx:=fun a=>hR.out.2.next (a:=a) HS.out HD.out hil hkl;have hst:=hR.out.2.stop HS.out HD.out;have hzb:0≤z∧z≤16000000*49:=by
     have t1:=hR.out.2.zs;have t2:=tot_bd (S.take i) fun x hx=>HS.out x (List.mem_of_mem_take hx);have t3:=List.length_take_le i S;omega
    generalize (S[i]?.getD Lv0).1=p at *;generalize (S[i]?.getD Lv0).2.1=q at *;generalize (D[k]?.getD Lv0).1=p' at *;generalize (D[k]?.getD Lv0).2.1=q' at *;by_cases hp:p<p'
    ·obtain ⟨a,ha⟩:∃ a,a=min (q-s) (q'-b):=⟨_,rfl⟩;have hnx:=hnx a hp ha;have dp:decide (p<p')=true:=decide_eq_true hp;have xq:IntKind.i64.wrap (q-s)=q-s:=IntWalk.i64_in _ (by omega);have xq':IntKind.i64.wrap (q'-b)=q'-b:=IntWalk.i64_in _ (by omega);have ha1:min (q-s) (q'-b)=a:=ha.symm;have ha2:(if q'-b<q-s then q'-b else q-s)=a:=by rw [ha];split<;>omega
     have ha3:(if q-s≤q'-b then q-s else q'-b)=a:=by rw [ha];split<;>omega
     have xz:IntKind.i64.wrap (z+a)=z+a:=IntWalk.i64_in _ (by omega);have xs:IntKind.i64.wrap (s+a)=s+a:=IntWalk.i64_in _ (by omega);have xb:IntKind.i64.wrap (b+a)=b+a:=IntWalk.i64_in _ (by omega);have HNX:=Hj hnx;have HBB:=Hj hR.out.1;have HAA:=Hj (show s+a=q∨b+a=q' by omega);clear hnx hst hR hc1 hc2 hil hkl hq1 hq2 hsi hbi hs0 hb0 hzb ha hp hb1 hb2
     go_wp2_with fail
     go_quiet (fail)
     go_wp2_with fail
     have i1':(0:Int)≤(i:Int):=by omega
     have k1':(0:Int)≤(k:Int):=by omega
     have i2':(i:Int)<(m:Int):=by omega
     have k2':(k:Int)<(m':Int):=by omega
     go_quiet (fail)
     by_cases g1:s+a=q
     ·by_cases g2:b+a=q'
      ·have hn9:=HNX.out;rw [if_pos g1,if_pos g2,if_pos g1,if_pos g2] at hn9;have d1:(s+a == q)=true:=by simpa using g1
       have d2:(b+a == q')=true:=by simpa using g2
       have HN9:=Hj hn9;clear hn9 HNX HAA g1 g2;go_wp2;go_roundw
       case rel=>exact ⟨i+1,k+1,z+a,0,0,by omega,by omega,rfl,rfl,rfl,by first|rfl|go_num,by first|rfl|go_num,below_drewN HBB.out _,HN9.out⟩
       case measure=>simp [intOf];omega
      ·have hn9:=HNX.out;rw [if_pos g1,if_neg g2,if_pos g1,if_neg g2] at hn9;have d1:(s+a == q)=true:=by simpa using g1
       have d2:(b+a == q')=false:=beq_false_of_ne g2;have HN9:=Hj hn9;clear hn9 HNX HAA g1 g2;go_wp2;go_roundw
       case rel=>exact ⟨i+1,k,z+a,0,b+a,by omega,by omega,rfl,rfl,rfl,by first|rfl|go_num,by first|rfl|go_num,below_drewN HBB.out _,HN9.out⟩
       case measure=>simp [intOf];omega
     ·by_cases g2:b+a=q'
      ·have hn9:=HNX.out;rw [if_neg g1,if_pos g2,if_neg g1,if_pos g2] at hn9;have d1:(s+a == q)=false:=beq_false_of_ne g1;have d2:(b+a == q')=true:=by simpa using g2
       have HN9:=Hj hn9;clear hn9 HNX HAA g1 g2;go_wp2;go_roundw
       case rel=>exact ⟨i,k+1,z+a,s+a,0,by omega,by omega,rfl,rfl,rfl,by first|rfl|go_num,by first|rfl|go_num,below_drewN HBB.out _,HN9.out⟩
       case measure=>simp [intOf];omega
      ·exact absurd HAA.out (by rintro (h|h);exact g1 h;exact g2 h)
    ·have dp:decide (p<p')=false:=decide_eq_false hp;have HST:=Hj (hst (fun h=>hp h.2.2));have HBB:=Hj hR.out.1;clear hnx hst hR hc1 hc2 hil hkl hq1 hq2 hsi hbi hs0 hb0 hzb hp hb1 hb2
     go_wp2_with fail
     go_quiet (fail)
     go_wp2;go_ret;exact ⟨z,rfl,HST.out,below_drewN HBB.out _⟩
   ·have k2:¬ (k:Int)<(m':Int):=by omega
    have HST:=Hj (hR.out.2.stop HS.out HD.out (fun h=>by have:=h.2.1;have:=HMN.out;omega));have HBB:=Hj hR.out.1;clear hR
    go_wp2_with fail
    go_quiet (fail)
    go_wp2;go_ret;exact ⟨z,rfl,HST.out,below_drewN HBB.out _⟩
  ·have i2:¬ (i:Int)<(m:Int):=by omega
   have HST:=Hj (hR.out.2.stop HS.out HD.out (fun h=>by have:=h.1;have:=HLN.out;omega));have HBB:=Hj hR.out.1;clear hR
   go_wp2_with fail
   go_quiet (fail)
   go_wp2;go_ret;exact ⟨z,rfl,HST.out,below_drewN HBB.out _⟩
theorem CsAt.one {w:World} {g:Nat} {t:TypeId} {A1:Option Addr} {n1 c1:Nat} {l1:List (Int×Int)} (h:Blk w g t #[.slice A1 n1 c1]) (h1:StAt w A1 n1 l1):CsAt w (some ⟨g,0,none⟩) 1 [l1]:=by
 refine ⟨rfl,fun _=>⟨g,0,rfl,h.lt,fun j hj=>?_⟩⟩;obtain rfl:j=0:=by omega
 exact ⟨A1,n1,c1,h.cell 0,h1⟩
namespace St
end St
end Go.Proofs.YtjajigkacccdgaaGreat
namespace Go.Proofs.YtjajigkacccdgaaGreat
open Go.RowKit
open Wd
end Go.Proofs.YtjajigkacccdgaaGreat
namespace Go.Proofs.YtjajigkacccdgaaGreat
open Go.RowKit
open Wd
attribute [local go_sem ↓] Go.wp_at_zero Go.wp_at_succ
theorem share_all (up:Bool) (A:Option Addr) (m n c:Nat) (lv:List St.Lv) (z:Int) (aA aA':Option Addr) (ak ac ak' ac':Nat) (w:World) (h:LvAt w A m n lv) (hv:VL up n lv) (hq:WQ w (z:Rat) aA ak ac aA' ak' ac') (h0:0≤z) (h1:z≤totI lv) (hmn:n≠0→m≠0) :
  Calls Tryz.prog 31 #[.slice A m c,.agg #[.bool (decide (((z:Int):Rat).num<0)),.slice aA ak ac,.bool false,.slice aA' ak' ac']] w fun e w'=>∃ B c',e=.returned (.tuple #[.slice B n c',.int .i64 0])∧(n≠0→∃ g,B=some ⟨g,0,none⟩∧QRow w' g n (castR (shAll lv n z m)))∧Below w.heap.size w w':=by
 by_cases hm:m=0
 ·subst hm;have hn:n=0:=by
   by_cases h9:n=0
   ·exact h9
   ·exact absurd rfl (hmn h9)
  have hlv:lv=[]:=List.eq_nil_of_length_eq_zero h.1;subst hlv;obtain rfl:z=0:=by simp only [totI,List.map_nil,sumI] at h1;omega
  refine (share_nil up A n c aA aA' ak ac ak' ac' w hv.n16 hq).mono ?_;rintro e w' ⟨rfl,hb⟩;exact ⟨none,0,by rw [hn],fun h9=>absurd hn h9,hb⟩
 ·refine (share_ok up A m n c lv z aA aA' ak ac ak' ac' w h hv hq h0 h1 hm).mono ?_;rintro e w' ⟨g,rfl,h2,h3,hb⟩;exact ⟨_,_,rfl,fun _=>⟨g,rfl,h2⟩,hb⟩
end Go.Proofs.YtjajigkacccdgaaGreat
namespace Go.Proofs.YtjajigkacccdgaaGreat
open Go.RowKit
open Wd
theorem integer_whole (z:Int) (aA aA':Option Addr) (ak ac ak' ac':Nat) (w:World) (h:WQ w (z:Rat) aA ak ac aA' ak' ac') (hz:z.natAbs<1000000000000000000) :
  Calls Tryz.prog 148 #[.agg #[.bool (decide (((z:Int):Rat).num<0)),.slice aA ak ac,.bool false,.slice aA' ak' ac']] w fun e w'=>e=.returned (.int .i64 z)∧Below w.heap.size w w':=by
 have HFL:=Hj (fun W (hW:Below w.heap.size w W)=>qfloor_whole 4611686018427387904 1152921504606846976 2 wok_small (by omega) _ false aA aA' ak ac ak' ac' z W ((h.below hW).at (by rw [Rat.num_intCast];omega) (by rw [Rat.den_intCast];omega)));have HI:=Hj (fun W A1 k1 c1 (h1:Wat W A1 k1 (digs z.natAbs)) (h2:k1≤c1)=>int64_yes (decide (z<0)) A1 k1 c1 (digs z.natAbs) W h1 h2 (by
   have h3:=h1.1;have h4:(digs z.natAbs).length≤2:=digs_len_le.2 (by rw [pow2];omega);omega) (by rw [val_digs,sg_self];unfold Fits;omega))
 rw [val_digs,sg_self] at HI;generalize decide (((z:Int):Rat).num<0)=bn at *;clear h;go_enter Tryz.func148,Tryz.ntmps148
 go_wp2_with fail
 have hbx:=Blk.new w 42 #[.bool bn,.slice aA ak ac,.bool false,.slice aA' ak' ac'];have hb0:Below w.heap.size w (w.alloc (.cells #[.bool bn,.slice aA ak ac,.bool false,.slice aA' ak' ac'] 42)):=(Below.refl _ _).alloc (Nat.le_refl _) _;generalize w.alloc (.cells #[.bool bn,.slice aA ak ac,.bool false,.slice aA' ak' ac'] 42)=W0 at *;obtain ⟨f0,f1,f2,f3,-,-,-,-⟩:=hbx.four;have HB0:=Hj hb0;clear hbx hb0
 go_wp2_with fail
 refine (HFL.out W0 HB0.out).mono ?_;rintro e w1 ⟨A1,k1,c1,rfl,hk1,hW1,-,hb1⟩;have HB1:=Hj (HB0.out.trans (hb1.mono HB0.out.size));have HI1:=Hj (HI.out w1 A1 k1 c1 hW1 hk1);clear hk1 hW1 hb1 HFL HI f0 f1 f2 f3
 go_wp2_with fail
 refine HI1.out.mono ?_;rintro e w2 ⟨rfl,hb2⟩;have HB2:=Hj (HB1.out.trans (hb2.mono HB1.out.size));clear hb2;go_wp2;go_ret;exact ⟨rfl,HB2.out⟩
theorem qsubJ (x y:Int) (hx:x.natAbs<1000000000000000000) (hy:y.natAbs<1000000000000000000) {W:World} {B B' B2 B2':Option Addr} {bk bc bk' bc' j d j' d':Nat} (h1:WQ W (x:Rat) B bk bc B' bk' bc') (h2:WQ W (y:Rat) B2 j d B2' j' d') :
  Calls Tryz.prog 55 #[.agg #[.bool (decide (((x:Int):Rat).num<0)),.slice B bk bc,.bool false,.slice B' bk' bc'],.agg #[.bool (decide (((y:Int):Rat).num<0)),.slice B2 j d,.bool false,.slice B2' j' d']] W (RetQ W ((x-y:Int):Rat)):=by
 have:=qsub_any 4611686018427387904 1152921504606846976 2 wok_small (by omega) (by omega) _ false _ false B B' B2 B2' bk bc bk' bc' j d j' d' (x:Rat) (y:Rat) W (h1.at (by rw [Rat.num_intCast];omega) (by rw [Rat.den_intCast];omega)) (h2.at (by rw [Rat.num_intCast];omega) (by rw [Rat.den_intCast];omega))
 rwa [← Rat.intCast_sub] at this
def AmR (w:World) (n k:Nat) (xs:List Int) (B:Option Addr) (g:Nat) (wr:World):Prop :=
 Below w.heap.size w wr∧(n≠0→∃ g1,B=some ⟨g1,0,none⟩∧QRow wr g1 n (castR xs))∧∃ ys,IRow wr g ys∧ys.length=n∧∀ j,j<k→ys[j]?.getD 0=xs[j]?.getD 0
theorem QRow.aside {w:World} {g n:Nat} {ps:List Rat} (h:QRow w g n ps) {p:Addr} {xs:List Int} (hr:IRow w p.block xs) (v:Int) (hs:p.spot=none):QRow (w.setCell p (.int .i64 v)) g n ps:=by
 obtain ⟨h1,cs,h2,h3,h4,h5⟩:=h;have hne:g≠p.block:=by
  intro e;rw [e] at h2;unfold IRow Blk at *;rw [h2] at hr;simp at hr
 refine ⟨h1,cs,h2.far hne _,h3,h4,fun j hj=>?_⟩;obtain ⟨A,k,c,A',k',c',e1,e2,e3,e4,e5,e6,e7,e8⟩:=h5 j hj;have key:∀ {A:Option Addr} {k:Nat} {l:List Nat},Wat w A k l→Wat (w.setCell p (.int .i64 v)) A k l:=by
  intro A k l hw;refine ⟨hw.1,hw.2.1,fun hn=>?_⟩;obtain ⟨b,o,rfl,hb,hc⟩:=hw.2.2 hn;refine ⟨b,o,rfl,by simpa [World.setCell] using hb,fun j hj=>?_⟩;have hbn:b≠p.block:=by
   intro e;have h9:=hc j hj;rw [e] at h9;have h8:=Blk.cell hr (o+j);rw [h8] at h9;simp at h9
  rw [World.cell?_setCell_other _ _ _ _ (fun e=>hbn (by have:=congrArg Addr.block e;first|exact this|exact this.symm))];exact hc j hj
 exact ⟨A,k,c,A',k',c',e1,e2,e3,e4,e5,e6,key e7,key e8⟩
theorem cshares_ok (up:Bool) (A:Option Addr) (m n c:Nat) (lv:List St.Lv) (z:Int) (w:World) (h:LvAt w A m n lv) (hv:VL up n lv) (h0:0≤z) (h1:z≤totI lv) (hmn:n≠0→m≠0) :
  Calls Tryz.prog 106 #[.slice A m c,.int .i64 z] w fun e w'=>∃ g,e=.returned (.tuple #[.slice (some ⟨g,0,none⟩) n n,.int .i64 0])∧IRow w' g (shAll lv n z m)∧w.heap.size≤g∧Below w.heap.size w w':=by
 have hz:=(tot_bd lv hv.qty).2;have hl:=hv.len;have hn16:=hv.n16;have hlm:=h.1;have HSA:=Hj (fun W A5 A6 k5 c5 k6 c6 (hW:Below w.heap.size w W) (hq:WQ W ((z:Int):Rat) A5 k5 c5 A6 k6 c6)=>share_all up A m n c lv z A5 A6 k5 c5 k6 c6 W (h.below hW) hv hq h0 h1 hmn);have hxl:=shAll_len lv n z m;have hpi:∀ i,i<lv.length→0≤partI (lvQ lv) z i:=fun i hi=>by
  have:=partI_bd hv.okQ h0 i (by rw [lvQ_len];omega);have h2:=hv.okQ _ (getD_mem (d:=(0,0)) (show i<(lvQ lv).length by rw [lvQ_len];omega));unfold partI;omega
 have hbd:=shAll_bd hv hpi m (by omega);have hm48:m≤48:=by omega
 have hzb:z≤1000000000:=by omega
 generalize shAll lv n z m=xs at *;have HXB:=Hj hbd;have HXL:=Hj hxl;clear h hv hmn hz hl hlm hxl hpi hbd h1;go_enter Tryz.func106,Tryz.ntmps106
 go_wp2_with fail
 refine (qfromInt64_any z w (by omega) (by omega)).mono ?_;rintro e x1 ⟨A5,k5,c5,A6,k6,c6,rfl,hk5,hk6,hW5,hW6,-,-,hb1⟩;have HX1:=Hj hb1;have HC:=Hj (HSA.out x1 A5 A6 k5 c5 k6 c6 hb1 ⟨hk5,hk6,hW5,hW6⟩);clear hk5 hk6 hW5 hW6 hb1 HSA;generalize ((z:Int):Rat)=zq at *
 go_wp2_with fail
 refine HC.out.mono ?_;rintro e x2 ⟨B,d,rfl,hr,hb2⟩;have HX2:=Hj (HX1.out.trans (hb2.mono HX1.out.size));have HR:=Hj hr;have hmk:=fun w=>run_make_ints n (by omega) w;clear hr hb2 HC HX1
 go_wp2_with fail
 have hst:AmR w n 0 xs B x2.heap.size (x2.alloc (.cells (Array.replicate n (.int .i64 0)) 2)):=by
  have kx:=(Kp.refl x2).alloc (.cells (Array.replicate n (.int .i64 0)) 2);refine ⟨HX2.out.trans (Below.mono kx HX2.out.size),fun hn=>?_,List.replicate n 0,IRow.start x2 n,by simp,fun j hj=>by omega⟩;obtain ⟨g1,e,hq⟩:=HR.out hn;exact ⟨g1,e,hq.below kx⟩
 have hgs:w.heap.size≤x2.heap.size:=HX2.out.size;have HST:=Hj hst;clear hst hmk HX2 HR;generalize x2.alloc (.cells (Array.replicate n (.int .i64 0)) 2)=W1 at *;generalize x2.heap.size=g at *
 go_loopw [26] (fun t wr=>∃ k:Nat,k≤n∧t=.int .i64 k∧Hid (AmR w n k xs B g wr)) (fun t _=>n-(intOf t).toNat)
 case atStart=>exact ⟨0,Nat.zero_le _,rfl,HST.out⟩
 case round =>
  clear HST;obtain ⟨k,hk,rfl,hR⟩:=hrel;by_cases hlt:k<n
  ·obtain ⟨hBW,hq,ys,hI,hyl,hy⟩:=hR.out;obtain ⟨g1,rfl,hqr⟩:=hq (by omega);obtain ⟨D1,e1,f1,D2,e2,f2,p0,p1,p2,p3,-,-,-,-,m1',m2',w1',w2'⟩:=hqr.cells hlt;rw [castR_get] at p0 w1' w2';have hxb:=HXB.out k;generalize hxe:xs[k]?.getD 0=x at *;have HXE:=Hj hxe;have wqx:WQ wr ((x:Int):Rat) D1 e1 f1 D2 e2 f2:=⟨m1',m2',w1',w2'⟩;have hIN:=fun W (hW:Below wr.heap.size wr W)=>integer_whole x D1 D2 e1 f1 e2 f2 W (wqx.below hW) (by omega);have k1:(0:Int)≤(k:Int):=by omega
   have k2:(k:Int)<(n:Int):=by omega
   generalize decide (((x:Int):Rat).num<0)=bn at *;have HIN:=Hj hIN;have HR:=Hj (And.intro hBW (And.intro hqr (And.intro hI (And.intro hyl hy))));clear hq hI hyl hy hqr m1' m2' w1' w2' hxb hxe wqx hIN hR hBW
   go_wp2_with fail
   have hbx:=Blk.new wr 42 #[.bool bn,.slice D1 e1 f1,.bool false,.slice D2 e2 f2];have hb0:Below wr.heap.size wr (wr.alloc (.cells #[.bool bn,.slice D1 e1 f1,.bool false,.slice D2 e2 f2] 42)):=(Below.refl _ _).alloc (Nat.le_refl _) _;generalize wr.alloc (.cells #[.bool bn,.slice D1 e1 f1,.bool false,.slice D2 e2 f2] 42)=W2 at *;obtain ⟨f0,f1',f2',f3,-,-,-,-⟩:=hbx.four;have HB0:=Hj hb0;clear hbx hb0 p0 p1 p2 p3
   go_wp2_with fail
   refine (HIN.out W2 HB0.out).mono ?_;rintro e v1 ⟨rfl,hb1⟩;have hB1:=HB0.out.trans (hb1.mono HB0.out.size);have hI1:=HR.out.2.2.1.below hB1;have hc1:=hI1.cell (i:=k) (by rw [HR.out.2.2.2.1];exact hlt);have hf1:=hI1.frozen k;have hfin:AmR w n (k+1) xs (some ⟨g1,0,none⟩) g (v1.setCell ⟨g,k,none⟩ (.int .i64 x)):=by
    have hb9:=HR.out.1.trans (hB1.mono HR.out.1.size);refine ⟨hb9.setCell (p:=⟨g,k,none⟩) hgs _,fun _=>⟨g1,rfl,(HR.out.2.1.below hB1).aside (p:=⟨g,k,none⟩) hI1 x rfl⟩,ys.set k x,hI1.set k x,by rw [List.length_set];exact HR.out.2.2.2.1,fun j hj=>?_⟩;rw [List.getElem?_set];by_cases hjk:k=j
    ·subst hjk;rw [if_pos rfl,if_pos (by rw [HR.out.2.2.2.1];exact hlt)];exact HXE.out.symm
    ·rw [if_neg hjk];exact HR.out.2.2.2.2 j (by omega)
   have HF:=Hj hfin;clear hb1 hB1 hI1 hfin HIN HB0 HR f0 f1' f2' f3;go_wp2;go_roundw
   case rel=>exact ⟨k+1,by omega,by go_num,HF.out⟩
   case measure=>simp [intOf];omega
  ·obtain rfl:k=n:=by omega
   obtain ⟨hBW,-,ys,hI,hyl,hy⟩:=hR.out;obtain rfl:ys=xs:=St.ext_getD (by rw [hyl,HXL.out]) (fun i hi=>hy i (by omega));have HF:=Hj (And.intro hI hBW);clear hR hI hBW hy;go_wp2;go_ret2;exact ⟨g,rfl,HF.out.1,hgs,HF.out.2⟩
theorem CQ.wq {base:Nat} {w:World} {q:Rat} {A A':Option Addr} {k c k' c':Nat} (h:CQ base w q A k c A' k' c'):WQ w q A k c A' k' c':=⟨h.1,h.2.1,h.2.2.1,h.2.2.2.1⟩
theorem gain_ok (up up':Bool) (A B:Option Addr) (m n c m' n' c':Nat) (S D:List St.Lv) (z:Int) (w:World) (h:LvAt w A m n S) (hv:VL up n S) (h':LvAt w B m' n' D) (hv':VL up' n' D) (h0:0≤z) (h1:z≤totI S) (h1':z≤totI D) :
  Calls Tryz.prog 107 #[.slice A m c,.slice B m' c',.int .i64 z] w fun e w'=>e=.returned (.tuple #[.int .i64 (costI (lvQ D) z m'-costI (lvQ S) z m),.int .i64 0])∧Below w.heap.size w w':=by
 have hz:=(tot_bd S hv.qty).2;have hl:=hv.len;have hl':=hv'.len;have hlm:=h.1;have hlm':=h'.1;have HC1:=Hj (fun W A5 A6 k5 c5 k6 c6 (hW:Below w.heap.size w W) (hq:WQ W ((z:Int):Rat) A5 k5 c5 A6 k6 c6)=>kcost_whole up A m n c S z A5 A6 k5 c5 k6 c6 W (h.below hW) hv hq h0 h1);have HC2:=Hj (fun W A5 A6 k5 c5 k6 c6 (hW:Below w.heap.size w W) (hq:WQ W ((z:Int):Rat) A5 k5 c5 A6 k6 c6)=>kcost_whole up' B m' n' c' D z A5 A6 k5 c5 k6 c6 W (h'.below hW) hv' hq h0 h1');have b1:=costI_bd2 hv.okQ hv.prI h0 m (by rw [lvQ_len];omega);have b2:=costI_bd2 hv'.okQ hv'.prI h0 m' (by rw [lvQ_len];omega);have hb1:(costI (lvQ S) z m).natAbs<100000000000000000:=by omega
 have hb2:(costI (lvQ D) z m').natAbs<100000000000000000:=by omega
 have hzb:z≤1000000000:=by omega
 generalize costI (lvQ S) z m=x at *;generalize costI (lvQ D) z m'=y at *;have HSB:=Hj (fun W (B1 B1' B2 B2':Option Addr) (bk bc bk' bc' j d j' d':Nat) (g1:WQ W ((y:Int):Rat) B1 bk bc B1' bk' bc') (g2:WQ W ((x:Int):Rat) B2 j d B2' j' d')=>qsubJ y x (by omega) (by omega) g1 g2);have HIN:=Hj (fun W (B1 B1':Option Addr) (bk bc bk' bc':Nat) (g1:WQ W ((y-x:Int):Rat) B1 bk bc B1' bk' bc')=>integer_whole (y-x) B1 B1' bk bc bk' bc' W g1 (by omega));have HFI:=Hj (fun W=>qfromInt64_any z W (by omega) (by omega));clear h hv h' hv' hz hl hl' hlm hlm' b1 b2 hb1 hb2 h1 h1';generalize ((z:Int):Rat)=zq at *;generalize ((x:Int):Rat)=xq at *;generalize ((y:Int):Rat)=yq at *;generalize ((y-x:Int):Rat)=dq at *;go_enter Tryz.func107,Tryz.ntmps107
 go_wp2_with fail
 refine (HFI.out w).mono ?_;rintro e x1 ⟨A5,k5,c5,A6,k6,c6,rfl,hk5,hk6,hW5,hW6,-,-,hb1⟩;have HX1:=Hj hb1;have HC:=Hj (HC1.out x1 A5 A6 k5 c5 k6 c6 hb1 ⟨hk5,hk6,hW5,hW6⟩);clear hk5 hk6 hW5 hW6 hb1 HC1
 go_wp2_with fail
 refine HC.out.mono ?_;rintro e x2 ⟨A7,k7,c7,A8,k8,c8,rfl,hcq,hb2⟩;have HX2:=Hj (HX1.out.trans (hb2.mono HX1.out.size));have HQX:=Hj hcq.wq;clear hcq hb2 HC HX1
 go_wp2_with fail
 have hbx:=Blk.new x2 42 #[.bool (decide (xq.num<0)),.slice A7 k7 c7,.bool false,.slice A8 k8 c8];have kx:=(Kp.refl x2).alloc (.cells #[.bool (decide (xq.num<0)),.slice A7 k7 c7,.bool false,.slice A8 k8 c8] 42);generalize x2.alloc (.cells #[.bool (decide (xq.num<0)),.slice A7 k7 c7,.bool false,.slice A8 k8 c8] 42)=W2 at *;have HX2b:=Hj (HX2.out.trans (Below.mono kx HX2.out.size));have HQX:=Hj (HQX.out.below kx);have HBX:=Hj hbx;clear hbx kx HX2;refine (HFI.out W2).mono ?_;rintro e x3 ⟨A5',k5',c5',A6',k6',c6',rfl,hk5,hk6,hW5,hW6,-,-,hb3⟩;have HX3:=Hj (HX2b.out.trans (hb3.mono HX2b.out.size));have HC:=Hj (HC2.out x3 A5' A6' k5' c5' k6' c6' HX3.out ⟨hk5,hk6,hW5,hW6⟩);have HQX:=Hj (HQX.out.below hb3);have HBX:=Hj (HBX.out.below hb3 HBX.out.lt);clear hk5 hk6 hW5 hW6 hb3 HC2 HX2b
 go_wp2_with fail
 refine HC.out.mono ?_;rintro e x4 ⟨A9,k9,c9,A10,k10,c10,rfl,hcq,hb4⟩;have HX4:=Hj (HX3.out.trans (hb4.mono HX3.out.size));have HQX:=Hj (HQX.out.below hb4);have HBX:=Hj (HBX.out.below hb4 HBX.out.lt);have HQY:=Hj hcq.wq;clear hcq hb4 HC HX3;have kx:=(Kp.refl x4).alloc (.cells #[.bool (decide (yq.num<0)),.slice A9 k9 c9,.bool false,.slice A10 k10 c10] 42);have HX4b:=Hj (HX4.out.trans (Below.mono kx HX4.out.size));have HQX:=Hj (HQX.out.below kx);have HQY:=Hj (HQY.out.below kx);have hbx:=kx.blk HBX.out;obtain ⟨f0,f1,f2,f3,-,-,-,-⟩:=hbx.four;clear hbx kx HX4 HBX
 go_wp2_with fail
 refine (HSB.out _ _ _ _ _ _ _ _ _ _ _ _ _ HQY.out HQX.out).mono ?_;rintro e x5 ⟨A11,k11,c11,A12,k12,c12,rfl,hk5,hk6,hW5,hW6,-,-,hb5⟩;have HX5:=Hj (HX4b.out.trans (hb5.mono HX4b.out.size));have HI:=Hj (HIN.out x5 A11 A12 k11 c11 k12 c12 ⟨hk5,hk6,hW5,hW6⟩);clear hk5 hk6 hW5 hW6 hb5 HX4b HIN HSB f0 f1 f2 f3
 go_wp2_with fail
 refine HI.out.mono ?_;rintro e x6 ⟨rfl,hb6⟩;have HX6:=Hj (HX5.out.trans (hb6.mono HX5.out.size));clear hb6;go_wp2;go_ret2;exact ⟨rfl,HX6.out⟩
end Go.Proofs.YtjajigkacccdgaaGreat
