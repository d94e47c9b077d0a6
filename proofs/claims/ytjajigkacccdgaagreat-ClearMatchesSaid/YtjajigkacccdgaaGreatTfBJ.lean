/-
Lemmas of the walk; no further conditions.
-/
import Derived.Test.YtjajigkacccdgaaGreatTfBI
set_option linter.unusedVariables false
set_option linter.unusedSimpArgs false
set_option maxRecDepth 100000
set_option maxHeartbeats 16000000
namespace Go.Proofs.YtjajigkacccdgaaGreat
open Go.RowKit
open Wd
def mz (os bs:List (List (Int×Int))):Int:=if ckB os bs=0 then zR os bs else 0
def mp (os bs:List (List (Int×Int))):Int:=if ckB os bs=0 then pR os bs else 0
def mw (os bs:List (List (Int×Int))):Int:=if ckB os bs=0 then wR os bs else 0
def mx (os bs:List (List (Int×Int))):List Int:=if ckB os bs=0 then xR os bs else []
def my (os bs:List (List (Int×Int))):List Int:=if ckB os bs=0 then yR os bs else []
def RowI (base top:Nat) (w:World) (A:Option Addr) (n:Nat):Prop:=n≠0→∃ g,A=some ⟨g,0,none⟩∧base≤g∧g<top∧∃ l:List Int,l.length=n∧IRow w g l
theorem RowI.put {base top:Nat} {w:World} {A:Option Addr} {n:Nat} (h:RowI base top w A n) (g i:Nat):RowI base top (w.setCell ⟨g,i,none⟩ (.int .i64 (-1))) A n:=fun hn=>by
 obtain ⟨g',e,h1,h2,l,hl,hr⟩:=h hn;by_cases hg:g'=g
 ·subst hg;exact ⟨g',e,h1,h2,l.set i (-1),by rw [List.length_set];exact hl,hr.set i (-1)⟩
 ·exact ⟨g',e,h1,h2,l,hl,Blk.far (p:=⟨g,i,none⟩) hr (by dsimp only;omega) _⟩
theorem RowI.below {base top:Nat} {w w':World} {A:Option Addr} {n:Nat} (h:RowI base top w A n) (hb:Below w.heap.size w w'):RowI base top w' A n:=fun hn=>by
 obtain ⟨g',e,h1,h2,l,hl,hr⟩:=h hn;exact ⟨g',e,h1,h2,l,hl,IRow.below hr hb⟩
def MatP (os bs:List (List (Int×Int))) (w:World) (e:Ending) (w':World):Prop :=
 ∃ A1 c1 B1 d1,e=.returned (.tuple #[.agg #[.int .i64 (mz os bs),.int .i64 (mp os bs),.int .i64 (mw os bs),.slice A1 (mx os bs).length c1,.slice B1 (my os bs).length d1],.int .i64 (ckB os bs)])∧IsAt w' A1 (mx os bs).length (mx os bs)∧IsAt w' B1 (my os bs).length (my os bs)∧RowI w.heap.size w'.heap.size w' A1 (mx os bs).length∧RowI w.heap.size w'.heap.size w' B1 (my os bs).length∧Below w.heap.size w w'
theorem mat_bad {os bs:List (List (Int×Int))} {w w':World} (hc:ckB os bs≠0) (hb:Below w.heap.size w w'):MatP os bs w (.returned (.tuple #[.agg #[.int .i64 0,.int .i64 0,.int .i64 0,.slice none 0 0,.slice none 0 0],.int .i64 (ckB os bs)])) w':=by
 refine ⟨none,0,none,0,?_,?_,?_,?_,?_,hb⟩
 ·simp [mz,mp,mw,mx,my,hc]
 ·exact ⟨rfl,fun h=>absurd h (by simp [mx,hc])⟩
 ·exact ⟨rfl,fun h=>absurd h (by simp [my,hc])⟩
 ·exact fun h=>absurd h (by simp [mx,hc])
 ·exact fun h=>absurd h (by simp [my,hc])
theorem mat_ok {os bs:List (List (Int×Int))} {w w':World} {g1 g2:Nat} (hc:ckB os bs=0) (h1:IRow w' g1 (xR os bs)) (h2:IRow w' g2 (yR os bs)) (hg1:w.heap.size≤g1) (hg2:w.heap.size≤g2) (hb:Below w.heap.size w w') :
  MatP os bs w (.returned (.tuple #[.agg #[.int .i64 (zR os bs),.int .i64 (pR os bs),.int .i64 (wR os bs),.slice (some ⟨g1,0,none⟩) os.length os.length,.slice (some ⟨g2,0,none⟩) bs.length bs.length],.int .i64 0])) w':=by
 have ex:mx os bs=xR os bs:=if_pos hc;have ey:my os bs=yR os bs:=if_pos hc;refine ⟨some ⟨g1,0,none⟩,os.length,some ⟨g2,0,none⟩,bs.length,?_,?_,?_,?_,?_,hb⟩
 ·rw [ex,ey,xR_len,yR_len,hc];simp [mz,mp,mw,hc]
 ·rw [ex];exact IRow.at h1 rfl
 ·rw [ey];exact IRow.at h2 rfl
 ·rw [ex];exact fun _=>⟨g1,rfl,hg1,h1.lt,_,rfl,h1⟩
 ·rw [ey];exact fun _=>⟨g2,rfl,hg2,h2.lt,_,rfl,h2⟩
theorem run_any (A B:Option Addr) (n c m d:Nat) (os bs:List (List (Int×Int))) (w:World) (h:CsAt w A n os) (h':CsAt w B m bs) (hs:∀ l∈os,l.length≤1000000000000) (hr:∀ l∈bs,l.length≤1000000000000):Calls Tryz.prog 48 #[.slice A n c,.slice B m d] w (MatP os bs w):=by
 by_cases hc:ckB os bs=0
 ·refine (run_ok A B n c m d os bs w h h' hc).mono ?_;rintro e w' ⟨z,p,wf,xs,ys,S,D,g1,g2,rfl,hv,h1,h2,hg1,hg2,hb⟩;obtain ⟨rfl,rfl,rfl,rfl,rfl⟩:=ref_run hc hv;exact mat_ok hc h1 h2 hg1 hg2 hb
 ·refine (run_no A B n c m d os bs w h h' hs hr hc).mono ?_;rintro e w' ⟨rfl,hb⟩;exact mat_bad hc hb
def MatR (os bs:List (List (Int×Int))) (w:World) (e:Ending) (w':World):Prop :=
 ∃ A1 c1 B1 d1,e=.returned (.tuple #[.agg #[.int .i64 (mz os bs),.int .i64 (mp os bs),.int .i64 (mw os bs),.slice A1 (mx os bs).length c1,.slice B1 (my os bs).length d1],.int .i64 (ckB os bs)])∧IsAt w' A1 (mx os bs).length (mx os bs)∧IsAt w' B1 (my os bs).length (my os bs)∧Below w.heap.size w w'
theorem rrun_any (A B:Option Addr) (n c m d:Nat) (os bs:List (List (Int×Int))) (w:World) (h:CsAt w A n os) (h':CsAt w B m bs):Calls Tryz.prog 47 #[.slice A n c,.slice B m d] w (MatR os bs w):=by
 by_cases hc:ckB os bs=0
 ·refine (rrun_ok A B n c m d os bs w h h' hc).mono ?_;rintro e w' ⟨g1,g2,rfl,h1,h2,hb⟩;have ex:mx os bs=xR os bs:=if_pos hc;have ey:my os bs=yR os bs:=if_pos hc;refine ⟨some ⟨g1,0,none⟩,os.length,some ⟨g2,0,none⟩,bs.length,?_,?_,?_,hb⟩
  ·rw [ex,ey,xR_len,yR_len,hc];simp [mz,mp,mw,hc]
  ·rw [ex];exact IRow.at h1 rfl
  ·rw [ey];exact IRow.at h2 rfl
 ·refine (rrun_no A B n c m d os bs w h h' hc).mono ?_;rintro e w' ⟨rfl,hb⟩;obtain ⟨A1,c1,B1,d1,h1,h2,h3,-,-,h4⟩:=mat_bad hc hb;exact ⟨A1,c1,B1,d1,h1,h2,h3,h4⟩
theorem cmat_any (A B:Option Addr) (n c m d:Nat) (os bs:List (List (Int×Int))) (w:World) (h:CsAt w A n os) (h':CsAt w B m bs):Calls Tryz.prog 7 #[.slice A n c,.slice B m d] w fun e w'=>e=.returned (.bool true)∧Below w.heap.size w w':=by
 have HAW:=Hj (fun W=>awake25_any W);have HL:=Hj (long25_any A B n c m d os bs w h h');cases hlg:(longC os || longC bs)
 ·obtain ⟨l1,l2⟩:longC os=false∧longC bs=false:=by simpa using hlg
  have hs:=longC_small l1;have hr:=longC_small l2;have T1:=Hj (fun W (hW:Below w.heap.size w W)=>rrun_any A B n c m d os bs W (h.below hW) (h'.below hW));have T2:=Hj (fun W (hW:Below w.heap.size w W)=>run_any A B n c m d os bs W (h.below hW) (h'.below hW) hs hr);have hlx:(mx os bs).length≤1000:=by
   unfold mx;split
   ·rename_i hc
    have:=(ckB_iff.1 hc).1;rw [xR_len];omega
   ·simp
  have hly:(my os bs).length≤1000:=by
   unfold my;split
   ·rename_i hc
    have:=(ckB_iff.1 hc).2.1;rw [yR_len];omega
   ·simp
  unfold MatR at T1;unfold MatP at T2;rw [hlg] at HL;clear h h' hlg l1 l2 hs hr;have hck:(ckB os bs != ckB os bs)=false:=by simp
  generalize ckB os bs=ck at *;generalize mz os bs=z at *;generalize mp os bs=p at *;generalize mw os bs=wf at *;generalize hn1:(mx os bs).length=n1 at *;generalize hm1:(my os bs).length=m1 at *;generalize mx os bs=xs at *;generalize my os bs=ys at *;clear hn1 hm1;go_enter Tryz.func7,Tryz.ntmps7
  go_wp2_with fail
  refine HL.out.mono ?_;rintro e w1 ⟨rfl,hb1⟩;have HB1:=Hj hb1;clear hb1 HL
  go_wp2_with fail
  refine (T1.out w1 HB1.out).mono ?_;rintro e w2 ⟨A1,c1,B1,d1,rfl,hx,hy,hb2⟩;have k3:=(Kp.refl w2).alloc (.cells #[.int .i64 z,.int .i64 p,.int .i64 wf,.slice A1 n1 c1,.slice B1 m1 d1] 78);have hb2':=HB1.out.trans (hb2.mono HB1.out.size);have HV:=Hj (And.intro (Blk.new w2 78 #[.int .i64 z,.int .i64 p,.int .i64 wf,.slice A1 n1 c1,.slice B1 m1 d1]) (And.intro (hx.below k3) (And.intro (hy.below k3) (hb2'.trans (Below.mono k3 hb2'.size)))));clear hx hy hb2 hb2' k3 T1 HB1
  go_wp2_with fail
  generalize w2.alloc (.cells #[.int .i64 z,.int .i64 p,.int .i64 wf,.slice A1 n1 c1,.slice B1 m1 d1] 78)=V3 at *;generalize w2.heap.size=g5 at *
  go_loopw [7] (fun t wr=>∃ r:Nat,r≤2∧t=.int .i64 (r:Int)∧Hid (Kp V3 wr)) (fun t _=>2-(intOf t).toNat)
  case atStart=>exact ⟨0,Nat.zero_le _,rfl,Kp.refl V3⟩
  case round =>
   obtain ⟨r,hr2,rfl,HK⟩:=hrel;obtain ⟨wo,rfl⟩:∃ u,u=wr:=⟨_,rfl⟩;have HWO:=Hj (HV.out.2.2.2.trans (Below.mono HK.out HV.out.2.2.2.size));by_cases hlr:r<2
   ·have r1:(0:Int)≤(r:Int):=Int.natCast_nonneg _;have r2:(r:Int)<2:=by omega
    go_wp2_with fail
    refine (T2.out wo HWO.out).mono ?_;rintro e v1 ⟨A2,c2,B2,d2,rfl,hx,hy,hrx,hry,hb⟩;have k4:=(Kp.refl v1).alloc (.cells #[.int .i64 z,.int .i64 p,.int .i64 wf,.slice A2 n1 c2,.slice B2 m1 d2] 81);have hk1:Kp wo (v1.alloc (.cells #[.int .i64 z,.int .i64 p,.int .i64 wf,.slice A2 n1 c2,.slice B2 m1 d2] 81)):=Kp.trans hb k4;have HU:=Hj (And.intro (Blk.new v1 81 #[.int .i64 z,.int .i64 p,.int .i64 wf,.slice A2 n1 c2,.slice B2 m1 d2]) (And.intro (hx.below k4) (And.intro (hy.below k4) (And.intro hk1 (And.intro (hrx.below k4) (hry.below k4))))));clear hx hy hrx hry hb k4 hk1;have hc5:=Kp.blk (Kp.trans HK.out HU.out.2.2.2.1) HV.out.1;obtain ⟨⟨a0,a1,a2,a3,a4⟩,-⟩:=HU.out.1.five;obtain ⟨⟨e0,e1,e2,e3,e4⟩,-⟩:=hc5.five;clear hc5
    go_wp2_with fail
    generalize v1.alloc (.cells #[.int .i64 z,.int .i64 p,.int .i64 wf,.slice A2 n1 c2,.slice B2 m1 d2] 81)=V4 at *;generalize v1.heap.size=g8 at *;have hkv:=Kp.trans HK.out HU.out.2.2.2.1;refine (same25_yes A2 A1 B2 B1 n1 c2 c1 m1 d2 d1 z p wf xs ys V4 HU.out.2.1 (HV.out.2.1.below hkv) HU.out.2.2.1 (HV.out.2.2.1.below hkv) (by omega) (by omega)).mono ?_;rintro e v2 ⟨rfl,hb2⟩;have HQ0:=Hj (show Kp wo v2∧Blk v2 g8 81 #[.int .i64 z,.int .i64 p,.int .i64 wf,.slice A2 n1 c2,.slice B2 m1 d2]∧RowI wo.heap.size g8 v2 A2 n1∧RowI wo.heap.size g8 v2 B2 m1 from ⟨Kp.trans HU.out.2.2.2.1 hb2,HU.out.1.below hb2 HU.out.1.lt,HU.out.2.2.2.2.1.below hb2,HU.out.2.2.2.2.2.below hb2⟩);clear hb2 hkv a0 a1 a2 a3 a4 e0 e1 e2 e3 e4 HU
    go_wp2_with fail
    go_loopw [10] (fun t wx=>∃ i:Nat,i≤n1∧t=.int .i64 (i:Int)∧Hid (Kp wo wx∧Blk wx g8 81 #[.int .i64 z,.int .i64 p,.int .i64 wf,.slice A2 n1 c2,.slice B2 m1 d2]∧RowI wo.heap.size g8 wx A2 n1∧RowI wo.heap.size g8 wx B2 m1)) (fun t _=>n1-(intOf t).toNat)
    case atStart=>exact ⟨0,Nat.zero_le _,rfl,HQ0.out⟩
    case round =>
     clear HQ0;obtain ⟨i,hi,rfl,HQ⟩:=hrel;obtain ⟨wy,rfl⟩:∃ u,u=wr:=⟨_,rfl⟩;obtain ⟨⟨b0,b1,b2,b3,b4⟩,-⟩:=HQ.out.2.1.five;by_cases hlt:i<n1
     ·obtain ⟨g,hge,hg0,hg8,l,hl,hrow⟩:=HQ.out.2.2.1 (by omega);have hce:=hrow.cell (i:=i) (by omega);have hfr:=hrow.frozen i;have i1:(0:Int)≤(i:Int):=Int.natCast_nonneg _;have i2:(i:Int)<(n1:Int):=by exact_mod_cast hlt
      have HF:=Hj (show Kp wo (wy.setCell ⟨g,i,none⟩ (.int .i64 (-1)))∧Blk (wy.setCell ⟨g,i,none⟩ (.int .i64 (-1))) g8 81 #[.int .i64 z,.int .i64 p,.int .i64 wf,.slice A2 n1 c2,.slice B2 m1 d2]∧RowI wo.heap.size g8 (wy.setCell ⟨g,i,none⟩ (.int .i64 (-1))) A2 n1∧RowI wo.heap.size g8 (wy.setCell ⟨g,i,none⟩ (.int .i64 (-1))) B2 m1 from
       ⟨Kp.set HQ.out.1 hg0 _,Blk.far HQ.out.2.1 (by dsimp only;omega) _,HQ.out.2.2.1.put g i,HQ.out.2.2.2.put g i⟩)
      rw [hge] at b3;clear HQ hrow hge;go_wp2;go_roundw
      case rel=>exact ⟨i+1,by omega,by first|rfl|go_num,HF.out⟩
      case measure=>simp [intOf];omega
     ·obtain rfl:n1=i:=by omega
      have HQ0:=Hj HQ.out;clear HQ hlt
      go_wp2_with fail
      go_loopw [11] (fun t wx=>∃ i:Nat,i≤m1∧t=.int .i64 (i:Int)∧Hid (Kp wo wx∧Blk wx g8 81 #[.int .i64 z,.int .i64 p,.int .i64 wf,.slice A2 n1 c2,.slice B2 m1 d2]∧RowI wo.heap.size g8 wx A2 n1∧RowI wo.heap.size g8 wx B2 m1)) (fun t _=>m1-(intOf t).toNat)
      case atStart=>exact ⟨0,Nat.zero_le _,rfl,HQ0.out⟩
      case round =>
       clear HQ0;obtain ⟨i,hi,rfl,HQ⟩:=hrel;obtain ⟨wy,rfl⟩:∃ u,u=wr:=⟨_,rfl⟩;obtain ⟨⟨b0,b1,b2,b3,b4⟩,-⟩:=HQ.out.2.1.five;by_cases hlt:i<m1
       ·obtain ⟨g,hge,hg0,hg8,l,hl,hrow⟩:=HQ.out.2.2.2 (by omega);have hce:=hrow.cell (i:=i) (by omega);have hfr:=hrow.frozen i;have i1:(0:Int)≤(i:Int):=Int.natCast_nonneg _;have i2:(i:Int)<(m1:Int):=by exact_mod_cast hlt
        have HF:=Hj (show Kp wo (wy.setCell ⟨g,i,none⟩ (.int .i64 (-1)))∧Blk (wy.setCell ⟨g,i,none⟩ (.int .i64 (-1))) g8 81 #[.int .i64 z,.int .i64 p,.int .i64 wf,.slice A2 n1 c2,.slice B2 m1 d2]∧RowI wo.heap.size g8 (wy.setCell ⟨g,i,none⟩ (.int .i64 (-1))) A2 n1∧RowI wo.heap.size g8 (wy.setCell ⟨g,i,none⟩ (.int .i64 (-1))) B2 m1 from
         ⟨Kp.set HQ.out.1 hg0 _,Blk.far HQ.out.2.1 (by dsimp only;omega) _,HQ.out.2.2.1.put g i,HQ.out.2.2.2.put g i⟩)
        rw [hge] at b4;clear HQ hrow hge;go_wp2;go_roundw
        case rel=>exact ⟨i+1,by omega,by first|rfl|go_num,HF.out⟩
        case measure=>simp [intOf];omega
       ·obtain rfl:m1=i:=by omega
        have HQ0:=Hj HQ.out;clear HQ hlt;have HKF:=Hj (Kp.trans HK.out HQ0.out.1);clear HQ0 HK HWO;go_wp2;go_roundw
        case rel=>exact ⟨r+1,by omega,by first|rfl|go_num,HKF.out⟩
        case measure=>simp [intOf];omega
   ·obtain rfl:r=2:=by omega
    clear HK hlr hr2
    go_wp2_with fail
    refine (HAW.out _).mono ?_;rintro e wz ⟨rfl,hbz⟩;have HBZ:=Hj (HWO.out.trans (hbz.mono HWO.out.size));clear hbz;go_wp2;go_ret;exact ⟨rfl,HBZ.out⟩
 ·rw [hlg] at HL;clear h h' hlg;go_enter Tryz.func7,Tryz.ntmps7
  go_wp2_with fail
  refine HL.out.mono ?_;rintro e w1 ⟨rfl,hb1⟩;have HB1:=Hj hb1;clear hb1 HL
  go_wp2_with fail
  refine (HAW.out _).mono ?_;rintro e wz ⟨rfl,hbz⟩;have HBZ:=Hj (HB1.out.trans (hbz.mono HB1.out.size));clear hbz;go_wp2;go_ret;exact ⟨rfl,HBZ.out⟩
end Go.Proofs.YtjajigkacccdgaaGreat
