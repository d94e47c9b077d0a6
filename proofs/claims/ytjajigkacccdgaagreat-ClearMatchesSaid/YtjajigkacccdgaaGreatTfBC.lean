/-
Lemmas of the walk; no further conditions.
-/
import Derived.Test.YtjajigkacccdgaaGreatTfBB
import Derived.Deep.DrawnRows
import Derived.Test.YtjajigkacccdgaaGreatTfAU
import Derived.Test.YtjajigkacccdgaaGreatRows
import Derived.WalkKit
import Derived.ProofKit
import Derived.OpenShut
import Derived.Carry
import Derived.WideKeyArgs
import Derived.Deep.Slices
set_option linter.unusedVariables false
set_option linter.unusedSimpArgs false
set_option maxRecDepth 100000
set_option maxHeartbeats 16000000
namespace Go.Proofs.YtjajigkacccdgaaGreat
open Go.RowKit
open Wd
theorem cmpQ_cases (a b:Rat):cmpQ a b = -1∨cmpQ a b=0∨cmpQ a b=1:=by
 unfold cmpQ;split
 ·exact Or.inl rfl
 ·split
  ·exact Or.inr (Or.inr rfl)
  ·exact Or.inr (Or.inl rfl)
theorem rwants23_any (sg side:Int) (hsg:(sg=1∧side = -1)∨(sg = -1∧side=1)) (A:Option Addr) (n c:Nat) (l:List (Int×Int)) (an an':Bool) (aA aA':Option Addr) (ak ac ak' ac':Nat) (q:Rat) (w:World) (h:StAt w A n l) (hq:QS 7 w an aA ak ac an' aA' ak' ac' q) (hn:n≤3) (hb:∀ s∈l,¬ Bad s.1 s.2) :
  Calls Tryz.prog 197 #[.slice A n c,.agg #[.bool an,.slice aA ak ac,.bool an',.slice aA' ak' ac'],.int .i64 sg] w fun e w'=>e=.returned (.tuple #[.int .i64 (wlL side q l),.int .i64 (wlM side q l)])∧Below w.heap.size w w':=by
 have HX:=Hj h;have HLN:=Hj h.1;have HB:=Hj hb;have HQ:=Hj hq;have HSG:=Hj hsg;clear h hb hq hsg;go_enter Tryz.func197,Tryz.ntmps197
 go_wp2_with fail
 have hbx:=Blk.new w 42 #[.bool an,.slice aA ak ac,.bool an',.slice aA' ak' ac'];have hb0:Below w.heap.size w (w.alloc (.cells #[.bool an,.slice aA ak ac,.bool an',.slice aA' ak' ac'] 42)):=(Below.refl _ _).alloc (Nat.le_refl _) _;generalize w.alloc (.cells #[.bool an,.slice aA ak ac,.bool an',.slice aA' ak' ac'] 42)=W0 at *;have HST:=Hj (And.intro hb0 hbx);clear hb0 hbx
 go_loopw [8,9,10] (fun tl tm t wr=>∃ k:Nat,k≤n∧t=.int .i64 k∧tl=.int .i64 (wlL side q (l.take k))∧tm=.int .i64 (wlM side q (l.take k))∧Hid (Below w.heap.size w wr∧Blk wr w.heap.size 42 #[.bool an,.slice aA ak ac,.bool an',.slice aA' ak' ac'])) (fun _ _ t _=>n-(intOf t).toNat)
 case atStart=>exact ⟨0,Nat.zero_le _,rfl,rfl,rfl,HST.out⟩
 case round =>
  obtain ⟨k,hk,rfl,rfl,rfl,hR⟩:=hrel;by_cases hlt:k<n
  ·obtain ⟨hBW,hBX⟩:=hR.out;obtain ⟨b,o,rfl,hb,hc⟩:=HX.out.2.2 (by omega);obtain ⟨y0,y1⟩:=hc k hlt;have hkl:k<l.length:=by rw [HLN.out];exact hlt
   have hbad:=HB.out _ (getD_mem (d:=((0,0):Int×Int)) hkl);have s1:=wlL_snoc (side:=side) (q:=q) hkl;have s2:=wlM_snoc (side:=side) (q:=q) hkl;obtain ⟨bd1,bd2⟩:=wl_bd (l:=l.take k) side q fun s hs=>HB.out s (List.mem_of_mem_take hs);have hl2:=List.length_take_le k l;generalize (l[k]?.getD (0,0)).1=s at *;generalize (l[k]?.getD (0,0)).2=p at *;replace y0:=(hBW.cell (p:=⟨b,o+k*2,none⟩) hb).trans y0;replace y1:=(hBW.cell (p:=⟨b,o+k*2+1,none⟩) hb).trans y1;have hbr:b<wr.heap.size:=Nat.lt_of_lt_of_le hb hBW.size;unfold Bad at hbad;have hFI:=fun W=>rint_any p W (by omega) (by omega);have hl3:Ls 7 ((p:Int):Rat):=(ls_int (Nat.le_refl 3) (by omega)).mono (by decide);have hCM:=fun W (hW:Kp wr W) (A2 A3:Option Addr) (k2 c2 k3 c3:Nat) (h2:RQ W ((p:Int):Rat) A2 k2 c2 A3 k3 c3)=>rcmpq_s (s:=7) (by decide) _ false an an' A2 A3 aA aA' k2 c2 k3 c3 ak ac ak' ac' ((p:Int):Rat) q W (h2.qs hl3 (by decide)) (HQ.out.below (hBW.trans (Below.mono hW hBW.size)));have k1:(0:Int)≤(k:Int):=by omega
   have k2:(k:Int)<(n:Int):=by omega
   have hcc:=cmpQ_cases ((p:Int):Rat) q;generalize cmpQ ((p:Int):Rat) q=cv at *;generalize ((p:Int):Rat)=pq at *;generalize wlL side q (l.take k)=vl at *;generalize wlM side q (l.take k)=vm at *;have xl:IntKind.i64.wrap (vl+s)=vl+s:=IntWalk.i64_in _ (by omega);have xm:IntKind.i64.wrap (vm+s)=vm+s:=IntWalk.i64_in _ (by omega);have xc:IntKind.i64.wrap (sg*cv)=sg*cv:=IntWalk.i64_in _ (by rcases HSG.out with ⟨rfl,_⟩|⟨rfl,_⟩<;>rcases hcc with rfl|rfl|rfl<;>decide);have HS1:=Hj s1;have HS2:=Hj s2;have HFI:=Hj hFI;have HCM:=Hj hCM;have HCC:=Hj hcc;have HM:=Hj (And.intro hBW hBX);have HY:=Hj (And.intro y0 hbr);have hS:∀ w',Kp wr w'→(w'.cell? ⟨b,o+k*2+1,none⟩=some (.int .i64 p)∧w'.cell? ⟨w.heap.size,0,none⟩=some (.bool an)∧w'.cell? ⟨w.heap.size,1,none⟩=some (.slice aA ak ac)∧w'.cell? ⟨w.heap.size,2,none⟩=some (.bool an')∧w'.cell? ⟨w.heap.size,3,none⟩=some (.slice aA' ak' ac'))∧Kp wr w':=fun w' hk =>
    ⟨⟨(Below.cell hk (p:=⟨b,o+k*2+1,none⟩) hbr).trans y1,(Kp.blk hk hBX).cell 0,(Kp.blk hk hBX).cell 1,(Kp.blk hk hBX).cell 2,(Kp.blk hk hBX).cell 3⟩,hk⟩
   have HS:=Hj hS;have hk0:=Kp.refl wr;clear hc hkl hbad bd1 bd2 hl2 s1 s2 hFI hCM hR hBW hBX hcc hl3 hS y0 y1 hb hbr
   go_wp2_with fail
   go_region_held3 (fun w'=>(w'.cell? ⟨b,o+k*2+1,none⟩=some (.int .i64 p)∧w'.cell? ⟨w.heap.size,0,none⟩=some (.bool an)∧w'.cell? ⟨w.heap.size,1,none⟩=some (.slice aA ak ac)∧w'.cell? ⟨w.heap.size,2,none⟩=some (.bool an')∧w'.cell? ⟨w.heap.size,3,none⟩=some (.slice aA' ak' ac'))∧Kp wr w')
    (with_reducible first|(refine HS.out _ ?_;assumption)|(refine HS.out _ (Kp.drew ?_);assumption)|(refine' HS.out _ (Kp.drew (And.right _));rotate_left;assumption))
    (first
     | (go_at_call 37;have hk:=And.right ‹_∧Kp wr _›;refine (HFI.out _).mono ?_;rintro e v2 ⟨A2,k2,c2,A3,k3,c3,rfl,h2,h3,hW2,hW3,-,-,hb2⟩;have hk2:=Kp.trans hk hb2;have HWQ:=Hj (⟨h2,h3,hW2,hW3⟩:RQ v2 pq A2 k2 c2 A3 k3 c3);clear hb2 h2 h3 hW2 hW3)
     | (go_at_call 127;have hk:=And.right ‹_∧Kp wr _›;refine (HCM.out _ hk _ _ _ _ _ _ HWQ.out).mono ?_;rintro e v3 ⟨rfl,hb3⟩;have hk3:=Kp.trans hk hb3;clear hb3))
   have hfin:Below w.heap.size w v3∧Blk v3 w.heap.size 42 #[.bool an,.slice aA ak ac,.bool an',.slice aA' ak' ac']:=⟨HM.out.1.trans (Below.mono hk3 HM.out.1.size),hk3.blk HM.out.2⟩;have hs0:=(Below.cell hk3 (p:=⟨b,o+k*2,none⟩) HY.out.2).trans HY.out.1;have HF:=Hj hfin;clear hfin hk0 hk2 hk3 HS HFI HCM HWQ HM;by_cases hside:cv=side
   ·have d1:decide (sg*cv<0)=true:=by rcases HSG.out with ⟨rfl,rfl⟩|⟨rfl,rfl⟩<;>subst hside<;>decide
    have d2:decide (sg*cv≤0)=true:=by rcases HSG.out with ⟨rfl,rfl⟩|⟨rfl,rfl⟩<;>subst hside<;>decide
    have e1:=HS1.out;have e2:=HS2.out;rw [if_pos hside] at e1;rw [if_pos (Or.inl hside)] at e2;have E1:=Hj e1;have E2:=Hj e2;clear e1 e2 HS1 HS2 hside;go_wp2;go_roundw
    case rel=>exact ⟨k+1,by omega,by go_num,by rw [E1.out],by rw [E2.out],HF.out⟩
    case measure=>simp [intOf];omega
   ·have d1:decide (sg*cv<0)=false:=by rcases HSG.out with ⟨rfl,rfl⟩|⟨rfl,rfl⟩<;>rcases HCC.out with rfl|rfl|rfl<;>first|decide|exact absurd rfl hside
    have e1:=HS1.out;rw [if_neg hside,Int.add_zero] at e1;have E1:=Hj e1;by_cases hz:cv=0
    ·have d2:decide (sg*cv≤0)=true:=by subst hz;simp
     have e2:=HS2.out;rw [if_pos (Or.inr hz)] at e2;have E2:=Hj e2;clear e1 e2 HS1 HS2 hside hz;go_wp2;go_roundw
     case rel=>exact ⟨k+1,by omega,by go_num,by rw [E1.out],by rw [E2.out],HF.out⟩
     case measure=>simp [intOf];omega
    ·have d2:decide (sg*cv≤0)=false:=by rcases HSG.out with ⟨rfl,rfl⟩|⟨rfl,rfl⟩<;>rcases HCC.out with rfl|rfl|rfl<;>first|decide|exact absurd rfl hside|exact absurd rfl hz
     have e2:=HS2.out;rw [if_neg (by rintro (h|h);exact hside h;exact hz h),Int.add_zero] at e2;have E2:=Hj e2;clear e1 e2 HS1 HS2 hside hz;go_wp2;go_roundw
     case rel=>exact ⟨k+1,by omega,by go_num,by rw [E1.out],by rw [E2.out],HF.out⟩
     case measure=>simp [intOf];omega
  ·obtain rfl:k=n:=by omega
   rw [List.take_of_length_le (by rw [HLN.out];exact Nat.le_refl _)];have HF:=Hj hR.out.1;clear hR;go_wp2;go_ret2;exact ⟨rfl,HF.out⟩
theorem rsupplyAt_any (A:Option Addr) (n c:Nat) (l:List (Int×Int)) (an an':Bool) (aA aA':Option Addr) (ak ac ak' ac':Nat) (q:Rat) (w:World) (h:StAt w A n l) (hq:QS 7 w an aA ak ac an' aA' ak' ac' q) (hk:chk true l=0) :
  Calls Tryz.prog 146 #[.slice A n c,.agg #[.bool an,.slice aA ak ac,.bool an',.slice aA' ak' ac']] w fun e w'=>e=.returned (.tuple #[.int .i64 (wlL (-1) q l),.int .i64 (wlM (-1) q l),.int .i64 0])∧Below w.heap.size w w':=by
 have hok:=chk_ok hk;have hn:n≤3:=by rw [← h.1];exact hok.2.1
 have HCK:=Hj (fun W (hW:Below w.heap.size w W)=>rcheck_up A n c l W (h.below hW));rw [hk] at HCK;have HWN:=Hj (fun W (hW:Below w.heap.size w W)=>rwants23_any (1) (-1) (by decide) A n c l an an' aA aA' ak ac ak' ac' q W (h.below hW) (hq.below hW) hn hok.2.2.2);clear hok h hq hk hn;go_enter Tryz.func146,Tryz.ntmps146
 go_wp2_with fail
 have hbx:=Blk.new w 42 #[.bool an,.slice aA ak ac,.bool an',.slice aA' ak' ac'];have hb0:Below w.heap.size w (w.alloc (.cells #[.bool an,.slice aA ak ac,.bool an',.slice aA' ak' ac'] 42)):=(Below.refl _ _).alloc (Nat.le_refl _) _;generalize w.alloc (.cells #[.bool an,.slice aA ak ac,.bool an',.slice aA' ak' ac'] 42)=W0 at *;refine (HCK.out W0 hb0).mono ?_;rintro e v1 ⟨rfl,hb1⟩;have hv:=hb0.trans (hb1.mono hb0.size);obtain ⟨_,_,_,_,f0,f1,f2,f3⟩:=(Kp.blk hb1 hbx).four;have HV:=Hj hv;clear hbx hb0 hb1 hv HCK
 go_wp2_with fail
 refine (HWN.out v1 HV.out).mono ?_;rintro e v2 ⟨rfl,hb2⟩;have HF:=Hj (HV.out.trans (hb2.mono HV.out.size));clear hb2 HV HWN f0 f1 f2 f3;go_wp2;go_ret3;exact ⟨rfl,HF.out⟩
theorem rdemandAt_any (A:Option Addr) (n c:Nat) (l:List (Int×Int)) (an an':Bool) (aA aA':Option Addr) (ak ac ak' ac':Nat) (q:Rat) (w:World) (h:StAt w A n l) (hq:QS 7 w an aA ak ac an' aA' ak' ac' q) (hk:chk false l=0) :
  Calls Tryz.prog 147 #[.slice A n c,.agg #[.bool an,.slice aA ak ac,.bool an',.slice aA' ak' ac']] w fun e w'=>e=.returned (.tuple #[.int .i64 (wlL (1) q l),.int .i64 (wlM (1) q l),.int .i64 0])∧Below w.heap.size w w':=by
 have hok:=chk_ok hk;have hn:n≤3:=by rw [← h.1];exact hok.2.1
 have HCK:=Hj (fun W (hW:Below w.heap.size w W)=>rcheck_dn A n c l W (h.below hW));rw [hk] at HCK;have HWN:=Hj (fun W (hW:Below w.heap.size w W)=>rwants23_any (-1) (1) (by decide) A n c l an an' aA aA' ak ac ak' ac' q W (h.below hW) (hq.below hW) hn hok.2.2.2);clear hok h hq hk hn;go_enter Tryz.func147,Tryz.ntmps147
 go_wp2_with fail
 have hbx:=Blk.new w 42 #[.bool an,.slice aA ak ac,.bool an',.slice aA' ak' ac'];have hb0:Below w.heap.size w (w.alloc (.cells #[.bool an,.slice aA ak ac,.bool an',.slice aA' ak' ac'] 42)):=(Below.refl _ _).alloc (Nat.le_refl _) _;generalize w.alloc (.cells #[.bool an,.slice aA ak ac,.bool an',.slice aA' ak' ac'] 42)=W0 at *;refine (HCK.out W0 hb0).mono ?_;rintro e v1 ⟨rfl,hb1⟩;have hv:=hb0.trans (hb1.mono hb0.size);obtain ⟨_,_,_,_,f0,f1,f2,f3⟩:=(Kp.blk hb1 hbx).four;have HV:=Hj hv;clear hbx hb0 hb1 hv HCK
 go_wp2_with fail
 refine (HWN.out v1 HV.out).mono ?_;rintro e v2 ⟨rfl,hb2⟩;have HF:=Hj (HV.out.trans (hb2.mono HV.out.size));clear hb2 HV HWN f0 f1 f2 f3;go_wp2;go_ret3;exact ⟨rfl,HF.out⟩
end Go.Proofs.YtjajigkacccdgaaGreat
namespace Go.Proofs.YtjajigkacccdgaaGreat
open Go
open Go.RowKit
open Wd
structure Jn (P:Prop):Prop where
 out:P
theorem join_at {P Q:Prop} (h:Jn P→Q) (k:P):Q:=h ⟨k⟩
section
variable {P:Program} {ops:Array Oper} {Q:Exit→Act→World→Prop} {md:Region.Mode} {S:World→Prop}
theorem tq {oi:Oper} {v:Value} {a2:Act} {l2:Array Bool} {fuel:Nat} {listed:Array Bool} {a:Act} {w:World} (i:Nat) (h:wpAnyH P md ops Q S fuel l2 a2 w)
  (hi:ops[i]?=some oi:=by exact rfl)
  (hc:(Region.noSelect ops && (Region.free md ops listed i && (Region.ready md ops listed).contains i))=true:=by kernel_rfl)
  (hy:Region.wanted oi (yielded ops a.tmps)=true∧∀ w,S w→(execOp a.eval oi).run P w=.ok (.value v) w:=by (refine And.intro (by exact rfl) ?_;intro w hSw;(try dsimp only at hSw);(try simp only [p1,p2,p3]);go_simp;first|done|with_reducible rfl))
  (hQ:∀ c a w,Q (.panic c) (a.put oi.dst v) w→Q (.panic c) a w:=by exact fun _ _ _ h=>h)
  (hS:S w:=by assumption)
  (ha:a.put oi.dst v=a2:=by ((try simp only [Act.put,p1,p2,p3,p4,p5,p6]);exact rfl))
  (hl:listed.setIfInBounds i true=l2:=by ((try simp only [p4,p5,p6]);exact rfl)):wpAnyH P md ops Q S (fuel+1) listed a w:=by
 subst ha;subst hl;exact tkk i hi hc hQ (Or.inl hy) hS h
theorem tu {oi:Oper} {a2:Act} {l2:Array Bool} {fuel:Nat} {listed:Array Bool} {a:Act} {w:World} (i:Nat) (h:wpAnyH P md ops Q S fuel l2 a2 w)
  (hi:ops[i]?=some oi:=by exact rfl)
  (hc:(Region.noSelect ops && (Region.free md ops listed i && (Region.ready md ops listed).contains i))=true:=by kernel_rfl)
  (hy:Region.wanted oi (yielded ops a.tmps)=false:=by exact rfl)
  (hQ:∀ c a w,Q (.panic c) (a.put oi.dst undef) w→Q (.panic c) a w:=by exact fun _ _ _ h=>h)
  (hS:S w:=by assumption)
  (ha:a.put oi.dst undef=a2:=by ((try simp only [Act.put,p1,p2,p3,p4,p5,p6]);exact rfl))
  (hl:listed.setIfInBounds i true=l2:=by ((try simp only [p4,p5,p6]);exact rfl)):wpAnyH P md ops Q S (fuel+1) listed a w:=by
 subst ha;subst hl;exact tkk i hi hc hQ (Or.inr ⟨hy,rfl⟩) hS h
theorem rd1 {o:Oper} {fuel:Nat} {listed:Array Bool} {a:Act} {w:World} (i:Nat)
  (h:∀ K':Act→World→Prop,Shut (∀ a w,S w→(S w→wpAnyH P md ops Q S fuel (listed.setIfInBounds i true) a w)→K' a w)→if Region.wanted o (yielded ops a.tmps)=true then Oper.wp P o a w K' Q else K' (a.put o.dst undef) w)
  (hr:Region.ready md ops listed=[i]:=by kernel_rfl) (ho:ops[i]?=some o:=by exact rfl):wpAnyH P md ops Q S (fuel+1) listed a w :=
 wpAnyH_ready hr (by simp) (AllReadyH.cons ho h AllReadyH.nil)
theorem rd2 {o o':Oper} {fuel:Nat} {listed:Array Bool} {a:Act} {w:World} (i i':Nat)
  (h:∀ K':Act→World→Prop,Shut (∀ a w,S w→(S w→wpAnyH P md ops Q S fuel (listed.setIfInBounds i true) a w)→K' a w)→if Region.wanted o (yielded ops a.tmps)=true then Oper.wp P o a w K' Q else K' (a.put o.dst undef) w)
  (h':∀ K':Act→World→Prop,Shut (∀ a w,S w→(S w→wpAnyH P md ops Q S fuel (listed.setIfInBounds i' true) a w)→K' a w)→if Region.wanted o' (yielded ops a.tmps)=true then Oper.wp P o' a w K' Q else K' (a.put o'.dst undef) w)
  (hr:Region.ready md ops listed=[i,i']:=by kernel_rfl) (ho:ops[i]?=some o:=by exact rfl) (ho':ops[i']?=some o':=by exact rfl):wpAnyH P md ops Q S (fuel+1) listed a w :=
 wpAnyH_ready hr (by simp) (AllReadyH.cons ho h (AllReadyH.cons ho' h' AllReadyH.nil))
theorem held_at {C:World→Prop} {id:Nat} {a:Act} {W w:World} (hC:∀ w',Kp W w'→C w') (h0:Kp W w)
  (h:Hid (∀ w',Kp W w'→C w'∧Kp W w')→C w.drew∧Kp W w.drew→wpAnyH P .any ops Q (fun w'=>C w'∧Kp W w') ops.size (Array.replicate ops.size false) a w.drew) (hm:P.follows .mixedOrders=true:=by kernel_rfl):(Code.region id ops true).wp P Q a w :=
 wp_region_held_drew hm ⟨hC _ (Kp.drew h0),Kp.drew h0⟩ (fun hh=>h (Hj fun w' hk=>⟨hC w' hk,hk⟩) hh)
theorem held_front {C:World→Prop} {fr:Array Oper} {id:Nat} {a:Act} {W w:World} (N r:Nat) (hC:∀ w',Kp W w'→C w') (h0:Kp W w)
  (h:Hid (∀ w',Kp W w'→C w'∧Kp W w')→C w.drew∧Kp W w.drew→wpAnyH P .any fr (Qfr Q (wpAny P .any ops Q r (mask N r))) (fun w'=>C w'∧Kp W w') N (Array.replicate N false) a w.drew)
  (hm:P.follows .mixedOrders=true:=by kernel_rfl) (hs:splits ops N r=true:=by kernel_rfl) (hfr:(ops.toList.take N).toArray=fr:=by (simp only [List.toList_toArray,List.take_succ_cons,List.take_zero];exact rfl)):(Code.region id ops true).wp P Q a w :=
 wp_region_front N r fr (fun w'=>C w'∧Kp W w') hm hs hfr.symm ⟨hC _ (Kp.drew h0),Kp.drew h0⟩ (fun hh=>h (Hj fun w' hk=>⟨hC w' hk,hk⟩) hh)
end
theorem num_ltW (q:Rat):q<0↔q.num<0:=by rw [Rat.lt_iff];simp
def ErrQ (w:World) (x:Int) (e:Ending) (w':World):Prop:=e=.returned (.tuple #[.agg #[.bool false,.slice none 0 0,.bool false,.slice none 0 0],.int .i64 x])∧Below w.heap.size w w'
theorem ralloc_no (A:Option Addr) (n c:Nat) (l:List (Int×Int)) (w:World) (h:StAt w A n l) (he:curveE l=0) (an an':Bool) (aA aA':Option Addr) (ak ac ak' ac':Nat) (q:Rat) (hq:QS 7 w an aA ak ac an' aA' ak' ac' q) (hx:q<0∨((qsum l:Int):Rat)<q) :
  Calls Tryz.prog 155 #[.slice A n c,.agg #[.bool an,.slice aA ak ac,.bool an',.slice aA' ak' ac']] w fun e w'=>e=.returned (.tuple #[.slice none 0 0,.int .i64 1])∧Below w.heap.size w w':=by
 obtain ⟨hn0,hn3,hok⟩:=curve_ok he;have hln:=h.1;have hbd:=qsum_bd l hok;have hlen:(l.length:Int)≤3:=by omega
 have hsum:sumS l=qsum l:=by unfold sumS;rw [if_pos he]
 have CC:=fun W (hW:Below w.heap.size w W)=>rcurve_any A n c l W (h.below hW);have SM:=fun W (hW:Below w.heap.size w W)=>rsum_any A n c l W (h.below hW);rw [he] at CC;rw [hsum] at SM;have SG:=fun W (hW:Below w.heap.size w W)=>rsignq_s (s:=7) (by decide) an an' aA aA' ak ac ak' ac' q W (hq.below hW);have FI:=fun W=>rint_any (qsum l) W (by omega) (by omega);have hl3:Ls 7 ((qsum l:Int):Rat):=(ls_int (Nat.le_refl 3) (by omega)).mono (by decide);have CM:=fun (W:World) (hW:Below w.heap.size w W) (B:Option Addr) (k d:Nat) (B':Option Addr) (k' d':Nat) (h:RQ W ((qsum l:Int):Rat) B k d B' k' d')=>rcmpq_s (s:=7) (by decide) an an' _ false aA aA' B B' ak ac ak' ac' k d k' d' q _ W (hq.below hW) (h.qs hl3 (by decide));clear hl3;generalize qsum l=sl at *;generalize ((sl:Int):Rat)=qs at *;by_cases hneg:q<0
 ·have hsg:decide (sgnQ q<0)=true:=by
   have:=(num_ltW q).1 hneg;unfold sgnQ;rw [cmpI_lt this];decide
  generalize sgnQ q=sq at *;have SG:=Hj SG;have CC:=Hj CC;clear SM FI CM h hq hx hneg;go_enter Tryz.func155,Tryz.ntmps155
  go_wp2_with fail
  have hB0:=Blk.new w 42 #[.bool an,.slice aA ak ac,.bool an',.slice aA' ak' ac'];have hBW:Below w.heap.size w (w.alloc (.cells #[.bool an,.slice aA ak ac,.bool an',.slice aA' ak' ac'] 42)):=(Below.refl _ _).alloc (Nat.le_refl _) _;generalize w.alloc (.cells #[.bool an,.slice aA ak ac,.bool an',.slice aA' ak' ac'] 42)=W at *;refine (CC.out W hBW).mono ?_;rintro e w1 ⟨rfl,hb1⟩;have hB1:=hB0.below hb1 hB0.lt;have hBW1:Below w.heap.size w w1:=hBW.trans (hb1.mono hBW.size);have HBK:=Hj (show ∀ w',Kp w1 w'→Below w.heap.size w w' from fun w' hk=>hBW1.trans (Below.mono hk hBW1.size));clear hb1 hB0 hBW hBW1 CC
  go_wp2_with fail
  refine held_at (W:=w1) (C:=fun w'=>w'.cell? ⟨w.heap.size,0,none⟩=some (.bool an)∧w'.cell? ⟨w.heap.size,1,none⟩=some (.slice aA ak ac)∧w'.cell? ⟨w.heap.size,2,none⟩=some (.bool an')∧w'.cell? ⟨w.heap.size,3,none⟩=some (.slice aA' ak' ac')) (fun w' hk=>⟨(hk.blk hB1).cell 0,(hk.blk hB1).cell 1,(hk.blk hB1).cell 2,(hk.blk hB1).cell 3⟩) (Kp.refl w1) (fun HS hH0=>?_);refine tq 0 ?_;refine rd1 1 fun K hK=>?_
  (try simp only [p1,p2,p3])
  go_simp;have hk:=And.right ‹_∧Kp w1 _›;refine (SG.out _ (HBK.out _ hk)).mono ?_;rintro e v1 ⟨rfl,hbx⟩;have hp:Kp w1 v1:=Kp.trans hk hbx;clear hk hbx
  (try (go_wp2_with fail))
  refine hK.out _ _ (HS.out _ hp) fun hH1=>?_;clear hK K hH0
  (try simp only [Act.put,p1,p2,p3,p4,p5,p6])
  refine tq 2 ?_;refine tq 3 ?_;refine tu 4 ?_;refine tu 5 ?_;refine tu 6 ?_;refine tu 7 ?_;refine tu 8 ?_;refine tu 9 ?_;refine tq 10 ?_;refine wpAnyH_done (by kernel_rfl) ?_ _;clear hH1;have HF:=Hj (HBK.out _ hp);clear hp HS hB1;go_wp2;go_ret2;exact ⟨rfl,HF.out⟩
 ·have hsg:decide (sgnQ q<0)=false:=by
   have h1:¬ q.num<0:=fun hh=>hneg ((num_ltW q).2 hh);apply decide_eq_false;unfold sgnQ;rcases Int.lt_trichotomy q.num 0 with h2|h2|h2
   ·exact absurd h2 h1
   ·rw [h2];decide
   ·rw [cmpI_gt h2];decide
  have hcm:decide (0<cmpQ q qs)=true:=by
   apply decide_eq_true;rw [cmpQ_gt.2 (by rcases hx with hx|hx;exact absurd hx hneg;exact hx)];decide
  generalize sgnQ q=sq at *;generalize cmpQ q qs=cq at *;have SG:=Hj SG;have CC:=Hj CC;have SM:=Hj SM;have FI:=Hj FI;have CM:=Hj CM;clear h hq hx hneg;go_enter Tryz.func155,Tryz.ntmps155
  go_wp2_with fail
  have hB0:=Blk.new w 42 #[.bool an,.slice aA ak ac,.bool an',.slice aA' ak' ac'];have hBW:Below w.heap.size w (w.alloc (.cells #[.bool an,.slice aA ak ac,.bool an',.slice aA' ak' ac'] 42)):=(Below.refl _ _).alloc (Nat.le_refl _) _;generalize w.alloc (.cells #[.bool an,.slice aA ak ac,.bool an',.slice aA' ak' ac'] 42)=W at *;refine (CC.out W hBW).mono ?_;rintro e w1 ⟨rfl,hb1⟩;have hB1:=hB0.below hb1 hB0.lt;have hBW1:Below w.heap.size w w1:=hBW.trans (hb1.mono hBW.size);have HBK:=Hj (show ∀ w',Kp w1 w'→Below w.heap.size w w' from fun w' hk=>hBW1.trans (Below.mono hk hBW1.size));clear hb1 hB0 hBW hBW1 CC
  go_wp2_with fail
  refine held_at (W:=w1) (C:=fun w'=>w'.cell? ⟨w.heap.size,0,none⟩=some (.bool an)∧w'.cell? ⟨w.heap.size,1,none⟩=some (.slice aA ak ac)∧w'.cell? ⟨w.heap.size,2,none⟩=some (.bool an')∧w'.cell? ⟨w.heap.size,3,none⟩=some (.slice aA' ak' ac')) (fun w' hk=>⟨(hk.blk hB1).cell 0,(hk.blk hB1).cell 1,(hk.blk hB1).cell 2,(hk.blk hB1).cell 3⟩) (Kp.refl w1) (fun HS hH0=>?_);refine tq 0 ?_;refine rd1 1 fun K hK=>?_
  (try simp only [p1,p2,p3])
  go_simp;have hk:=And.right ‹_∧Kp w1 _›;refine (SG.out _ (HBK.out _ hk)).mono ?_;rintro e v1 ⟨rfl,hbx⟩;have hp:Kp w1 v1:=Kp.trans hk hbx;clear hk hbx
  (try (go_wp2_with fail))
  refine hK.out _ _ (HS.out _ hp) fun hH2=>?_;clear hK K hH0
  (try simp only [Act.put,p1,p2,p3,p4,p5,p6])
  refine tq 2 ?_;refine tq 3 ?_;refine tq 4 ?_;refine tq 5 ?_;refine rd1 6 fun K hK=>?_
  (try simp only [p1,p2,p3])
  go_simp;have hk:=And.right ‹_∧Kp w1 _›;refine (SM.out _ (HBK.out _ hk)).mono ?_;rintro e v2 ⟨rfl,hbx⟩;have hp:Kp w1 v2:=Kp.trans hk hbx;clear hk hbx
  (try (go_wp2_with fail))
  refine hK.out _ _ (HS.out _ hp) fun hH3=>?_;clear hK K hH2
  (try simp only [Act.put,p1,p2,p3,p4,p5,p6])
  refine rd1 7 fun K hK=>?_
  (try simp only [p1,p2,p3])
  go_simp;have hk:=And.right ‹_∧Kp w1 _›;refine (FI.out _).mono ?_;rintro e v3 ⟨A3,k3,c3,A4,k4,c4,rfl,hk3,hk4,hW3,hW4,-,-,hbx⟩;have hp:Kp w1 v3:=Kp.trans hk hbx;have hrq:=(show RQ v3 qs A3 k3 c3 A4 k4 c4 from ⟨hk3,hk4,hW3,hW4⟩);clear hk hbx hk3 hk4 hW3 hW4
  (try (go_wp2_with fail))
  refine hK.out _ _ (HS.out _ hp) fun hH4=>?_;clear hK K hH3
  (try simp only [Act.put,p1,p2,p3,p4,p5,p6])
  refine rd1 8 fun K hK=>?_
  (try simp only [p1,p2,p3])
  go_simp;have hk:=And.right ‹_∧Kp w1 _›;refine (CM.out _ (HBK.out _ hk) _ _ _ _ _ _ hrq).mono ?_;rintro e v4 ⟨rfl,hbx⟩;have hp:Kp w1 v4:=Kp.trans hk hbx;clear hk hbx hrq
  (try (go_wp2_with fail))
  refine hK.out _ _ (HS.out _ hp) fun hH5=>?_;clear hK K hH4
  (try simp only [Act.put,p1,p2,p3,p4,p5,p6])
  refine tq 9 ?_;refine tq 10 ?_;refine wpAnyH_done (by kernel_rfl) ?_ _;clear hH5;have HF:=Hj (HBK.out _ hp);clear hp HS hB1;go_wp2;go_ret2;exact ⟨rfl,HF.out⟩
end Go.Proofs.YtjajigkacccdgaaGreat
namespace Go.Proofs.YtjajigkacccdgaaGreat
open Go.RowKit
open Wd
attribute [local go_sem ↓] Go.wp_at_zero Go.wp_at_succ
def TotR (w:World) (g g':Nat) (m s:Rat) (A:Option Addr) (j c:Nat) (A':Option Addr) (j' c':Nat) (B:Option Addr) (i d:Nat) (B':Option Addr) (i' d':Nat) (wr:World):Prop :=
 Below w.heap.size w wr∧Blk wr g 42 #[.bool (decide ((m).num<0)),.slice A j c,.bool false,.slice A' j' c']∧CQ w.heap.size wr m A j c A' j' c'∧Blk wr g' 42 #[.bool (decide ((s).num<0)),.slice B i d,.bool false,.slice B' i' d']∧CQ w.heap.size wr s B i d B' i' d'
section
variable {w wr:World} {g g':Nat} {m s:Rat} {A A' B B':Option Addr} {j c j' c' i d i' d':Nat}
theorem TotR.call {w':World} (h:TotR w g g' m s A j c A' j' c' B i d B' i' d' wr) (hb:Below wr.heap.size wr w'):TotR w g g' m s A j c A' j' c' B i d B' i' d' w' :=
 ⟨h.1.trans (hb.mono h.1.size),h.2.1.below hb h.2.1.lt,h.2.2.1.below hb,h.2.2.2.1.below hb h.2.2.2.1.lt,h.2.2.2.2.below hb⟩
theorem TotR.put1 {m2:Rat} {A2 A2':Option Addr} {j2 c2 j2' c2':Nat} (h:TotR w g g' m s A j c A' j' c' B i d B' i' d' wr) (hg:w.heap.size≤g) (hne:g'≠g) (h2:CQ w.heap.size wr m2 A2 j2 c2 A2' j2' c2') :
  TotR w g g' m2 s A2 j2 c2 A2' j2' c2' B i d B' i' d' ((((wr.setCell ⟨g,0,none⟩ (.bool (decide ((m2).num<0)))).setCell ⟨g,1,none⟩ (.slice A2 j2 c2)).setCell ⟨g,2,none⟩ (.bool false)).setCell ⟨g,3,none⟩ (.slice A2' j2' c2')):=by
 have e:((((wr.setCell ⟨g,0,none⟩ (.bool (decide ((m2).num<0)))).setCell ⟨g,1,none⟩ (.slice A2 j2 c2)).setCell ⟨g,2,none⟩ (.bool false)).setCell ⟨g,3,none⟩ (.slice A2' j2' c2'))=qst wr g 0 (decide (m2.num<0)) false A2 A2' j2 c2 j2' c2':=rfl;rw [e];exact ⟨below_qst h.1 hg,h.2.1.put4,h2.put4 h.2.1 NoInt.four,h.2.2.2.1.far4 hne,h.2.2.2.2.put4 h.2.1 NoInt.four⟩
theorem TotR.put2 {s2:Rat} {B2 B2':Option Addr} {i2 d2 i2' d2':Nat} (h:TotR w g g' m s A j c A' j' c' B i d B' i' d' wr) (hg:w.heap.size≤g') (hne:g≠g') (h2:CQ w.heap.size wr s2 B2 i2 d2 B2' i2' d2') :
  TotR w g g' m s2 A j c A' j' c' B2 i2 d2 B2' i2' d2' ((((wr.setCell ⟨g',0,none⟩ (.bool (decide ((s2).num<0)))).setCell ⟨g',1,none⟩ (.slice B2 i2 d2)).setCell ⟨g',2,none⟩ (.bool false)).setCell ⟨g',3,none⟩ (.slice B2' i2' d2')):=by
 have e:((((wr.setCell ⟨g',0,none⟩ (.bool (decide ((s2).num<0)))).setCell ⟨g',1,none⟩ (.slice B2 i2 d2)).setCell ⟨g',2,none⟩ (.bool false)).setCell ⟨g',3,none⟩ (.slice B2' i2' d2'))=qst wr g' 0 (decide (s2.num<0)) false B2 B2' i2 d2 i2' d2':=rfl;rw [e];exact ⟨below_qst h.1 hg,h.2.1.far4 hne,h.2.2.1.put4 h.2.2.2.1 NoInt.four,h.2.2.2.1.put4,h2.put4 h.2.2.2.1 NoInt.four⟩
end
theorem ls_zero (s:Nat) (hs:1≤s):Ls s (0:Rat):=by
 have h1:WB 1≤WB s:=wb_mono hs;have h2:WB 1=4294967296:=rfl;refine ⟨?_,?_⟩
 ·show 0<WB s;omega
 ·show 1<WB s;omega
theorem costAt_ls {s:Nat} {l:List (Int×Int)} {q:Rat} (hp:∀ k,k<l.length→Ls s (partAt l q k)) (hpr:∀ x∈l,x.2.natAbs≤18446744073709551616):∀ k,k≤l.length→Ls (k*(s+6)+1) (costAt l q k)
 | 0,_=>ls_zero _ (by omega)
 | k+1,hk=>by
  have ih:=costAt_ls hp hpr k (by omega);have h1:=(hp k (by omega)).mul (ls_int (Nat.le_refl 3) (hpr _ (getD_mem (d:=(0,0)) (show k<l.length by omega))));rw [costAt];exact (ih.add h1).mono (by rw [Nat.succ_mul];omega)
theorem bad_price {l:List (Int×Int)} (hok:∀ s∈l,¬ Bad s.1 s.2):∀ x∈l,x.2.natAbs≤18446744073709551616:=fun x hx=>by
 have:=hok x hx;unfold Bad at this;omega
theorem pick_lt {α:Type} (d:α) {n:Nat} {P:Nat→α→Prop} (h:∀ j,j<n→∃ x,P j x):∃ F:Nat→α,∀ j,j<n→P j (F j):=by
 classical
 exact ⟨fun j=>if hj:j<n then (h j hj).choose else d,fun j hj=>by simp only [dif_pos hj];exact (h j hj).choose_spec⟩
theorem QsS.raw {s:Nat} {w:World} {A:Option Addr} {n:Nat} {ps:List Rat} (h:QsS s w A n ps):∃ es:List QE,QsAtR w A n es∧∀ j,j<n→QS s w (es[j]?.getD QE0).1 (es[j]?.getD QE0).2.1.1 (es[j]?.getD QE0).2.1.2.1 (es[j]?.getD QE0).2.1.2.2 (es[j]?.getD QE0).2.2.1 (es[j]?.getD QE0).2.2.2.1 (es[j]?.getD QE0).2.2.2.2.1 (es[j]?.getD QE0).2.2.2.2.2 (ps[j]?.getD 0):=by
 by_cases hn:n=0
 ·subst hn;exact ⟨[],⟨rfl,fun h0=>absurd rfl h0⟩,fun j hj=>absurd hj (by omega)⟩
 ·obtain ⟨b,o,rfl,hb,hc⟩:=h.2 hn;have each:∀ j,j<n→∃ e:QE,(w.cell? ⟨b,o+j*4,none⟩=some (.bool e.1)∧w.cell? ⟨b,o+j*4+1,none⟩=some (.slice e.2.1.1 e.2.1.2.1 e.2.1.2.2)∧w.cell? ⟨b,o+j*4+2,none⟩=some (.bool e.2.2.1)∧w.cell? ⟨b,o+j*4+3,none⟩=some (.slice e.2.2.2.1 e.2.2.2.2.1 e.2.2.2.2.2)) ∧
    QS s w e.1 e.2.1.1 e.2.1.2.1 e.2.1.2.2 e.2.2.1 e.2.2.2.1 e.2.2.2.2.1 e.2.2.2.2.2 (ps[j]?.getD 0):=fun j hj=>by
   obtain ⟨an,aA,ak,ac,an',aA',ak',ac',h1,h2,h3,h4,h5⟩:=hc j hj;exact ⟨(an,(aA,ak,ac),an',(aA',ak',ac')),⟨h1,h2,h3,h4⟩,h5⟩
  obtain ⟨F,hF⟩:=pick_lt QE0 each;have e1:∀ j,j<n→((List.range n).map F)[j]?.getD QE0=F j:=fun j hj=>by simp [hj]
  exact ⟨(List.range n).map F,⟨by simp,fun _=>⟨b,o,rfl,hb,fun j hj=>by rw [e1 j hj];exact (hF j hj).1⟩⟩,fun j hj=>by rw [e1 j hj];exact (hF j hj).2⟩
end Go.Proofs.YtjajigkacccdgaaGreat
namespace Go.Proofs.YtjajigkacccdgaaGreat
open Go.RowKit
open Wd
def PyI (g:Nat) (V:World) (ms:List Rat) (sm:Rat) (i:Nat) (Ah:Option Addr) (ch:Nat) (es:List QEnt) (wr:World):Prop :=
 Below g V wr∧Own V.heap.size 42 4 wr Ah i ch (qCells es)∧QEnts Ah ms wr i es∧∃ A k c A' k' c',Blk wr g 42 #[.bool (decide (sm.num<0)),.slice A k c,.bool false,.slice A' k' c']∧RQ wr sm A k c A' k' c'∧Off Ah A k∧Off Ah A' k'
theorem QEnts.put4 {B:Option Addr} {ps:List Rat} {w:World} {i g o:Nat} {es:List QEnt} {a b:Bool} {X X':Option Addr} {j d j' d':Nat} {t:TypeId} {cs:Array Value} (h:QEnts B ps w i es) (hb:Blk w g t cs) (hn:NoInt cs):QEnts B ps (qst w g o a b X X' j d j' d') i es :=
 ⟨h.1,fun k hk=>⟨(h.2 k hk).1,(h.2 k hk).2.1.put4 hb hn,(h.2 k hk).2.2⟩⟩
theorem Own.put4 {base g o:Nat} {e:TypeId} {size n c:Nat} {w:World} {A:Option Addr} {xs:List Value} {a b:Bool} {X X':Option Addr} {j d j' d':Nat} (h:Own base e size w A n c xs) (hg:g<base):Own base e size (qst w g o a b X X' j d j' d') A n c xs :=
 (((h.aside (p:=⟨g,o,none⟩) hg _).aside (p:=⟨g,o+1,none⟩) hg _).aside (p:=⟨g,o+2,none⟩) hg _).aside (p:=⟨g,o+3,none⟩) hg _
def partsA (l:List (Int×Int)) (q:Rat) (n:Nat):List Rat:=(List.range n).map (partAt l q)
theorem partsA_len (l:List (Int×Int)) (q:Rat) (n:Nat):(partsA l q n).length=n:=by simp [partsA]
theorem partsA_get {l:List (Int×Int)} {q:Rat} {n j:Nat} (h:j<n):(partsA l q n)[j]?.getD 0=partAt l q j:=by simp [partsA,h]
end Go.Proofs.YtjajigkacccdgaaGreat
namespace Go.Proofs.YtjajigkacccdgaaGreat
open Go.RowKit
open Wd
attribute [local go_sem ↓] Go.wp_at_zero Go.wp_at_succ
end Go.Proofs.YtjajigkacccdgaaGreat
namespace Go.Proofs.YtjajigkacccdgaaGreat
open Go.RowKit
open Wd
theorem curve_good {up:Bool} {l:List (Int×Int)} (h:chk up l=0):curveE l=0:=by
 cases up
 ·unfold curveE;rw [if_pos h]
 ·unfold curveE;split
  ·rfl
  ·exact h
theorem qsum_aT (l:List (Int×Int)):qsum l=aT l:=by
 unfold qsum aT
 induction l with
 | nil=>rfl
 | cons s l ih=>rw [List.map_cons,List.sum_cons,sumI,ih]
theorem costs_bd {up:Bool} {ls:List (List (Int×Int))} (hk:∀ l∈ls,chk up l=0) {xs:List Int} (hx:∀ i,i<ls.length→0≤xs[i]?.getD 0∧xs[i]?.getD 0≤qsum (ls[i]?.getD [])):∀ k,k≤ls.length→(costs ls xs k).natAbs≤9000000000000*k
 | 0,_=>by simp [costs]
 | k+1,h=>by
  have ih:=costs_bd hk hx k (by omega);obtain ⟨h1,h2⟩:=hx k (by omega);have:=cst_bd (curve_good (hk _ (getD_mem (d:=[]) (show k<ls.length by omega)))) h1 h2;rw [costs,costI_all];omega
def goodA (ls:List (List (Int×Int))) (gs:List Rat):Prop:=∀ i,i<ls.length→0≤gs[i]?.getD 0∧gs[i]?.getD 0≤((qsum (ls[i]?.getD []):Int):Rat)
def moneyA (ls:List (List (Int×Int))) (gs:List Rat) (k:Nat):Rat:=sumF (fun i=>costAt (ls[i]?.getD []) (gs[i]?.getD 0) (ls[i]?.getD []).length) k
def qtyA (gs:List Rat) (k:Nat):Rat:=sumF (fun i=>gs[i]?.getD 0) k
theorem qtyA_ls {s:Nat} {gs:List Rat} {n:Nat} (h:∀ j,j<n→Ls s (gs[j]?.getD 0)):∀ k,k≤n→Ls (k*(s+1)+1) (qtyA gs k)
 | 0,_=>ls_zero _ (by omega)
 | k+1,hk=>by
  have ih:=qtyA_ls h k (by omega);unfold qtyA at ih ⊢;rw [sumF];exact (ih.add (h k (by omega))).mono (by rw [Nat.succ_mul];omega)
theorem cost_ls {s:Nat} (hs:3≤s) {l:List (Int×Int)} {q:Rat} (he:curveE l=0) (h0:0≤q) (hq:Ls s q):Ls (3*(s+6)+1) (costAt l q l.length):=by
 obtain ⟨hn0,hn3,hok⟩:=curve_ok he;have h3:=wb_three;have h3s:=wb_mono hs;exact (costAt_ls (fun k hk=>partAt_bd h0 hok hq.1 hq.2 (by omega) (by omega) hk) (bad_price hok) _ (Nat.le_refl _)).mono (by have:=Nat.mul_le_mul_right (s+6) hn3;omega)
theorem moneyA_ls {s:Nat} (hs:3≤s) {ls:List (List (Int×Int))} {gs:List Rat} {n:Nat} (he:∀ j,j<n→curveE (ls[j]?.getD [])=0) (h0:∀ j,j<n→0≤gs[j]?.getD 0) (h:∀ j,j<n→Ls s (gs[j]?.getD 0)):∀ k,k≤n→Ls (k*(3*(s+6)+2)+1) (moneyA ls gs k)
 | 0,_=>ls_zero _ (by omega)
 | k+1,hk=>by
  have ih:=moneyA_ls hs he h0 h k (by omega);unfold moneyA at ih ⊢;rw [sumF];exact (ih.add (cost_ls hs (he k (by omega)) (h0 k (by omega)) (h k (by omega)))).mono (by rw [Nat.succ_mul k];omega)
open Classical in
noncomputable def wfE (os bs:List (List (Int×Int))) (gs ts:List Rat):Int :=
 if ckB os bs≠0 then ckB os bs else if gs.length≠os.length∨ts.length≠bs.length then 3 else if ¬ goodA os gs∨¬ goodA bs ts then 1 else if qtyA gs os.length≠qtyA ts bs.length then 10 else 0
def wfV (os bs:List (List (Int×Int))) (gs ts:List Rat):Rat:=moneyA bs ts bs.length-moneyA os gs os.length
end Go.Proofs.YtjajigkacccdgaaGreat
namespace Go.Proofs.YtjajigkacccdgaaGreat
open Go.ChangeShapes Go.WideShapes Go.ChangeAt Go.RowKit Go.Deep
open Wd
theorem own:ownKnob Tryz.prog.godebug=none:=by kernel_rfl
theorem laidOut:laidOutB Tryz.prog=true:=by kernel_rfl
theorem cells_int64:Tryz.prog.cellsOf 2 = 1:=by kernel_rfl
theorem cells_steps:Tryz.prog.cellsOf 29 = 1:=by kernel_rfl
theorem cells_step:Tryz.prog.cellsOf 107 = 2:=by kernel_rfl
theorem fits_of {z:Int} (h:(Lit.int .i64 z).wf=true):Fits z:=by
 simp [Lit.wf,IntKind.min,IntKind.max,IntKind.signed,IntKind.bits] at h;unfold Fits;omega
theorem drop_one {α:Type} {l:List α} {o:Nat} {v:α} (h:(l.drop o).take 1=[v]):l[o]?=some v:=by
 have h0:((l.drop o).take 1)[0]?=some v:=by rw [h];rfl
 simpa using h0
theorem addr_plus (b o k:Nat):(⟨b,o,none⟩:Addr).add k=⟨b,o+k,none⟩:=by
 unfold Addr.add;split
 ·rename_i h;rw [h];rfl
 ·rfl
section
variable {H:Type} {enc:TypeId×Value→H} {W:World}
theorem plain_addr {a:Addr} {v:Value} (h:W.cell? a=some v):a=⟨a.block,a.off,none⟩∧a.block<W.heap.size:=by
 have h1:=World.cell?_spot h;have h2:=World.block_lt_of_cell? W a h;obtain ⟨b,o,s⟩:=a;simp only at h1 h2 ⊢;exact ⟨by rw [h1],h2⟩
theorem field_int {cs:List Value} {xs:List (DataW H×List MemPlace)} {n:Nat} {t:TypeId} {o j:Nat} (hu:Tryz.prog.underlying t=some (.int .i64)) (hc:Tryz.prog.cellsOf t=1) (hj:j<xs.length)
  (h:DataW.trod enc Tryz.prog W 0 (fun _=>true) true n t ((cs.drop o).take (Tryz.prog.cellsOf t))=xs[j]?):∃ z,cs[o]?=some (.int .i64 z)∧Fits z:=by
 rw [hc,List.getElem?_eq_getElem hj] at h;obtain ⟨z,hz,_,hw⟩:=DataW.trod_int hu h;exact ⟨z,drop_one hz,fits_of hw⟩
theorem st_of {fuel:Nat} {cs:List Value} {x:DataW H×List MemPlace} (h:DataW.trod enc Tryz.prog W 0 (fun _=>true) true fuel 29 cs=some x):∃ A n c l,cs=[.slice A n c]∧StAt W A n l:=by
 rcases open_slice Tryz.underlying29 h with ⟨rfl,_⟩|⟨a,len,cap,m,n,D,Pl,rfl,_,hl,_,hmm,_,hi⟩
 ·exact ⟨none,0,0,[],rfl,rfl,by simp,fun h=>absurd rfl h⟩
 ·simp only [if_true] at hmm;have each:∀ i,i<len→∃ s:Int×Int,(Fits s.1∧Fits s.2)∧W.cell? (a.add (i*2))=some (.int .i64 s.1)∧W.cell? (a.add (i*2+1))=some (.int .i64 s.2):=by
   intro i hil;obtain ⟨cs',hc,ht⟩:=hi i (by omega);rw [cells_step] at hc;obtain ⟨xs,k,_,_,_,hxl,hf⟩:=DataW.trod_struct Tryz.underlying107 ht;have hxl2:xs.length=2:=hxl;obtain ⟨_,hcl,hcell⟩:=World.cells?_some hc;obtain ⟨q,hq,fq⟩:=field_int (t:=2) (o:=0) (j:=0) Tryz.underlying2 cells_int64 (by omega) (hf 0 _ rfl);obtain ⟨p,hp,fp⟩:=field_int (t:=2) (o:=1) (j:=1) Tryz.underlying2 cells_int64 (by omega) (hf 1 _ rfl);refine ⟨(q,p),⟨fq,fp⟩,?_,?_⟩
   ·have:=hcell 0 (by omega);rw [hq] at this;exact this
   ·have:=hcell 1 (by omega);rw [hp] at this;rw [← add_add];exact this
  obtain ⟨F,hF⟩:=choose_lt each;refine ⟨some a,len,cap,(List.range len).map F,rfl,by simp,?_,fun hn=>?_⟩
  ·intro s hs;obtain ⟨i,hi',rfl⟩:=List.mem_map.1 hs;exact (hF i (List.mem_range.1 hi')).1
  ·have h0:=(hF 0 (by omega)).2.1;obtain ⟨e,hb⟩:=plain_addr h0;have hsp:a.spot=none:=by have:=congrArg Addr.spot e;simpa [Addr.add] using this
   have ea:a=⟨a.block,a.off,none⟩:=by obtain ⟨b,o,s⟩:=a;simp only at hsp ⊢;rw [hsp]
   refine ⟨a.block,a.off,by rw [← ea],by simpa [Addr.add] using hb,fun j hj=>?_⟩;have e1:((List.range len).map F)[j]?.getD (0,0)=F j:=by simp [hj]
   obtain ⟨_,c1,c2⟩:=hF j hj;rw [ea,addr_plus] at c1 c2;rw [e1];exact ⟨c1,c2⟩
theorem css_of {fuel:Nat} {cs:List Value} {x:DataW H×List MemPlace} (h:DataW.trod enc Tryz.prog W 0 (fun _=>true) true fuel 22 cs=some x):∃ A n c ls,cs=[.slice A n c]∧CsAt W A n ls:=by
 rcases open_slice1 Tryz.underlying22 cells_steps h with ⟨rfl,_⟩|⟨a,len,cap,m,n,V,D,Pl,rfl,_,hl,_,hmm,_,hi⟩
 ·exact ⟨none,0,0,[],rfl,rfl,fun h=>absurd rfl h⟩
 ·simp only [if_true] at hmm;have each:∀ i,i<len→∃ l:List (Int×Int),∃ A' n' c',W.cell? (a.add i)=some (.slice A' n' c')∧StAt W A' n' l:=by
   intro i hil;obtain ⟨hc,ht⟩:=hi i (by omega);obtain ⟨A',n',c',l,hl',hst⟩:=st_of ht;exact ⟨l,A',n',c',by rw [hc];simpa using hl',hst⟩
  obtain ⟨F,hF⟩:=choose_lt each;refine ⟨some a,len,cap,(List.range len).map F,rfl,by simp,fun hn=>?_⟩;obtain ⟨_,_,_,h0,_⟩:=hF 0 (by omega);obtain ⟨e,hb⟩:=plain_addr h0;have hsp:a.spot=none:=by have:=congrArg Addr.spot e;simpa [Addr.add] using this
  have ea:a=⟨a.block,a.off,none⟩:=by obtain ⟨b,o,s⟩:=a;simp only at hsp ⊢;rw [hsp]
  refine ⟨a.block,a.off,by rw [← ea],by simpa [Addr.add] using hb,fun j hj=>?_⟩;have e1:((List.range len).map F)[j]?.getD []=F j:=by simp [hj]
  obtain ⟨A',n',c',c1,hs⟩:=hF j hj;rw [ea,addr_plus] at c1;rw [e1];exact ⟨A',n',c',c1,hs⟩
end
section
variable {H:Type} {enc:TypeId×Value→H} {P:Program} {W:World}
theorem args_stay (hlo:laidOutB P=true) {W':World} (hb:Below W.heap.size W W') (sp:Nat→Bool):∀ {ts:List TypeId} {vs:List Value} {ds:List (DataW H)} {ps:List MemPlace},
  (∀ t∈ts,P.readableRec t=true∧t<P.types.size)→DataW.TrodAll enc P W 0 (fun _=>true) true ts vs ds ps→(∀ p∈ps,p.block<W.heap.size)→(∀ p∈ps,sp p.block=true) →
  DataW.TrodAll enc P W' 0 sp true ts vs ds ps
 | [],_,_,_,_,h,_,_=>by obtain ⟨rfl,rfl,rfl⟩:=trodAll_nil h;exact trodAll_mk0
 | t :: ts,_,_,_,hr,h,hlt,hs=>by
  obtain ⟨v,vs',d,ds',p,q,rfl,rfl,rfl,h1,h2⟩:=trodAll_cons h;have hr1:=hr t (List.mem_cons_self ..);exact trodAll_cons_mk (WideElems.Trod_stays hlo hr1.1 hr1.2 h1 (fun x hx=>hb.same (hlt x (List.mem_append_left _ hx))) (fun x hx=>hs x (List.mem_append_left _ hx)))
   (args_stay hlo hb sp (fun y hy=>hr y (List.mem_cons_of_mem _ hy)) h2 (fun x hx=>hlt x (List.mem_append_right _ hx)) (fun x hx=>hs x (List.mem_append_right _ hx)))
theorem post_true (hlo:laidOutB P=true) {f:Func} {s:ChangeSpec} {W':World} {args:Array Value} {ds:List (DataW H)} {before:List MemPlace} {tb:TypeId} (hbool:P.underlying tb=some .bool) (hv:s.vars=[]) (hr1:f.resultTypes=#[tb])
  (hr:∀ t∈f.params.toList,P.readableRec t=true∧t<P.types.size)
  (hW:DataW.Whole enc P f.params.toList s.vars false W args.toList ds [] before) (hres:(s.fn H (ds ++ [])).results=[.lit (.bool true)]) (hargs:(s.fn H (ds ++ [])).args=ds) (hvars:(s.fn H (ds ++ [])).vars=[]) (hb:Below W.heap.size W W') :
  s.post enc P f false true false false W args (.bool true) W':=by
 have hW':=hW;obtain ⟨p,q,hA,hV,rfl,hz,hn⟩:=hW;rw [hv] at hV;obtain ⟨_,rfl⟩:=trodVars_none hV;have hlt:∀ x∈p ++ [],x.block<W.heap.size:=fun x hx=>hW'.lt x hx;have hlt':∀ x∈p,x.block<W.heap.size:=fun x hx=>hlt x (by simpa using hx);have hold:∀ x∈p,(fun b=>decide (b<W.heap.size)) x.block=true:=fun x hx=>by simpa using hlt' x hx
 have hRes:∀ (b:Nat) (sp:Nat→Bool) (hd:Bool),DataW.TrodAll enc P W' b sp hd f.resultTypes.toList ((Value.bool true).resultList f.resultTypes.size) (s.fn H (ds ++ [])).results []:=fun b sp hd=>by
  rw [hres,hr1];exact trodAll_cons_mk (shut_bool hbool true) trodAll_mk0
 have hArg:∀ sp:Nat→Bool,(∀ x∈p,sp x.block=true)→DataW.TrodAll enc P W' 0 sp true f.params.toList args.toList (s.fn H (ds ++ [])).args p:=fun sp hsp=>by
  rw [hargs];exact args_stay hlo hb sp hr hA hlt' hsp
 have hVar:∀ sp:Nat→Bool,DataW.TrodVars enc P W' sp s.vars (s.fn H (ds ++ [])).vars []:=fun sp=>by
  rw [hv,hvars];rfl
 refine ⟨ds,[],p ++ [],[],p,[],hW',hRes _ _ _,hArg _ (by simpa using hold),hVar _,World.keptBut_mono (fun x hx=>⟨hx,?_⟩) (hb.frame (·∈p ++ [])),fun _=>?_⟩
 ·exact Or.inr (by simpa using hx)
 ·refine ⟨ok_one hr1 rfl (okWide_bool_mk hbool _),_,_,([] ++ p) ++ [],⟨[] ++ p,[],trodAll_append (hArg _ (fun _ _=>rfl)) (hRes _ _ _),hVar _,rfl,?_,?_⟩,?_⟩
  ·intro b off hp;have hin:MemPlace.cell b off∈p ++ []:=by simpa using hp
   rw [hb.frozen (hlt _ hin)];exact hz b off hin
  ·intro ha;cases ha
  ·intro x hx _;simpa using hx
end
theorem rowed {P:Program} {ps:Array TypeId} (h:(ps.toList.all fun t=>P.readableRec t && decide (t<P.types.size))=true):∀ t∈ps.toList,P.readableRec t=true∧t<P.types.size:=by
 intro t ht;have:=List.all_eq_true.1 h t ht;simpa using this
section
variable {H:Type} {enc:TypeId×Value→H} {W:World}
end
section
variable {H:Type} {enc:TypeId×Value→H} {W:World}
end
end Go.Proofs.YtjajigkacccdgaaGreat
namespace Go.Proofs.YtjajigkacccdgaaGreat
open Go.RowKit
open Wd
theorem sz_drewS (w:World):w.drew.heap.size=w.heap.size:=rfl
theorem blk_hereS {V X:World} (h:Kp V X) (t:TypeId) (cs:Array Value):Blk (X.alloc (.cells cs t)) X.heap.size t cs:=Blk.new X t cs
end Go.Proofs.YtjajigkacccdgaaGreat
