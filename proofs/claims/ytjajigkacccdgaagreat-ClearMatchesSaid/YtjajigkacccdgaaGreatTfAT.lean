/-
Lemmas of the walk; no further conditions.
-/
import Derived.Test.YtjajigkacccdgaaGreatTfAS
set_option linter.unusedVariables false
set_option linter.unusedSimpArgs false
set_option maxRecDepth 100000
set_option maxHeartbeats 16000000
namespace Go.Proofs.YtjajigkacccdgaaGreat
open Go.RowKit
open Wd
theorem curve25_any (A:Option Addr) (n c:Nat) (xs:List Int) (w:World) (h:IsAt w A (2*n) xs) (hn:n≤1000000) (hf:∀ i:Nat,Fits (xs[i]?.getD 0)) :
  Calls Tryz.prog 60 #[.slice A ((2*n:Nat)) c] w fun e w'=>∃ A1 c1,e=.returned (.slice A1 n c1)∧StAt w' A1 n (prs xs n)∧Below w.heap.size w w':=by
 have HX:=Hj h;have HFT:=Hj hf;obtain ⟨ii,hii,hz0,hz1,hz2⟩:=info_parts info_step;have HI:=Hj hii;have HZ0:=Hj hz0;have HZ1:=Hj hz1;have HZ2:=Hj hz2;generalize hN:2*n=N at *;have HN:=Hj hN;clear h hf hii hz0 hz1 hz2 hN;go_enter Tryz.func60,Tryz.ntmps60
 go_wp2_with fail
 go_loopw [3,4] (fun th t wr=>∃ (i k:Nat) (Ah:Option Addr) (ch:Nat),i≤n∧t=.int .i64 (k:Int)∧th=.slice Ah i ch∧Hid (k=2*i)∧Hid (Below w.heap.size w wr∧Own w.heap.size 107 2 wr Ah i ch (stCells (prs xs i)))) (fun _ t _=>N+2-(intOf t).toNat)
 case atStart=>exact ⟨0,0,none,0,Nat.zero_le _,rfl,rfl,rfl,Below.refl _ _,Own.nil _ _ _ _⟩
 case round =>
  obtain ⟨i,k,Ah,ch,hi,rfl,rfl,hK,hR⟩:=hrel;have hki:=hK.out;have hN:=HN.out;have e0:IntKind.i64.wrap ((k:Int)+1)=(k:Int)+1:=IntWalk.i64_in _ (by omega);have e1:IntKind.i64.wrap ((k:Int)+2)=(k:Int)+2:=IntWalk.i64_in _ (by omega);by_cases hlt:i<n
  ·obtain ⟨hB,hO⟩:=hR.out;obtain ⟨g,o,rfl,hb,hc⟩:=HX.out.2 (by omega);have hc0:=hc k (by omega);have hc1:=hc (k+1) (by omega);have hsn:prs xs (i+1)=prs xs i ++ [(xs[k]?.getD 0,xs[k+1]?.getD 0)]:=by rw [hki];rfl
   have hlt1:((k:Int)+1<(N:Int)):=by omega
   have hlt2:((k:Int)<(N:Int)):=by omega
   have hlt3:((0:Int)≤(k:Int)):=by omega
   have hlt4:((0:Int)≤(k:Int)+1):=by omega
   have d1:decide ((k:Int)+1<(N:Int))=true:=decide_eq_true hlt1;have tn2:((k:Int)+1).toNat=k+1:=by omega
   generalize xs[k]?.getD 0=a at *;generalize xs[k+1]?.getD 0=b at *;have hS:∀ w',Below w.heap.size w w'→(w'.cell? ⟨g,o+k,none⟩=some (.int .i64 a)∧w'.cell? ⟨g,o+(k+1),none⟩=some (.int .i64 b))∧Below w.heap.size w w':=fun w' hk=>⟨⟨(hk.cell (p:=⟨g,_,none⟩) hb).trans hc0,(hk.cell (p:=⟨g,_,none⟩) hb).trans hc1⟩,hk⟩;have HS:=Hj hS;have HSN:=Hj hsn;have HNK:=Hj (show N=2*n∧k=2*i from ⟨hN.symm,hki⟩);have q0:=hB;have k1:=(Kp.refl wr).alloc (.cells #[.int .i64 a,.int .i64 b] 107);have q1:Below w.heap.size w (wr.alloc (.cells #[.int .i64 a,.int .i64 b] 107)):=hB.trans (Below.mono k1 hB.size);have o1:=hO.keep k1;have m1:=Blk.new wr 107 #[.int .i64 a,.int .i64 b];have hin:i≤1000000:=by omega
   clear hsn hc hc0 hc1 hR hN hki hK hS
   go_wp2_with fail
   go_region_held3 (fun w'=>(w'.cell? ⟨g,o+k,none⟩=some (.int .i64 a)∧w'.cell? ⟨g,o+(k+1),none⟩=some (.int .i64 b))∧Below w.heap.size w w')
    (first|exact HS.out _ g1|exact HS.out _ q0.drew|exact HS.out _ q1.drew)
    (first
     | (refine step_append_my (base:=w.heap.size) (e:=107) (size:=2) (bytes:=16) (by rfl) (.tmp 12) (.tmp 23) 29 rfl Tryz.underlying29 HI.out HZ0.out HZ1.out HZ2.out rfl (by decide) (xs:=stCells (prs xs i)) (news:=[.int .i64 a,.int .i64 b]) rfl (by exact o1) rfl (by exact Blk.src m1 rfl (stCells_one [(a,b)])) (by simp only [maxLen];omega) (by omega) (Below.size (w:=w) (B:=w.heap.size) (by exact q1.drew)) ?_
        intro B1 cb1 w1 hO1 hb1 hk1;have g1:Below w.heap.size w w1:=Below.trans (by exact q1.drew) hb1;clear hb1 hk1))
   have hfin:Below w.heap.size w w1∧Own w.heap.size 107 2 w1 B1 (i+1) cb1 (stCells (prs xs (i+1))):=by
    refine ⟨g1,?_⟩;rw [HSN.out,stCells_append];exact hO1
   have HF:=Hj hfin;clear hfin g1 hO1;go_wp2;go_roundw
   case rel=>exact ⟨i+1,k+2,B1,cb1,by omega,by go_num,rfl,(by have:=HNK.out;omega:k+2=2*(i+1)),HF.out⟩
   case measure =>
    have:=HNK.out;simp [intOf];omega
  ·obtain rfl:i=n:=by omega
   have d1:decide ((k:Int)+1<(N:Int))=false:=decide_eq_false (by omega);have hfin:StAt wr Ah i (prs xs i)∧Below w.heap.size w wr:=⟨hR.out.2.steps (prs_fits HFT.out _),hR.out.1⟩;have HF:=Hj hfin;clear hfin hR hN hki;go_wp2;go_ret;exact ⟨Ah,ch,rfl,HF.out⟩
theorem some25 (A:Option Addr) (n c:Nat) (w:World):Calls Tryz.prog 61 #[.slice A n c] w fun e w'=>e=.returned (.slice A n c)∧Below w.heap.size w w':=by
 go_enter Tryz.func61,Tryz.ntmps61;go_wp2;go_ret;exact ⟨rfl,Below.refl _ _⟩
theorem numbers_yes (A B:Option Addr) (n c d:Nat) (xs:List Int) (w:World) (h:IsAt w A n xs) (h':IsAt w B n xs) (hn:n≤1000000) :
  Calls Tryz.prog 109 #[.slice A n c,.slice B n d] w fun e w'=>e=.returned (.bool true)∧Below w.heap.size w w':=by
 have HX:=Hj h;have HY:=Hj h';have d0:((n:Int) != (n:Int))=false:=by simp
 clear h h';go_enter Tryz.func109,Tryz.ntmps109
 go_wp2_with fail
 go_loopw [5] (fun t wr=>∃ k:Nat,k≤n∧t=.int .i64 k∧Hid (Below w.heap.size w wr)) (fun t _=>n-(intOf t).toNat)
 case atStart=>exact ⟨0,Nat.zero_le _,rfl,Below.refl _ _⟩
 case round =>
  obtain ⟨k,hk,rfl,hB⟩:=hrel;by_cases hlt:k<n
  ·obtain ⟨b1,o1,rfl,hb1,hc1⟩:=HX.out.2 (by omega);obtain ⟨b2,o2,rfl,hb2,hc2⟩:=HY.out.2 (by omega);have c1:=(hB.out.cell (p:=⟨b1,o1+k,none⟩) hb1).trans (hc1 k hlt);have c2:=(hB.out.cell (p:=⟨b2,o2+k,none⟩) hb2).trans (hc2 k hlt);generalize xs[k]?.getD 0=x at *;have k1:(0:Int)≤(k:Int):=by omega
   have k2:(k:Int)<(n:Int):=by omega
   clear hc1 hc2
   go_wp2_with fail
   go_quiet (fail)
   go_wp2;go_roundw
   case rel=>exact ⟨k+1,by omega,by go_num,below_drewN hB.out _⟩
   case measure=>simp [intOf];omega
  ·obtain rfl:k=n:=by omega
   go_wp2;go_ret;exact ⟨rfl,hB.out⟩
theorem same25_yes (A1 A2 B1 B2:Option Addr) (n c1 c2 m d1 d2:Nat) (z p wf:Int) (xs ys:List Int) (w:World) (h1:IsAt w A1 n xs) (h2:IsAt w A2 n xs) (g1:IsAt w B1 m ys) (g2:IsAt w B2 m ys) (hn:n≤1000000) (hm:m≤1000000) :
  Calls Tryz.prog 49 #[.agg #[.int .i64 z,.int .i64 p,.int .i64 wf,.slice A1 n c1,.slice B1 m d1],.agg #[.int .i64 z,.int .i64 p,.int .i64 wf,.slice A2 n c2,.slice B2 m d2]] w fun e w'=>e=.returned (.bool true)∧Below w.heap.size w w':=by
 have HN1:=Hj (fun W (hW:Below w.heap.size w W)=>numbers_yes A1 A2 n c1 c2 xs W (h1.below hW) (h2.below hW) hn);have HN2:=Hj (fun W (hW:Below w.heap.size w W)=>numbers_yes B1 B2 m d1 d2 ys W (g1.below hW) (g2.below hW) hm);clear h1 h2 g1 g2;go_enter Tryz.func49,Tryz.ntmps49
 go_wp2_with fail
 have b1:=(Blk.new w 78 #[.int .i64 z,.int .i64 p,.int .i64 wf,.slice A1 n c1,.slice B1 m d1]).alloc (.cells #[.int .i64 z,.int .i64 p,.int .i64 wf,.slice A2 n c2,.slice B2 m d2] 78);have b2:=Blk.new1 w (.cells #[.int .i64 z,.int .i64 p,.int .i64 wf,.slice A1 n c1,.slice B1 m d1] 78) 78 #[.int .i64 z,.int .i64 p,.int .i64 wf,.slice A2 n c2,.slice B2 m d2];have hb0:Below w.heap.size w ((w.alloc (.cells #[.int .i64 z,.int .i64 p,.int .i64 wf,.slice A1 n c1,.slice B1 m d1] 78)).alloc (.cells #[.int .i64 z,.int .i64 p,.int .i64 wf,.slice A2 n c2,.slice B2 m d2] 78)):=((Below.refl _ _).alloc (Nat.le_refl _) _).alloc (by simp only [World.size_alloc];omega) _;generalize (w.alloc (.cells #[.int .i64 z,.int .i64 p,.int .i64 wf,.slice A1 n c1,.slice B1 m d1] 78)).alloc (.cells #[.int .i64 z,.int .i64 p,.int .i64 wf,.slice A2 n c2,.slice B2 m d2] 78)=W0 at *;refine (HN1.out W0 hb0).mono ?_;rintro e w1 ⟨rfl,hb1⟩;have k1:=(b1.below hb1 b1.lt).cell 4;have k2:=(b2.below hb1 b2.lt).cell 4;simp at k1 k2;have HB1:=Hj (hb0.trans (hb1.mono hb0.size));clear b1 b2 hb0 hb1 HN1
 go_wp2_with fail
 refine (HN2.out w1 HB1.out).mono ?_;rintro e w2 ⟨rfl,hb2⟩;have HB2:=Hj (HB1.out.trans (hb2.mono HB1.out.size));clear hb2 k1 k2;go_wp2;go_ret;exact ⟨rfl,HB2.out⟩
theorem PrZ.only {os bs:List (List (Int×Int))} {p p':Int} (h:PrZ os bs p) (h':PrZ os bs p'):p=p':=by
 have key:∀ {p p':Int},(absI p∈dists os bs∧balB os bs ((p:Int):Rat)=true)→(∀ d∈dists os bs,d<absI p'→balB os bs ((d:Int):Rat)=false∧balB os bs ((-d:Int):Rat)=false)→¬ absI p<absI p':=by
  intro p p' h1 h2 hlt;obtain ⟨e1,e2⟩:=h2 _ h1.1 hlt;have h3:=h1.2;unfold absI at e1 e2;split at e1
  ·rename_i hp
   rw [if_pos hp,Int.neg_neg] at e2;rw [h3] at e2;simp at e2
  ·rw [h3] at e1;simp at e1
 have none':∀ {p:Int},(absI p∈dists os bs∧balB os bs ((p:Int):Rat)=true)→(∀ d∈dists os bs,balB os bs ((d:Int):Rat)=false∧balB os bs ((-d:Int):Rat)=false)→False:=by
  intro p h1 h2;obtain ⟨e1,e2⟩:=h2 _ h1.1;have h3:=h1.2;unfold absI at e1 e2;split at e1
  ·rename_i hp
   rw [if_pos hp,Int.neg_neg] at e2;rw [h3] at e2;simp at e2
  ·rw [h3] at e1;simp at e1
 rcases h with ⟨a1,a2,a3,a4⟩|⟨a1,a2⟩
 ·rcases h' with ⟨b1,b2,b3,b4⟩|⟨b1,b2⟩
  ·have k1:=key ⟨a1,a2⟩ b3;have k2:=key ⟨b1,b2⟩ a3;by_cases hp:p<0
   ·by_cases hp':p'<0
    ·unfold absI at k1 k2;rw [if_pos hp,if_pos hp'] at k1 k2;omega
    ·unfold absI at k1 k2;rw [if_pos hp,if_neg hp'] at k1 k2;have e:p' = -p:=by omega
     rw [e,a4 hp] at b2;simp at b2
   ·by_cases hp':p'<0
    ·unfold absI at k1 k2;rw [if_neg hp,if_pos hp'] at k1 k2;have e:p = -p':=by omega
     rw [e,b4 hp'] at a2;simp at a2
    ·unfold absI at k1 k2;rw [if_neg hp,if_neg hp'] at k1 k2;omega
  ·exact (none' ⟨a1,a2⟩ b2).elim
 ·rcases h' with ⟨b1,b2,b3,b4⟩|⟨b1,b2⟩
  ·exact (none' ⟨b1,b2⟩ a2).elim
  ·rw [a1,b1]
theorem RunV.only {os bs:List (List (Int×Int))} {z p wf z' p' wf':Int} {xs ys xs' ys':List Int} {S D S' D':List St.Lv} (h:RunV os bs z p wf xs ys S D) (h':RunV os bs z' p' wf' xs' ys' S' D'):z=z'∧p=p'∧wf=wf'∧xs=xs'∧ys=ys':=by
 have e1:=h.isS.only h'.isS;have e2:=h.isD.only h'.isD;subst e1;subst e2;have e3:=h.tr.only h'.tr;subst e3;exact ⟨rfl,h.pr.only h'.pr,by rw [h.w,h'.w],by rw [h.x,h'.x],by rw [h.y,h'.y]⟩
theorem found_yes (A B A5 A6:Option Addr) (n c m d c5 c6:Nat) (os bs:List (List (Int×Int))) (z p wf:Int) (xs ys:List Int) (S D:List St.Lv) (w:World) (h:CsAt w A n os) (h':CsAt w B m bs) (h5:IsAt w A5 n xs) (h6:IsAt w A6 m ys) (hc:ckB os bs=0) (hr:RunV os bs z p wf xs ys S D) :
  Calls Tryz.prog 63 #[.slice A n c,.slice B m d,.int .i64 z,.int .i64 p,.int .i64 wf,.slice A5 n c5,.slice A6 m c6] w fun e w'=>e=.returned (.bool true)∧Below w.heap.size w w':=by
 have HRU:=Hj (run_ok A B n c m d os bs w h h' hc);have HRV:=Hj hr;have hk:=ckB_iff.1 hc;have hn:=h.1;have hm:=h'.1;have HSM:=Hj (fun W g1 g2 (hW:Below w.heap.size w W) (i1:IRow W g1 xs) (i2:IRow W g2 ys)=>same25_yes (some ⟨g1,0,none⟩) A5 (some ⟨g2,0,none⟩) A6 n n c5 m m c6 z p wf xs ys W (i1.at h5.1) (h5.below hW) (i2.at h6.1) (h6.below hW) (by omega) (by omega));subst hn;subst hm;clear h h' h5 h6 hc hr;go_enter Tryz.func63,Tryz.ntmps63
 go_wp2_with fail
 refine HRU.out.mono ?_;rintro e w1 ⟨z',p',wf',xs',ys',S',D',g1,g2,rfl,hv,hI1,hI2,-,-,hb1⟩;obtain ⟨rfl,rfl,rfl,rfl,rfl⟩:=hv.only HRV.out;have kx:=(Kp.refl w1).alloc (.cells #[.int .i64 z',.int .i64 p',.int .i64 wf',.slice (some ⟨g1,0,none⟩) os.length os.length,.slice (some ⟨g2,0,none⟩) bs.length bs.length] 81);have HB2:=Hj (hb1.trans (Below.mono kx hb1.size));have HS:=Hj (HSM.out _ g1 g2 HB2.out (hI1.below kx) (hI2.below kx));clear hv hI1 hI2 hb1 kx HSM HRU HRV
 go_wp2_with fail
 refine HS.out.mono ?_;rintro e w2 ⟨rfl,hb2⟩;have HB3:=Hj (HB2.out.trans (hb2.mono HB2.out.size));clear hb2;go_wp2;go_ret;exact ⟨rfl,HB3.out⟩
def sw (f:Int×Int→Int) (ls:List (List (Int×Int))):Int:=sumI (ls.map fun l=>sumI (l.map f))
theorem sumI_le {α:Type} {f g:α→Int}:∀ {l:List α},(∀ s∈l,f s≤g s)→sumI (l.map f)≤sumI (l.map g)
 | [],_=>Int.le_refl _
 | s :: l,h=>by
  have h1:=h s (List.mem_cons_self ..);have h2:=sumI_le (l:=l) fun y hy=>h y (List.mem_cons_of_mem _ hy);rw [List.map_cons,List.map_cons,sumI,sumI];omega
theorem sw_le {f g:Int×Int→Int} {ls:List (List (Int×Int))} (h:∀ l∈ls,∀ s∈l,f s≤g s):sw f ls≤sw g ls:=sumI_le fun l hl=>sumI_le (h l hl)
theorem sw_eq {f g:Int×Int→Int} {ls:List (List (Int×Int))} (h:∀ l∈ls,∀ s∈l,f s=g s):sw f ls=sw g ls :=
 Int.le_antisymm (sw_le fun l hl s hs=>Int.le_of_eq (h l hl s hs)) (sw_le fun l hl s hs=>Int.le_of_eq (h l hl s hs).symm)
def fL (side:Int) (q:Rat) (s:Int×Int):Int:=if cmpQ (s.2:Rat) q=side then s.1 else 0
def fM (side:Int) (q:Rat) (s:Int×Int):Int:=if cmpQ (s.2:Rat) q=side∨cmpQ (s.2:Rat) q=0 then s.1 else 0
theorem wsL_sw (side:Int) (q:Rat) (ls:List (List (Int×Int))):wsL side q ls=sw (fL side q) ls:=rfl
theorem wsM_sw (side:Int) (q:Rat) (ls:List (List (Int×Int))):wsM side q ls=sw (fM side q) ls:=rfl
theorem cmpQ_lt {a b:Rat}:cmpQ a b = -1↔a<b:=by
 unfold cmpQ;split
 ·simp_all
 ·split<;>simp_all
theorem cmpQ_gt {a b:Rat}:cmpQ a b=1↔b<a:=by
 unfold cmpQ;split
 ·rename_i h
  have:¬ b<a:=by grind
  simp [this]
 ·split<;>simp_all
theorem cmpQ_zero {a b:Rat}:cmpQ a b=0↔a=b:=by
 unfold cmpQ;split
 ·rename_i h
  have:¬ a=b:=by grind
  simp [this]
 ·split
  ·rename_i h
   have:¬ a=b:=by grind
   simp [this]
  ·have:a=b:=by grind
   simp [this]
def Pos (ls:List (List (Int×Int))):Prop:=∀ l∈ls,∀ s∈l,0≤s.1
theorem Pos.of {up:Bool} {ls:List (List (Int×Int))} (h:∀ l∈ls,chk up l=0):Pos ls:=fun l hl s hs=>by
 have:=(chk_ok (h l hl)).2.2.2 s hs;unfold Bad at this;omega
theorem up_L {ls:List (List (Int×Int))} (hp:Pos ls) {q r:Rat} (h:q≤r):wsL (-1) q ls≤wsL (-1) r ls:=sw_le fun l hl s hs=>by
 have h0:=hp l hl s hs;simp only [cmpQ_lt,cmpQ_zero];split
 ·rw [if_pos (by grind)];exact Int.le_refl _
 ·split<;>omega
theorem up_M {ls:List (List (Int×Int))} (hp:Pos ls) {q r:Rat} (h:q≤r):wsM (-1) q ls≤wsM (-1) r ls:=sw_le fun l hl s hs=>by
 have h0:=hp l hl s hs;simp only [cmpQ_lt,cmpQ_zero];split
 ·rw [if_pos (by grind)];exact Int.le_refl _
 ·split<;>omega
theorem dn_L {ls:List (List (Int×Int))} (hp:Pos ls) {q r:Rat} (h:q≤r):wsL 1 r ls≤wsL 1 q ls:=sw_le fun l hl s hs=>by
 have h0:=hp l hl s hs;simp only [cmpQ_gt,cmpQ_zero];split
 ·rw [if_pos (by grind)];exact Int.le_refl _
 ·split<;>omega
theorem dn_M {ls:List (List (Int×Int))} (hp:Pos ls) {q r:Rat} (h:q≤r):wsM 1 r ls≤wsM 1 q ls:=sw_le fun l hl s hs=>by
 have h0:=hp l hl s hs;simp only [cmpQ_gt,cmpQ_zero];split
 ·rw [if_pos (by grind)];exact Int.le_refl _
 ·split<;>omega
def LoB (os bs:List (List (Int×Int))) (q:Rat):Prop:=wsL (-1) q os≤wsM 1 q bs
def HiB (os bs:List (List (Int×Int))) (q:Rat):Prop:=wsL 1 q bs≤wsM (-1) q os
theorem balB_iff {os bs:List (List (Int×Int))} {q:Rat}:balB os bs q=true↔LoB os bs q∧HiB os bs q:=by simp [balB,LoB,HiB]
theorem LoB.down {os bs:List (List (Int×Int))} (ho:Pos os) (hb:Pos bs) {q r:Rat} (h:LoB os bs r) (hq:q≤r):LoB os bs q:=by
 have h1:=up_L ho hq;have h2:=dn_M hb hq;unfold LoB at *;omega
theorem HiB.up {os bs:List (List (Int×Int))} (ho:Pos os) (hb:Pos bs) {q r:Rat} (h:HiB os bs q) (hq:q≤r):HiB os bs r:=by
 have h1:=up_M ho hq;have h2:=dn_L hb hq;unfold HiB at *;omega
theorem bal_mid {os bs:List (List (Int×Int))} (ho:Pos os) (hb:Pos bs) {q r t:Rat} (h1:balB os bs q=true) (h2:balB os bs r=true) (hq:q≤t) (hr:t≤r):balB os bs t=true :=
 balB_iff.2 ⟨(balB_iff.1 h2).1.down ho hb hr,(balB_iff.1 h1).2.up ho hb hq⟩
def Gap (ls:List (List (Int×Int))) (q r:Rat):Prop:=∀ l∈ls,∀ s∈l,¬ (q<((s.2:Int):Rat)∧((s.2:Int):Rat)≤r)
def Gap' (ls:List (List (Int×Int))) (q r:Rat):Prop:=∀ l∈ls,∀ s∈l,¬ (q≤((s.2:Int):Rat)∧((s.2:Int):Rat)<r)
theorem HiB.gap {os bs:List (List (Int×Int))} {q r:Rat} (hq:q≤r) (g1:Gap os q r) (g2:Gap bs q r) (h:HiB os bs r):HiB os bs q:=by
 have e1:wsL 1 q bs=wsL 1 r bs:=sw_eq fun l hl s hs=>by
  have:=g2 l hl s hs;simp only [cmpQ_gt,cmpQ_zero];have:q<((s.2:Int):Rat)↔r<((s.2:Int):Rat):=by grind
  simp only [this]
 have e2:wsM (-1) q os=wsM (-1) r os:=sw_eq fun l hl s hs=>by
  have:=g1 l hl s hs;simp only [cmpQ_lt,cmpQ_zero];have:(((s.2:Int):Rat)<q∨((s.2:Int):Rat)=q)↔(((s.2:Int):Rat)<r∨((s.2:Int):Rat)=r):=by grind
  simp only [this]
 unfold HiB at *;rw [e1,e2];exact h
theorem LoB.gap {os bs:List (List (Int×Int))} {q r:Rat} (hq:q≤r) (g1:Gap' os q r) (g2:Gap' bs q r) (h:LoB os bs q):LoB os bs r:=by
 have e1:wsM 1 q bs=wsM 1 r bs:=sw_eq fun l hl s hs=>by
  have:=g2 l hl s hs;simp only [cmpQ_gt,cmpQ_zero];have:(q<((s.2:Int):Rat)∨((s.2:Int):Rat)=q)↔(r<((s.2:Int):Rat)∨((s.2:Int):Rat)=r):=by grind
  simp only [this]
 have e2:wsL (-1) q os=wsL (-1) r os:=sw_eq fun l hl s hs=>by
  have:=g1 l hl s hs;simp only [cmpQ_lt,cmpQ_zero];have:(((s.2:Int):Rat)<q)↔(((s.2:Int):Rat)<r):=by grind
  simp only [this]
 unfold LoB at *;rw [← e1,← e2];exact h
theorem most_le {q:Rat}:∀ {ds:List Int} {a:Int},a∈ds→((a:Int):Rat)≤q→∃ d∈ds,((d:Int):Rat)≤q∧∀ e∈ds,((e:Int):Rat)≤q→e≤d
 | [],_,h,_=>by simp at h
 | x :: ds,a,h,ha=>by
  by_cases hr:∃ b∈ds,((b:Int):Rat)≤q
  ·obtain ⟨b,hb,hb2⟩:=hr;obtain ⟨d,h1,h2,h3⟩:=most_le hb hb2;by_cases hx:((x:Int):Rat)≤q∧d≤x
   ·refine ⟨x,List.mem_cons_self ..,hx.1,fun e he heq=>?_⟩;rcases List.mem_cons.1 he with rfl|he
    ·exact Int.le_refl _
    ·exact Int.le_trans (h3 e he heq) hx.2
   ·refine ⟨d,List.mem_cons_of_mem _ h1,h2,fun e he heq=>?_⟩;rcases List.mem_cons.1 he with rfl|he
    ·by_cases h9:d≤e
     ·exact absurd ⟨heq,h9⟩ hx
     ·omega
    ·exact h3 e he heq
  ·have hax:a=x:=by
    rcases List.mem_cons.1 h with e|h
    ·exact e
    ·exact absurd ⟨a,h,ha⟩ hr
   subst hax;refine ⟨a,List.mem_cons_self ..,ha,fun e he heq=>?_⟩;rcases List.mem_cons.1 he with rfl|he
   ·exact Int.le_refl _
   ·exact absurd ⟨e,he,heq⟩ hr
theorem mem_dists {os bs:List (List (Int×Int))} {l:List (Int×Int)} {s:Int×Int} (h:l∈os∨l∈bs) (hs:s∈l):absI s.2∈dists os bs:=by
 refine List.mem_cons_of_mem _ (List.mem_append.2 ?_);rcases h with h|h
 ·exact Or.inl (List.mem_flatMap.2 ⟨l,h,List.mem_map.2 ⟨s,hs,rfl⟩⟩)
 ·exact Or.inr (List.mem_flatMap.2 ⟨l,h,List.mem_map.2 ⟨s,hs,rfl⟩⟩)
theorem zero_dists (os bs:List (List (Int×Int))):(0:Int)∈dists os bs:=List.mem_cons_self ..
theorem bal_near {os bs:List (List (Int×Int))} (ho:Pos os) (hb:Pos bs) {q:Rat} (h:balB os bs q=true):∃ d∈dists os bs,(balB os bs ((d:Int):Rat)=true∧((d:Int):Rat)≤q)∨(balB os bs ((-d:Int):Rat)=true∧((d:Int):Rat)≤-q):=by
 obtain ⟨h1,h2⟩:=balB_iff.1 h;by_cases h0:0≤q
 ·obtain ⟨d,hd,hd1,hd2⟩:=most_le (zero_dists os bs) (q:=q) (by simpa using h0);have hd0:=dists_nonneg hd;have hd0':(0:Rat)≤((d:Int):Rat):=by exact_mod_cast hd0
  have gap:∀ ls:List (List (Int×Int)),(∀ l∈ls,l∈os∨l∈bs)→Gap ls ((d:Int):Rat) q:=fun ls hls l hl s hs hx=>by
   have hm:=mem_dists (hls l hl) hs;have hs0:d<s.2:=by exact_mod_cast hx.1
   have e:absI s.2=s.2:=by unfold absI;rw [if_neg (by omega)]
   rw [e] at hm;have:=hd2 _ hm hx.2;omega
  refine ⟨d,hd,Or.inl ⟨balB_iff.2 ⟨h1.down ho hb hd1,h2.gap hd1 (gap os fun l hl=>Or.inl hl) (gap bs fun l hl=>Or.inr hl)⟩,hd1⟩⟩
 ·obtain ⟨d,hd,hd1,hd2⟩:=most_le (zero_dists os bs) (q:=-q) (by grind);have hd0:=dists_nonneg hd;have hd0':(0:Rat)≤((d:Int):Rat):=by exact_mod_cast hd0
  have hneg:(((-d:Int)):Rat) = -((d:Int):Rat):=by simp
  have hle:q≤(((-d:Int)):Rat):=by rw [hneg];grind
  have gap:∀ ls:List (List (Int×Int)),(∀ l∈ls,l∈os∨l∈bs)→Gap' ls q ((-d:Int):Rat):=fun ls hls l hl s hs hx=>by
   have hm:=mem_dists (hls l hl) hs;have hs0:s.2 < -d:=by exact_mod_cast hx.2
   have e:absI s.2 = -s.2:=by unfold absI;rw [if_pos (by omega)]
   rw [e] at hm;have:=hd2 _ hm (by rw [Rat.intCast_neg];grind);omega
  refine ⟨d,hd,Or.inr ⟨balB_iff.2 ⟨h1.gap hle (gap os fun l hl=>Or.inl hl) (gap bs fun l hl=>Or.inr hl),h2.up ho hb hle⟩,hd1⟩⟩
def PrB (ls:List (List (Int×Int))):Prop:=∀ l∈ls,∀ s∈l,-1000000≤s.2∧s.2≤1000000
theorem PrB.of {up:Bool} {ls:List (List (Int×Int))} (h:∀ l∈ls,chk up l=0):PrB ls:=fun l hl s hs=>by
 have:=(chk_ok (h l hl)).2.2.2 s hs;unfold Bad at this;omega
theorem sw_zero {f:Int×Int→Int} {ls:List (List (Int×Int))} (h:∀ l∈ls,∀ s∈l,f s=0):sw f ls=0:=by
 rw [sw_eq (g:=fun _=>0) h];unfold sw;refine sumI_zero fun x hx=>?_;obtain ⟨l,_,rfl⟩:=List.mem_map.1 hx;refine sumI_zero fun y hy=>?_;obtain ⟨s,_,rfl⟩:=List.mem_map.1 hy
 rfl
theorem sw_pos {f:Int×Int→Int} {ls:List (List (Int×Int))} (h:∀ l∈ls,∀ s∈l,0≤f s):0≤sw f ls:=by
 have:=sw_le (f:=fun _=>0) h;rw [sw_zero (f:=fun _=>0) fun _ _ _ _=>rfl] at this;exact this
theorem ws_pos {ls:List (List (Int×Int))} (hp:Pos ls) (side:Int) (q:Rat):0≤wsL side q ls∧0≤wsM side q ls :=
 ⟨sw_pos fun l hl s hs=>by have:=hp l hl s hs;split<;>omega,sw_pos fun l hl s hs=>by have:=hp l hl s hs;split<;>omega⟩
theorem HiB.top {os bs:List (List (Int×Int))} (ho:Pos os) (hb:PrB bs):HiB os bs ((1000000:Int):Rat):=by
 have e:wsL 1 ((1000000:Int):Rat) bs=0:=sw_zero fun l hl s hs=>by
  simp only [cmpQ_gt,Rat.intCast_lt_intCast];rw [if_neg];have:=hb l hl s hs;omega
 unfold HiB;rw [e];exact (ws_pos ho _ _).2
theorem LoB.bottom {os bs:List (List (Int×Int))} (ho:PrB os) (hb:Pos bs):LoB os bs ((-1000000:Int):Rat):=by
 have e:wsL (-1) ((-1000000:Int):Rat) os=0:=sw_zero fun l hl s hs=>by
  simp only [cmpQ_lt,Rat.intCast_lt_intCast];rw [if_neg];have:=ho l hl s hs;omega
 unfold LoB;rw [e];exact (ws_pos hb _ _).2
theorem LoB.step {os bs:List (List (Int×Int))} {n:Int} (h:¬ HiB os bs ((n:Int):Rat)):LoB os bs ((n+1:Int):Rat):=by
 have e1:wsM 1 ((n+1:Int):Rat) bs=wsL 1 ((n:Int):Rat) bs:=sw_eq fun l hl s hs=>by
  simp only [cmpQ_gt,cmpQ_zero,Rat.intCast_lt_intCast,Rat.intCast_inj];have:(n+1<s.2∨s.2=n+1)↔n<s.2:=by omega
  simp only [this]
 have e2:wsL (-1) ((n+1:Int):Rat) os=wsM (-1) ((n:Int):Rat) os:=sw_eq fun l hl s hs=>by
  simp only [cmpQ_lt,cmpQ_zero,Rat.intCast_lt_intCast,Rat.intCast_inj];have:(s.2<n+1)↔(s.2<n∨s.2=n):=by omega
  simp only [this]
 unfold HiB at h;unfold LoB;rw [e1,e2];omega
theorem bal_some {os bs:List (List (Int×Int))} (ho:Pos os) (hb:Pos bs) (ho':PrB os) (hb':PrB bs):∃ n:Int,balB os bs ((n:Int):Rat)=true:=by
 have key:∀ k:Nat,(∃ n:Int,balB os bs ((n:Int):Rat)=true)∨LoB os bs ((-1000000+k:Int):Rat):=by
  intro k
  induction k with
  | zero=>exact Or.inr (LoB.bottom ho' hb)
  | succ k ih =>
   rcases ih with ih|ih
   ·exact Or.inl ih
   ·by_cases h:HiB os bs ((-1000000+k:Int):Rat)
    ·exact Or.inl ⟨_,balB_iff.2 ⟨ih,h⟩⟩
    ·have:=LoB.step h;have e:(-1000000+(k:Int)+1) = -1000000+((k+1:Nat):Int):=by omega
     rw [e] at this;exact Or.inr this
 rcases key 2000000 with h|h
 ·exact h
 ·exact ⟨1000000,balB_iff.2 ⟨h,HiB.top ho hb'⟩⟩
theorem absI_or (p:Int):(0≤p∧absI p=p)∨(p<0∧absI p = -p):=by unfold absI;split<;>omega
theorem absI_bd (p:Int):0≤absI p∧p≤absI p∧-p≤absI p:=by unfold absI;split<;>omega
theorem PrZ.near {os bs:List (List (Int×Int))} {p:Int} (h:PrZ os bs p) (ho:Pos os) (hb:Pos bs) (ho':PrB os) (hb':PrB bs):balB os bs ((p:Int):Rat)=true∧∀ q:Rat,balB os bs q=true→((absI p:Int):Rat)≤q∨((absI p:Int):Rat)≤-q:=by
 rcases h with ⟨h1,h2,h3,h4⟩|⟨h1,h2⟩
 ·refine ⟨h2,fun q hq=>?_⟩;obtain ⟨d,hd,hx⟩:=bal_near ho hb hq;have hle:absI p≤d:=by
   by_cases h9:d<absI p
   ·obtain ⟨e1,e2⟩:=h3 d hd h9;rw [e1,e2] at hx;simp at hx
   ·omega
  have hle':((absI p:Int):Rat)≤((d:Int):Rat):=Rat.intCast_le_intCast.2 hle;rcases hx with ⟨_,hx⟩|⟨_,hx⟩
  ·exact Or.inl (Rat.le_trans hle' hx)
  ·exact Or.inr (Rat.le_trans hle' hx)
 ·obtain ⟨n,hn⟩:=bal_some ho hb ho' hb';obtain ⟨d,hd,hx⟩:=bal_near ho hb hn;obtain ⟨e1,e2⟩:=h2 d hd;rw [e1,e2] at hx;simp at hx
theorem PrZ.nearI {os bs:List (List (Int×Int))} {p:Int} (h:PrZ os bs p) (ho:Pos os) (hb:Pos bs) (ho':PrB os) (hb':PrB bs):balB os bs ((p:Int):Rat)=true∧∀ q:Int,balB os bs ((q:Int):Rat)=true→absI p≤absI q:=by
 obtain ⟨h1,h2⟩:=h.near ho hb ho' hb';refine ⟨h1,fun q hq=>?_⟩;have h3:=absI_bd q;rcases h2 _ hq with h|h
 ·have:=Rat.intCast_le_intCast.1 h;omega
 ·rw [← Rat.intCast_neg] at h;have:=Rat.intCast_le_intCast.1 h;omega
def negL (l:List (Int×Int)):List (Int×Int):=l.map fun s=>(s.1,-s.2)
def negs (ls:List (List (Int×Int))):List (List (Int×Int)):=ls.map negL
theorem sw_neg (f:Int×Int→Int) (ls:List (List (Int×Int))):sw f (negs ls)=sw (fun s=>f (s.1,-s.2)) ls:=by
 unfold sw negs negL;rw [List.map_map]
 congr 1
 refine List.map_congr_left fun l _=>?_;simp only [Function.comp,List.map_map]
 rfl
theorem ws_neg (q:Rat) (ls:List (List (Int×Int))):(wsL (-1) (-q) (negs ls)=wsL 1 q ls∧wsM (-1) (-q) (negs ls)=wsM 1 q ls)∧wsL 1 (-q) (negs ls)=wsL (-1) q ls∧wsM 1 (-q) (negs ls)=wsM (-1) q ls:=by
 simp only [wsL_sw,wsM_sw,sw_neg];refine ⟨⟨sw_eq fun l hl s hs=>?_,sw_eq fun l hl s hs=>?_⟩,sw_eq fun l hl s hs=>?_,sw_eq fun l hl s hs=>?_⟩
 all_goals
  simp only [fL,fM,cmpQ_lt,cmpQ_gt,cmpQ_zero,Rat.intCast_neg];have h1:(-((s.2:Int):Rat) < -q)↔q<((s.2:Int):Rat):=by grind
  have h2:(-((s.2:Int):Rat) = -q)↔((s.2:Int):Rat)=q:=by grind
  have h3:(-q < -((s.2:Int):Rat))↔((s.2:Int):Rat)<q:=by grind
  simp only [h1,h2,h3]
theorem mem_negs {ls:List (List (Int×Int))} {P:Int×Int→Prop} (h:∀ l∈ls,∀ s∈l,P (s.1,-s.2)):∀ l∈negs ls,∀ s∈l,P s:=fun l hl s hs=>by
 obtain ⟨l',hl',rfl⟩:=List.mem_map.1 hl;obtain ⟨s',hs',rfl⟩:=List.mem_map.1 hs;exact h l' hl' s' hs'
theorem Pos.neg {ls:List (List (Int×Int))} (h:Pos ls):Pos (negs ls):=mem_negs (P:=fun s=>0≤s.1) h
def negV (x:St.Lv):St.Lv:=(-x.1,x.2)
namespace St
def negT (t:Tr):Tr:=(t.1,t.2.1,-t.2.2)
theorem tri_neg:∀ (ls:List (List (Int×Int))) (k:Nat),tri k (negs ls)=(tri k ls).map negT
 | [],_=>rfl
 | l :: ls,k=>by
  have e:negs (l :: ls)=negL l :: negs ls:=rfl;rw [e,tri,tri,List.map_append,tri_neg ls (k+1)]
  congr 1
  unfold negL;rw [List.map_map,List.map_map]
  rfl
theorem qty_neg:∀ (T:List Tr) (p:Int),qty (T.map negT) (-p)=qty T p
 | [],_=>rfl
 | t :: T,p=>by
  rw [List.map_cons,qty,qty,qty_neg T p];have:(negT t).2.2 = -p↔t.2.2=p:=by unfold negT;simp only;omega
  simp only [this]
  rfl
theorem part_neg:∀ (T:List Tr) (p:Int) (i:Nat),part (T.map negT) (-p) i=part T p i
 | [],_,_=>rfl
 | t :: T,p,i=>by
  rw [List.map_cons,part,part,part_neg T p i];have:(negT t).2.2 = -p↔t.2.2=p:=by unfold negT;simp only;omega
  simp only [this]
  rfl
theorem parts_neg (n:Nat) (T:List Tr) (p:Int):parts n (T.map negT) (-p)=parts n T p:=by
 unfold parts;exact List.map_congr_left fun i _=>part_neg T p i
theorem IsLv.neg {up:Bool} {n:Nat} {ls:List (List (Int×Int))} {lv:List Lv} (h:IsLv up n (tri 0 ls) lv):IsLv (!up) n (tri 0 (negs ls)) (lv.map negV):=by
 rw [tri_neg];have e:(lv.map negV).map (·.1)=(lv.map (·.1)).map fun p=>-p:=by simp [negV]
 refine ⟨?_,fun p=>?_,fun x hx=>?_⟩
 ·rw [e,List.pairwise_map];refine h.1.imp fun {a b} hab=>?_;cases up<;>simp [ltU] at hab ⊢<;>omega
 ·rw [e];constructor
  ·intro hp;obtain ⟨p',hp',rfl⟩:=List.mem_map.1 hp;obtain ⟨t,ht,e9⟩:=(h.2.1 p').1 hp';exact ⟨negT t,List.mem_map.2 ⟨t,ht,rfl⟩,by rw [← e9];rfl⟩
  ·rintro ⟨t',ht',rfl⟩;obtain ⟨t,ht,rfl⟩:=List.mem_map.1 ht';exact List.mem_map.2 ⟨t.2.2,(h.2.1 _).2 ⟨t,ht,rfl⟩,rfl⟩
 ·obtain ⟨y,hy,rfl⟩:=List.mem_map.1 hx;obtain ⟨h1,h2⟩:=h.2.2 y hy;refine ⟨?_,?_⟩
  ·show y.2.1=qty _ (-y.1);rw [qty_neg,h1]
  ·show y.2.2=parts n _ (-y.1);rw [parts_neg,h2]
end St
theorem uP_neg:∀ (lv:List St.Lv) (u:Int),uP (lv.map negV) u=(uP lv u).map fun p=>-p
 | [],_=>rfl
 | x :: r,u=>by
  rw [List.map_cons,uP,uP];show (if u<x.2.1 then some (-x.1) else uP (r.map negV) (u-x.2.1))=_;split
  ·rfl
  ·exact uP_neg r _
theorem negV_get (lv:List St.Lv) (k:Nat):((lvQ (lv.map negV))[k]?.getD (0,0)).1=((lvQ lv)[k]?.getD (0,0)).1∧((lvQ (lv.map negV))[k]?.getD (0,0)).2 = -((lvQ lv)[k]?.getD (0,0)).2:=by
 unfold lvQ;rw [List.map_map,List.getElem?_map,List.getElem?_map];cases lv[k]?<;>simp [negV]
theorem restI_neg (lv:List St.Lv) (z:Int):∀ k,restI (lvQ (lv.map negV)) z k=restI (lvQ lv) z k
 | 0=>rfl
 | k+1=>by rw [restI,restI,restI_neg lv z k,(negV_get lv k).1]
theorem partI_neg (lv:List St.Lv) (z:Int) (k:Nat):partI (lvQ (lv.map negV)) z k=partI (lvQ lv) z k:=by
 unfold partI;rw [restI_neg,(negV_get lv k).1]
theorem costI_neg (lv:List St.Lv) (z:Int):∀ k,costI (lvQ (lv.map negV)) z k = -costI (lvQ lv) z k
 | 0=>rfl
 | k+1=>by
  rw [costI,costI,costI_neg lv z k,partI_neg,(negV_get lv k).2,Int.mul_neg];omega
theorem shAll_neg (lv:List St.Lv) (n:Nat) (z:Int):∀ k,shAll (lv.map negV) n z k=shAll lv n z k
 | 0=>rfl
 | k+1=>by
  rw [shAll,shAll,shAll_neg lv n z k,partI_neg]
  congr 1
  rw [List.getElem?_map];cases lv[k]?<;>simp [negV,Lv0]
end Go.Proofs.YtjajigkacccdgaaGreat
namespace Go.Proofs.YtjajigkacccdgaaGreat
open Go.RowKit
open Wd
def cz:List (Int×Int)→Int→Int
 | [],_=>0
 | s :: l,z=>min z s.1*s.2+cz l (z-min z s.1)
theorem restI_hd (s:Int×Int) (l:List (Int×Int)) (z:Int):∀ k,restI (s :: l) z (k+1)=restI l (z-min z s.1) k
 | 0=>rfl
 | k+1=>by
  rw [restI,restI_hd s l z k,restI]
  rfl
theorem costI_hd (s:Int×Int) (l:List (Int×Int)) (z:Int):∀ k,costI (s :: l) z (k+1)=min z s.1*s.2+costI l (z-min z s.1) k
 | 0=>by simp [costI,partI,restI]
 | k+1=>by
  rw [costI,costI_hd s l z k,costI,partI,restI_hd,partI];simp only [List.getElem?_cons_succ];omega
theorem costI_cz:∀ (l:List (Int×Int)) (z:Int),costI l z l.length=cz l z
 | [],_=>rfl
 | s :: l,z=>by rw [List.length_cons,costI_hd,costI_cz l,cz]
def aL (p:Int) (l:List (Int×Int)):Int:=sumI (l.map fun s=>if s.2<p then s.1 else 0)
def aM (p:Int) (l:List (Int×Int)):Int:=sumI (l.map fun s=>if s.2≤p then s.1 else 0)
def aG (p:Int) (l:List (Int×Int)):Int:=sumI (l.map fun s=>if s.2<p then s.1*(p-s.2) else 0)
def aT (l:List (Int×Int)):Int:=sumI (l.map fun s=>s.1)
theorem aL_cons (p:Int) (s:Int×Int) (l:List (Int×Int)):aL p (s :: l)=(if s.2<p then s.1 else 0)+aL p l:=rfl
theorem aM_cons (p:Int) (s:Int×Int) (l:List (Int×Int)):aM p (s :: l)=(if s.2≤p then s.1 else 0)+aM p l:=rfl
theorem aG_cons (p:Int) (s:Int×Int) (l:List (Int×Int)):aG p (s :: l)=(if s.2<p then s.1*(p-s.2) else 0)+aG p l:=rfl
theorem aT_cons (s:Int×Int) (l:List (Int×Int)):aT (s :: l)=s.1+aT l:=rfl
theorem aG_pos {p:Int}:∀ {l:List (Int×Int)},(∀ s∈l,0≤s.1)→0≤aG p l
 | [],_=>Int.le_refl _
 | s :: l,h=>by
  have h1:=aG_pos (p:=p) fun t ht=>h t (List.mem_cons_of_mem _ ht);have h2:=h s (List.mem_cons_self ..);rw [aG_cons];split
  ·have:=Int.mul_nonneg h2 (show 0≤p-s.2 by omega);omega
  ·omega
theorem cz_zero:∀ {l:List (Int×Int)},(∀ s∈l,0≤s.1)→cz l 0=0
 | [],_=>rfl
 | s :: l,h=>by
  have h2:=h s (List.mem_cons_self ..);have e:min 0 s.1=0:=by omega
  rw [cz,e,Int.sub_zero,cz_zero fun t ht=>h t (List.mem_cons_of_mem _ ht)];omega
theorem cz_ge (p:Int):∀ {l:List (Int×Int)} {z:Int},(∀ s∈l,0≤s.1)→0≤z→z≤aT l→p*z-aG p l≤cz l z
 | [],z,_,h0,h1=>by
  have:z=0:=by simp only [aT,List.map_nil,sumI] at h1;omega
  subst this;simp [cz,aG,sumI]
 | s :: l,z,h,h0,h1=>by
  have h2:=h s (List.mem_cons_self ..);have hm:0≤min z s.1∧min z s.1≤s.1∧min z s.1≤z∧(min z s.1=z∨min z s.1=s.1):=by omega
  have h3:0≤aT l:=by
   clear h1;have:∀ l:List (Int×Int),(∀ s∈l,0≤s.1)→0≤aT l:=by
    intro l
    induction l with
    | nil=>intro _;exact Int.le_refl _
    | cons a l ih =>
     intro hl;have:=ih fun t ht=>hl t (List.mem_cons_of_mem _ ht);have:=hl a (List.mem_cons_self ..);rw [aT_cons];omega
   exact this l fun t ht=>h t (List.mem_cons_of_mem _ ht)
  rw [aT_cons] at h1;have ih:=cz_ge p (l:=l) (z:=z-min z s.1) (fun t ht=>h t (List.mem_cons_of_mem _ ht)) (by omega) (by omega);rw [cz,aG_cons];generalize min z s.1=m at *;have e:p*(z-m)=p*z-p*m:=Int.mul_sub ..;rw [e] at ih;split
  ·have k1:0≤(s.1-m)*(p-s.2):=Int.mul_nonneg (by omega) (by omega);have k2:(s.1-m)*(p-s.2)=s.1*(p-s.2)-(p*m-m*s.2):=by grind
   omega
  ·have k1:0≤m*(s.2-p):=Int.mul_nonneg (by omega) (by omega);have k2:m*(s.2-p)=m*s.2-p*m:=by grind
   omega
theorem above_zero {p:Int}:∀ {l:List (Int×Int)},(∀ s∈l,p<s.2)→aL p l=0∧aM p l=0∧aG p l=0
 | [],_=>⟨rfl,rfl,rfl⟩
 | s :: l,h=>by
  obtain ⟨h1,h2,h3⟩:=above_zero (l:=l) fun t ht=>h t (List.mem_cons_of_mem _ ht);have:=h s (List.mem_cons_self ..);rw [aL_cons,aM_cons,aG_cons,h1,h2,h3,if_neg (by omega),if_neg (by omega),if_neg (by omega)];exact ⟨rfl,rfl,rfl⟩
theorem cz_eq (p:Int):∀ {l:List (Int×Int)} {z:Int},(l.map (·.2)).Pairwise (· < ·)→(∀ s∈l,0≤s.1)→aL p l≤z→z≤aM p l→cz l z=p*z-aG p l
 | [],z,_,_,h0,h1=>by
  have:z=0:=by simp only [aL,aM,List.map_nil,sumI] at h0 h1;omega
  subst this;simp [cz,aG,sumI]
 | s :: l,z,hs,h,h0,h1=>by
  have h2:=h s (List.mem_cons_self ..);rw [List.map_cons,List.pairwise_cons] at hs;have hab:∀ t∈l,s.2<t.2:=fun t ht=>hs.1 _ (List.mem_map.2 ⟨t,ht,rfl⟩);have hl:=fun t ht=>h t (List.mem_cons_of_mem _ ht);rw [aL_cons] at h0;rw [aM_cons] at h1;rw [cz,aG_cons];by_cases c1:s.2<p
  ·rw [if_pos c1] at h0 ⊢;rw [if_pos (by omega)] at h1;have hA:0≤aL p l:=by
    have:∀ l:List (Int×Int),(∀ s∈l,0≤s.1)→0≤aL p l:=by
     intro l
     induction l with
     | nil=>intro _;exact Int.le_refl _
     | cons a l ih =>
      intro hl;have:=ih fun t ht=>hl t (List.mem_cons_of_mem _ ht);have:=hl a (List.mem_cons_self ..);rw [aL_cons];split<;>omega
    exact this l hl
   have e:min z s.1=s.1:=by omega
   rw [e,cz_eq p hs.2 hl (by omega) (by omega)];grind
  ·rw [if_neg c1] at h0 ⊢;by_cases c2:s.2=p
   ·rw [if_pos (by omega)] at h1;obtain ⟨a1,a2,a3⟩:=above_zero (p:=p) (l:=l) fun t ht=>by have:=hab t ht;omega
    have e:min z s.1=z:=by omega
    rw [e,Int.sub_self,cz_zero hl,a3,c2];grind
   ·rw [if_neg (by omega)] at h1;obtain ⟨a1,a2,a3⟩:=above_zero (p:=p) (l:=l) fun t ht=>by have:=hab t ht;omega
    have e:z=0:=by omega
    subst e;have e:min 0 s.1=0:=by omega
    rw [e,Int.sub_self,cz_zero hl,a3];grind
theorem aL_le_aM (p:Int):∀ {l:List (Int×Int)},(∀ s∈l,0≤s.1)→0≤aL p l∧aL p l≤aM p l∧aM p l≤aT l
 | [],_=>⟨Int.le_refl _,Int.le_refl _,Int.le_refl _⟩
 | s :: l,h=>by
  have h1:=aL_le_aM p fun t ht=>h t (List.mem_cons_of_mem _ ht);have h2:=h s (List.mem_cons_self ..);rw [aL_cons,aM_cons,aT_cons];by_cases c1:s.2<p
  ·rw [if_pos c1,if_pos (by omega)];omega
  ·rw [if_neg c1];split<;>omega
theorem uP_side (p:Int):∀ {S:List St.Lv} {u:Int},((lvQ S).map (·.2)).Pairwise (· < ·)→(∀ s∈lvQ S,0≤s.1)→0≤u →
  (u<aL p (lvQ S)→∃ a,uP S u=some a∧a<p)∧(aL p (lvQ S)≤u→u<aM p (lvQ S)→uP S u=some p)∧(aM p (lvQ S)≤u→∀ a,uP S u=some a→p<a)
 | [],u,_,_,h0=>⟨fun h=>by simp only [lvQ,List.map_nil,aL,sumI] at h;omega,fun _ h=>by simp only [lvQ,List.map_nil,aM,sumI] at h;omega,fun _ a h=>by simp [uP] at h⟩
 | x :: S,u,hs,h,h0=>by
  have e:lvQ (x :: S)=(x.2.1,x.1) :: lvQ S:=rfl;rw [e] at hs h ⊢;rw [List.map_cons,List.pairwise_cons] at hs;have hab:∀ t∈lvQ S,x.1<t.2:=fun t ht=>hs.1 _ (List.mem_map.2 ⟨t,ht,rfl⟩);have hl:=fun t ht=>h t (List.mem_cons_of_mem _ ht);have hx:0≤x.2.1:=h (x.2.1,x.1) (List.mem_cons_self ..);rw [aL_cons,aM_cons,uP];simp only;have hb:=aL_le_aM p hl;by_cases c0:u<x.2.1
  ·rw [if_pos c0];by_cases c1:x.1<p
   ·rw [if_pos c1,if_pos (by omega)];exact ⟨fun _=>⟨_,rfl,c1⟩,fun _ _=>by omega,fun _=>by omega⟩
   ·rw [if_neg c1];obtain ⟨a1,a2,a3⟩:=above_zero (p:=p) (l:=lvQ S) fun t ht=>by have:=hab t ht;omega
    rw [a1,a2];by_cases c2:x.1=p
    ·rw [if_pos (by omega)];exact ⟨fun _=>by omega,fun _ _=>by rw [c2],fun _=>by omega⟩
    ·rw [if_neg (by omega)];refine ⟨fun _=>by omega,fun _ _=>by omega,fun _ a ha=>?_⟩;have:x.1=a:=by simpa using ha
     omega
  ·rw [if_neg c0];obtain ⟨i1,i2,i3⟩:=uP_side p (S:=S) (u:=u-x.2.1) hs.2 hl (by omega);by_cases c1:x.1<p
   ·rw [if_pos c1,if_pos (by omega)];exact ⟨fun _=>i1 (by omega),fun _ _=>i2 (by omega) (by omega),fun _=>i3 (by omega)⟩
   ·rw [if_neg c1];obtain ⟨a1,a2,a3⟩:=above_zero (p:=p) (l:=lvQ S) fun t ht=>by have:=hab t ht;omega
    rw [a1,a2];by_cases c2:x.1≤p
    ·rw [if_pos c2];exact ⟨fun _=>by omega,fun _ _=>by omega,fun _=>i3 (by rw [a2];omega)⟩
    ·rw [if_neg c2];exact ⟨fun _=>by omega,fun _ _=>by omega,fun _=>i3 (by rw [a2];omega)⟩
theorem TrZ.mid {S D:List St.Lv} {z p:Int} (h:TrZ S D z) (hs:((lvQ S).map (·.2)).Pairwise (· < ·)) (hq:∀ s∈lvQ S,0≤s.1) (ds:((lvQ (D.map negV)).map (·.2)).Pairwise (· < ·)) (dq:∀ s∈lvQ (D.map negV),0≤s.1)
  (b1:aL p (lvQ S)≤aM (-p) (lvQ (D.map negV))) (b2:aL (-p) (lvQ (D.map negV))≤aM p (lvQ S)) :
  (aL p (lvQ S)≤z∧z≤aM p (lvQ S))∧aL (-p) (lvQ (D.map negV))≤z∧z≤aM (-p) (lvQ (D.map negV)):=by
 obtain ⟨h0,h1,h2⟩:=h;have a1:=aL_le_aM p hq;have a2:=aL_le_aM (-p) dq;have dU:∀ {u a:Int},uP (D.map negV) u=some a→uP D u=some (-a):=fun {u a} e=>by
  rw [uP_neg,Option.map_eq_some_iff] at e;obtain ⟨b,e1,e2⟩:=e;rw [e1,← e2,Int.neg_neg]
 have dU':∀ {u a:Int},uP D u=some a→uP (D.map negV) u=some (-a):=fun {u a} e=>by rw [uP_neg,e];rfl
 -- the greater of the two lower bounds
 have ok:∀ u,0≤u→(u<aL p (lvQ S)∨u<aL (-p) (lvQ (D.map negV)))→okU S D u:=by
  intro u hu hlt;obtain ⟨s1,s2,s3⟩:=uP_side p hs hq hu;obtain ⟨d1,d2,d3⟩:=uP_side (-p) ds dq hu;by_cases c1:u<aL p (lvQ S)
  ·obtain ⟨a,e1,e2⟩:=s1 c1;by_cases c2:u<aL (-p) (lvQ (D.map negV))
   ·obtain ⟨b,f1,f2⟩:=d1 c2;exact ⟨a,-b,e1,dU f1,by omega⟩
   ·have f1:=d2 (by clear s1 s2 s3 d1 d2 d3;omega) (by clear s1 s2 s3 d1 d2 d3;omega);exact ⟨a,- -p,e1,dU f1,by omega⟩
  ·have e1:=s2 (by clear s1 s2 s3 d1 d2 d3;omega) (by clear s1 s2 s3 d1 d2 d3;omega);obtain ⟨b,f1,f2⟩:=d1 (by clear s1 s2 s3 d1 d2 d3;omega);exact ⟨p,-b,e1,dU f1,by omega⟩
 have no:∀ u,0≤u→aL p (lvQ S)≤u→aL (-p) (lvQ (D.map negV))≤u→¬ okU S D u:=by
  rintro u hu g1 g2 ⟨a,b,e1,e2,e3⟩;obtain ⟨s1,s2,s3⟩:=uP_side p hs hq hu;obtain ⟨d1,d2,d3⟩:=uP_side (-p) ds dq hu;have k1:p≤a:=by
   by_cases c:u<aM p (lvQ S)
   ·have:=s2 g1 c;rw [e1] at this;have:=Option.some.inj this;omega
   ·have:=s3 (by omega) a e1;omega
  have k2 : -p≤-b:=by
   by_cases c:u<aM (-p) (lvQ (D.map negV))
   ·have:=d2 g2 c;rw [dU' e2] at this;have:=Option.some.inj this;omega
   ·have:=d3 (by omega) _ (dU' e2);omega
  omega
 have l1:aL p (lvQ S)≤z:=by
  by_cases c:z<aL p (lvQ S)
  ·exact absurd (ok z h0 (Or.inl c)) h2
  ·omega
 have l2:aL (-p) (lvQ (D.map negV))≤z:=by
  by_cases c:z<aL (-p) (lvQ (D.map negV))
  ·exact absurd (ok z h0 (Or.inr c)) h2
  ·omega
 have l3:z=max (aL p (lvQ S)) (aL (-p) (lvQ (D.map negV))):=by
  by_cases c:z=max (aL p (lvQ S)) (aL (-p) (lvQ (D.map negV)))
  ·exact c
  ·exact absurd (h1 (max (aL p (lvQ S)) (aL (-p) (lvQ (D.map negV)))) (by omega) (by omega)) (no _ (by omega) (by omega) (by omega))
 omega
namespace St
theorem sum_pricesG (g:Int→Int):∀ {T:List Tr} {ps:List Int},ps.Nodup→(∀ t∈T,t.2.2∈ps)→sumI (ps.map fun p=>qty T p*g p)=sumI (T.map fun t=>t.2.1*g t.2.2)
 | [],ps,_,_=>by
  refine (sumI_zero fun y hy=>?_);obtain ⟨x,_,rfl⟩:=List.mem_map.1 hy;simp [qty]
 | t :: T,ps,hn,h=>by
  have ih:=sum_pricesG g hn fun s hs=>h s (List.mem_cons_of_mem _ hs);have e:(ps.map fun p=>qty (t :: T) p*g p)=ps.map fun p=>(if t.2.2=p then t.2.1*g t.2.2 else 0)+qty T p*g p:=by
   refine List.map_congr_left fun p _=>?_;rw [qty];by_cases hp:t.2.2=p
   ·subst hp;rw [if_pos rfl,if_pos rfl,Int.add_mul]
   ·rw [if_neg hp,if_neg hp,Int.zero_add,Int.zero_add]
  rw [e,sumI_map_add (fun p=>if t.2.2=p then t.2.1*g t.2.2 else 0) (fun p=>qty T p*g p),ih];have:=sumI_one (fun p:Int=>p) (t.2.1*g t.2.2) (l:=ps) (p:=t.2.2) (by simpa using hn) (by simpa using h t (List.mem_cons_self ..));rw [this,List.map_cons,sumI]
theorem sumG_tri (g:Int→Int):∀ (ls:List (List (Int×Int))) (k:Nat),sumI ((tri k ls).map fun t=>t.2.1*g t.2.2)=sumI (ls.map fun l=>sumI (l.map fun s=>s.1*g s.2))
 | [],_=>rfl
 | l :: ls,k=>by
  rw [tri,List.map_append,sumI_app,sumG_tri g ls (k+1),List.map_cons,sumI,List.map_map]
  rfl
theorem sumG_lv (g:Int→Int) {up:Bool} {n:Nat} {ls:List (List (Int×Int))} {lv:List Lv} (h:IsLv up n (tri 0 ls) lv):sumI (lv.map fun x=>x.2.1*g x.1)=sumI (ls.map fun l=>sumI (l.map fun s=>s.1*g s.2)):=by
 have e:(lv.map fun x=>x.2.1*g x.1)=(lv.map (·.1)).map fun p=>qty (tri 0 ls) p*g p:=by
  rw [List.map_map];refine List.map_congr_left fun x hx=>?_;simp only [Function.comp];rw [(h.2.2 x hx).1]
 rw [e,sum_pricesG g h.nodup fun t ht=>(h.2.1 t.2.2).2 ⟨t,ht,rfl⟩,sumG_tri]
end St
def gS (p:Int) (ls:List (List (Int×Int))):Int:=sumI (ls.map (aG p))
theorem aG_lv {p:Int} {up:Bool} {n:Nat} {ls:List (List (Int×Int))} {lv:List St.Lv} (h:St.IsLv up n (St.tri 0 ls) lv):aG p (lvQ lv)=gS p ls:=by
 have:=St.sumG_lv (fun x=>if x<p then p-x else 0) h;have e:∀ l:List (Int×Int),aG p l=sumI (l.map fun s=>s.1*if s.2<p then p-s.2 else 0):=fun l=>by
  unfold aG
  congr 1
  refine List.map_congr_left fun s _=>?_;split<;>simp
 rw [e,lvQ,List.map_map];refine Eq.trans ?_ (this.trans ?_)
 ·rfl
 ·unfold gS
  congr 1
  exact List.map_congr_left fun l _=>(e l).symm
theorem a_ws {up:Bool} {n:Nat} {ls:List (List (Int×Int))} {lv:List St.Lv} (h:St.IsLv up n (St.tri 0 ls) lv) (p:Int):aL p (lvQ lv)=wsL (-1) ((p:Int):Rat) ls∧aM p (lvQ lv)=wsM (-1) ((p:Int):Rat) ls:=by
 obtain ⟨h1,h2⟩:=agg_lv (side:=-1) (q:=((p:Int):Rat)) h;unfold wsL wsM;rw [← h1,← h2];unfold aL aM lvQ lvL lvM;simp only [List.map_map,cmpQ_lt,cmpQ_zero,Rat.intCast_lt_intCast,Rat.intCast_inj];refine ⟨rfl,?_⟩
 congr 1
 refine List.map_congr_left fun x _=>?_;simp only [Function.comp];have:x.1≤p↔x.1<p∨x.1=p:=by omega
 simp only [this]
theorem lvQ_sorted {n:Nat} {T:List St.Tr} {lv:List St.Lv} (h:St.IsLv true n T lv):((lvQ lv).map (·.2)).Pairwise (· < ·):=by
 have:=h.1;unfold lvQ;rw [List.map_map];have h2:(lv.map (·.1)).Pairwise (· < ·):=this.imp fun {a b} hab=>by simpa [St.ltU] using hab
 exact h2
theorem lvQ_pos {up:Bool} {n:Nat} {lv:List St.Lv} (hv:VL up n lv):(∀ s∈lvQ lv,0≤s.1)∧∀ s∈lvQ (lv.map negV),0≤s.1:=by
 constructor
 ·intro s hs;obtain ⟨x,hx,rfl⟩:=List.mem_map.1 hs;have:=hv.qty x hx;simp only;omega
 ·intro s hs;obtain ⟨y,hy,rfl⟩:=List.mem_map.1 hs;obtain ⟨x,hx,rfl⟩:=List.mem_map.1 hy;have:=hv.qty x hx;show 0≤x.2.1;omega
theorem RunV.price {os bs:List (List (Int×Int))} {z p wf:Int} {xs ys:List Int} {S D:List St.Lv} (hc:ckB os bs=0) (h:RunV os bs z p wf xs ys S D):balB os bs ((p:Int):Rat)=true:=by
 obtain ⟨_,_,ho,hb⟩:=ckB_iff.1 hc;exact (h.pr.nearI (Pos.of ho) (Pos.of hb) (PrB.of ho) (PrB.of hb)).1
theorem RunV.mid {os bs:List (List (Int×Int))} {z p wf:Int} {xs ys:List Int} {S D:List St.Lv} (hc:ckB os bs=0) (h:RunV os bs z p wf xs ys S D) :
  (aL p (lvQ S)≤z∧z≤aM p (lvQ S))∧aL (-p) (lvQ (D.map negV))≤z∧z≤aM (-p) (lvQ (D.map negV)):=by
 obtain ⟨b1,b2⟩:=balB_iff.1 (h.price hc);have n1:=St.IsLv.neg h.isD;have e1:=a_ws h.isS p;have e2:=a_ws n1 (-p);have e3:=(ws_neg ((p:Int):Rat) bs).1;rw [Rat.intCast_neg,e3.1,e3.2] at e2;refine h.tr.mid (lvQ_sorted h.isS) (lvQ_pos h.vS).1 (lvQ_sorted n1) (lvQ_pos h.vD).2 ?_ ?_
 ·rw [e1.1,e2.2];exact b1
 ·rw [e2.1,e1.2];exact b2
theorem cost_neg_cz (lv:List St.Lv) (z:Int):costI (lvQ lv) z lv.length = -cz (lvQ (lv.map negV)) z:=by
 have:=costI_neg lv z lv.length;rw [← costI_cz,lvQ_len,List.length_map,this];omega
theorem RunV.gain {os bs:List (List (Int×Int))} {z p wf:Int} {xs ys:List Int} {S D:List St.Lv} (hc:ckB os bs=0) (h:RunV os bs z p wf xs ys S D):wf=gS p os+gS (-p) (negs bs):=by
 obtain ⟨⟨m1,m2⟩,m3,m4⟩:=h.mid hc;have n1:=St.IsLv.neg h.isD;have c1:=cz_eq p (lvQ_sorted h.isS) (lvQ_pos h.vS).1 m1 m2;have c2:=cz_eq (-p) (lvQ_sorted n1) (lvQ_pos h.vD).2 m3 m4;have e1:=costI_cz (lvQ S) z;rw [lvQ_len] at e1;rw [h.w,cost_neg_cz,e1,c1,c2,aG_lv h.isS,aG_lv n1,Int.neg_mul];omega
end Go.Proofs.YtjajigkacccdgaaGreat
