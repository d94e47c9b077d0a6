/-
Lemmas of the walk; no further conditions.
-/
import Derived.Test.YtjajigkacccdgaaGreatTgAZ
set_option linter.unusedVariables false
set_option linter.unusedSimpArgs false
set_option maxRecDepth 100000
set_option maxHeartbeats 16000000
namespace Go.Proofs.YtjajigkacccdgaaGreat
open Go.RowKit
open Wd
theorem curve25_any (A:Option Addr) (n c:Nat) (xs:List Int) (w:World) (h:IsAt w A (2*n) xs) (hn:n≤1000000) (hf:∀ i:Nat,Fits (xs[i]?.getD 0)) :
  Calls Tryz.prog 60 #[.slice A ((2*n:Nat)) c] w fun e w'=>∃ A1 c1,e=.returned (.slice A1 n c1)∧StAt w' A1 n (prs xs n)∧Below w.heap.size w w':=by
 have HX:=Hj h;have HFT:=Hj hf;obtain ⟨ii,hii,hz0,hz1,hz2⟩:=info_parts info_step;have HI:=Hj hii;have HZ0:=Hj hz0;have HZ1:=Hj hz1;have HZ2:=Hj hz2;generalize hN:2*n=N at *;have HN:=Hj hN;clear h hf hii hz0 hz1 hz2 hN;go_enter Tryz.func60,Tryz.ntmps60
 go_wp2_with fail
 go_loopw [3,4] (fun th t wr=>∃ (i k:Nat) (Ah:Option Addr) (ch:Nat),i≤n∧t=.int .i64 (k:Int)∧th=.slice Ah i ch∧Hid (k=2*i)∧Hid (Below w.heap.size w wr∧Own w.heap.size 107 2 wr Ah i ch (stCells (prs xs i)))) (fun _ t _=>N+2-(intOf t).toNat)
 case atStart=>exact ⟨0,0,none,0,Nat.zero_le _,rfl,rfl,rfl,Below.refl _ _,Own.nil _ _ _ _⟩
 case round =>
  obtain ⟨i,k,Ah,ch,hi,rfl,rfl,hK,hR⟩:=hrel;have hki:=hK.out;have hN:=HN.out;have e0:IntKind.i64.wrap ((k:Int)+1)=(k:Int)+1:=IntWalk.i64_in _ (by omega);have e1:IntKind.i64.wrap ((k:Int)+2)=(k:Int)+2:=IntWalk.i64_in _ (by omega);by_cases hlt:i<n
  ·obtain ⟨hB,hO⟩:=hR.out;obtain ⟨g,o,rfl,hb,hc⟩:=HX.out.2 (by omega);have hc0:=hc k (by omega);have hc1:=hc (k+1) (by omega);have hsn:prs xs (i+1)=prs xs i ++ [(xs[k]?.getD 0,xs[k+1]?.getD 0)]:=by rw [hki];rfl
   have hlt1:((k:Int)+1<(N:Int)):=by omega
   have hlt2:((k:Int)<(N:Int)):=by omega
   have hlt3:((0:Int)≤(k:Int)):=by omega
   have hlt4:((0:Int)≤(k:Int)+1):=by omega
   have d1:decide ((k:Int)+1<(N:Int))=true:=decide_eq_true hlt1;have tn2:((k:Int)+1).toNat=k+1:=by omega
   generalize xs[k]?.getD 0=a at *;generalize xs[k+1]?.getD 0=b at *;have hS:∀ w',Below w.heap.size w w'→(w'.cell? ⟨g,o+k,none⟩=some (.int .i64 a)∧w'.cell? ⟨g,o+(k+1),none⟩=some (.int .i64 b))∧Below w.heap.size w w':=fun w' hk=>⟨⟨(hk.cell (p:=⟨g,_,none⟩) hb).trans hc0,(hk.cell (p:=⟨g,_,none⟩) hb).trans hc1⟩,hk⟩;have HS:=Hj hS;have HSN:=Hj hsn;have HNK:=Hj (show N=2*n∧k=2*i from ⟨hN.symm,hki⟩);have q0:=hB;have k1:=(Kp.refl wr).alloc (.cells #[.int .i64 a,.int .i64 b] 107);have q1:Below w.heap.size w (wr.alloc (.cells #[.int .i64 a,.int .i64 b] 107)):=hB.trans (Below.mono k1 hB.size);have o1:=hO.keep k1;have m1:=Blk.new wr 107 #[.int .i64 a,.int .i64 b];have hin:i≤1000000:=by omega
   clear hsn hc hc0 hc1 hR hN hki hK hS
   go_wp2_with fail
   go_region_held3 (fun w'=>(w'.cell? ⟨g,o+k,none⟩=some (.int .i64 a)∧w'.cell? ⟨g,o+(k+1),none⟩=some (.int .i64 b))∧Below w.heap.size w w')
    (first|exact HS.out _ g1|exact HS.out _ q0.drew|exact HS.out _ q1.drew)
    (first
     | (refine step_append_my (base:=w.heap.size) (e:=107) (size:=2) (bytes:=16) (by rfl) (.tmp 12) (.tmp 23) 29 rfl Tryz.underlying29 HI.out HZ0.out HZ1.out HZ2.out rfl (by decide) (xs:=stCells (prs xs i)) (news:=[.int .i64 a,.int .i64 b]) rfl (by exact o1) rfl (by exact Blk.src m1 rfl (stCells_one [(a,b)])) (by simp only [maxLen];omega) (by omega) (Below.size (w:=w) (B:=w.heap.size) (by exact q1.drew)) ?_
        intro B1 cb1 w1 hO1 hb1 hk1;have g1:Below w.heap.size w w1:=Below.trans (by exact q1.drew) hb1;clear hb1 hk1))
   have hfin:Below w.heap.size w w1∧Own w.heap.size 107 2 w1 B1 (i+1) cb1 (stCells (prs xs (i+1))):=by
    refine ⟨g1,?_⟩;rw [HSN.out,stCells_append];exact hO1
   have HF:=Hj hfin;clear hfin g1 hO1;go_wp2;go_roundw
   case rel=>exact ⟨i+1,k+2,B1,cb1,by omega,by go_num,rfl,(by have:=HNK.out;omega:k+2=2*(i+1)),HF.out⟩
   case measure =>
    have:=HNK.out;simp [intOf];omega
  ·obtain rfl:i=n:=by omega
   have d1:decide ((k:Int)+1<(N:Int))=false:=decide_eq_false (by omega);have hfin:StAt wr Ah i (prs xs i)∧Below w.heap.size w wr:=⟨hR.out.2.steps (prs_fits HFT.out _),hR.out.1⟩;have HF:=Hj hfin;clear hfin hR hN hki;go_wp2;go_ret;exact ⟨Ah,ch,rfl,HF.out⟩
theorem some25 (A:Option Addr) (n c:Nat) (w:World):Calls Tryz.prog 61 #[.slice A n c] w fun e w'=>e=.returned (.slice A n c)∧Below w.heap.size w w':=by
 go_enter Tryz.func61,Tryz.ntmps61;go_wp2;go_ret;exact ⟨rfl,Below.refl _ _⟩
theorem numbers_yes (A B:Option Addr) (n c d:Nat) (xs:List Int) (w:World) (h:IsAt w A n xs) (h':IsAt w B n xs) (hn:n≤1000000) :
  Calls Tryz.prog 109 #[.slice A n c,.slice B n d] w fun e w'=>e=.returned (.bool true)∧Below w.heap.size w w':=by
 have HX:=Hj h;have HY:=Hj h';have d0:((n:Int) != (n:Int))=false:=by simp
 clear h h';go_enter Tryz.func109,Tryz.ntmps109
 go_wp2_with fail
 go_loopw [5] (fun t wr=>∃ k:Nat,k≤n∧t=.int .i64 k∧Hid (Below w.heap.size w wr)) (fun t _=>n-(intOf t).toNat)
 case atStart=>exact ⟨0,Nat.zero_le _,rfl,Below.refl _ _⟩
 case round =>
  obtain ⟨k,hk,rfl,hB⟩:=hrel;by_cases hlt:k<n
  ·obtain ⟨b1,o1,rfl,hb1,hc1⟩:=HX.out.2 (by omega);obtain ⟨b2,o2,rfl,hb2,hc2⟩:=HY.out.2 (by omega);have c1:=(hB.out.cell (p:=⟨b1,o1+k,none⟩) hb1).trans (hc1 k hlt);have c2:=(hB.out.cell (p:=⟨b2,o2+k,none⟩) hb2).trans (hc2 k hlt);generalize xs[k]?.getD 0=x at *;have k1:(0:Int)≤(k:Int):=by omega
   have k2:(k:Int)<(n:Int):=by omega
   clear hc1 hc2
   go_wp2_with fail
   go_quiet (fail)
   go_wp2;go_roundw
   case rel=>exact ⟨k+1,by omega,by go_num,below_drewN hB.out _⟩
   case measure=>simp [intOf];omega
  ·obtain rfl:k=n:=by omega
   go_wp2;go_ret;exact ⟨rfl,hB.out⟩
theorem same25_yes (A1 A2 B1 B2:Option Addr) (n c1 c2 m d1 d2:Nat) (z p wf:Int) (xs ys:List Int) (w:World) (h1:IsAt w A1 n xs) (h2:IsAt w A2 n xs) (g1:IsAt w B1 m ys) (g2:IsAt w B2 m ys) (hn:n≤1000000) (hm:m≤1000000) :
  Calls Tryz.prog 49 #[.agg #[.int .i64 z,.int .i64 p,.int .i64 wf,.slice A1 n c1,.slice B1 m d1],.agg #[.int .i64 z,.int .i64 p,.int .i64 wf,.slice A2 n c2,.slice B2 m d2]] w fun e w'=>e=.returned (.bool true)∧Below w.heap.size w w':=by
 have HN1:=Hj (fun W (hW:Below w.heap.size w W)=>numbers_yes A1 A2 n c1 c2 xs W (h1.below hW) (h2.below hW) hn);have HN2:=Hj (fun W (hW:Below w.heap.size w W)=>numbers_yes B1 B2 m d1 d2 ys W (g1.below hW) (g2.below hW) hm);clear h1 h2 g1 g2;go_enter Tryz.func49,Tryz.ntmps49
 go_wp2_with fail
 have b1:=(Blk.new w 78 #[.int .i64 z,.int .i64 p,.int .i64 wf,.slice A1 n c1,.slice B1 m d1]).alloc (.cells #[.int .i64 z,.int .i64 p,.int .i64 wf,.slice A2 n c2,.slice B2 m d2] 78);have b2:=Blk.new1 w (.cells #[.int .i64 z,.int .i64 p,.int .i64 wf,.slice A1 n c1,.slice B1 m d1] 78) 78 #[.int .i64 z,.int .i64 p,.int .i64 wf,.slice A2 n c2,.slice B2 m d2];have hb0:Below w.heap.size w ((w.alloc (.cells #[.int .i64 z,.int .i64 p,.int .i64 wf,.slice A1 n c1,.slice B1 m d1] 78)).alloc (.cells #[.int .i64 z,.int .i64 p,.int .i64 wf,.slice A2 n c2,.slice B2 m d2] 78)):=((Below.refl _ _).alloc (Nat.le_refl _) _).alloc (by simp only [World.size_alloc];omega) _;generalize (w.alloc (.cells #[.int .i64 z,.int .i64 p,.int .i64 wf,.slice A1 n c1,.slice B1 m d1] 78)).alloc (.cells #[.int .i64 z,.int .i64 p,.int .i64 wf,.slice A2 n c2,.slice B2 m d2] 78)=W0 at *;refine (HN1.out W0 hb0).mono ?_;rintro e w1 ⟨rfl,hb1⟩;have k1:=(b1.below hb1 b1.lt).cell 4;have k2:=(b2.below hb1 b2.lt).cell 4;simp at k1 k2;have HB1:=Hj (hb0.trans (hb1.mono hb0.size));clear b1 b2 hb0 hb1 HN1
 go_wp2_with fail
 refine (HN2.out w1 HB1.out).mono ?_;rintro e w2 ⟨rfl,hb2⟩;have HB2:=Hj (HB1.out.trans (hb2.mono HB1.out.size));clear hb2 k1 k2;go_wp2;go_ret;exact ⟨rfl,HB2.out⟩
theorem PrZ.only {os bs:List (List (Int×Int))} {p p':Int} (h:PrZ os bs p) (h':PrZ os bs p'):p=p':=by
 have key:∀ {p p':Int},(absI p∈dists os bs∧balB os bs ((p:Int):Rat)=true)→(∀ d∈dists os bs,d<absI p'→balB os bs ((d:Int):Rat)=false∧balB os bs ((-d:Int):Rat)=false)→¬ absI p<absI p':=by
  intro p p' h1 h2 hlt;obtain ⟨e1,e2⟩:=h2 _ h1.1 hlt;have h3:=h1.2;unfold absI at e1 e2;split at e1
  ·rename_i hp
   rw [if_pos hp,Int.neg_neg] at e2;rw [h3] at e2;simp at e2
  ·rw [h3] at e1;simp at e1
 have none':∀ {p:Int},(absI p∈dists os bs∧balB os bs ((p:Int):Rat)=true)→(∀ d∈dists os bs,balB os bs ((d:Int):Rat)=false∧balB os bs ((-d:Int):Rat)=false)→False:=by
  intro p h1 h2;obtain ⟨e1,e2⟩:=h2 _ h1.1;have h3:=h1.2;unfold absI at e1 e2;split at e1
  ·rename_i hp
   rw [if_pos hp,Int.neg_neg] at e2;rw [h3] at e2;simp at e2
  ·rw [h3] at e1;simp at e1
 rcases h with ⟨a1,a2,a3,a4⟩|⟨a1,a2⟩
 ·rcases h' with ⟨b1,b2,b3,b4⟩|⟨b1,b2⟩
  ·have k1:=key ⟨a1,a2⟩ b3;have k2:=key ⟨b1,b2⟩ a3;by_cases hp:p<0
   ·by_cases hp':p'<0
    ·unfold absI at k1 k2;rw [if_pos hp,if_pos hp'] at k1 k2;omega
    ·unfold absI at k1 k2;rw [if_pos hp,if_neg hp'] at k1 k2;have e:p' = -p:=by omega
     rw [e,a4 hp] at b2;simp at b2
   ·by_cases hp':p'<0
    ·unfold absI at k1 k2;rw [if_neg hp,if_pos hp'] at k1 k2;have e:p = -p':=by omega
     rw [e,b4 hp'] at a2;simp at a2
    ·unfold absI at k1 k2;rw [if_neg hp,if_neg hp'] at k1 k2;omega
  ·exact (none' ⟨a1,a2⟩ b2).elim
 ·rcases h' with ⟨b1,b2,b3,b4⟩|⟨b1,b2⟩
  ·exact (none' ⟨b1,b2⟩ a2).elim
  ·rw [a1,b1]
theorem RunV.only {os bs:List (List (Int×Int))} {z p wf z' p' wf':Int} {xs ys xs' ys':List Int} {S D S' D':List St.Lv} (h:RunV os bs z p wf xs ys S D) (h':RunV os bs z' p' wf' xs' ys' S' D'):z=z'∧p=p'∧wf=wf'∧xs=xs'∧ys=ys':=by
 have e1:=h.isS.only h'.isS;have e2:=h.isD.only h'.isD;subst e1;subst e2;have e3:=h.tr.only h'.tr;subst e3;exact ⟨rfl,h.pr.only h'.pr,by rw [h.w,h'.w],by rw [h.x,h'.x],by rw [h.y,h'.y]⟩
theorem found_yes (A B A5 A6:Option Addr) (n c m d c5 c6:Nat) (os bs:List (List (Int×Int))) (z p wf:Int) (xs ys:List Int) (S D:List St.Lv) (w:World) (h:CsAt w A n os) (h':CsAt w B m bs) (h5:IsAt w A5 n xs) (h6:IsAt w A6 m ys) (hc:ckB os bs=0) (hr:RunV os bs z p wf xs ys S D) :
  Calls Tryz.prog 63 #[.slice A n c,.slice B m d,.int .i64 z,.int .i64 p,.int .i64 wf,.slice A5 n c5,.slice A6 m c6] w fun e w'=>e=.returned (.bool true)∧Below w.heap.size w w':=by
 have HRU:=Hj (run_ok A B n c m d os bs w h h' hc);have HRV:=Hj hr;have hk:=ckB_iff.1 hc;have hn:=h.1;have hm:=h'.1;have HSM:=Hj (fun W g1 g2 (hW:Below w.heap.size w W) (i1:IRow W g1 xs) (i2:IRow W g2 ys)=>same25_yes (some ⟨g1,0,none⟩) A5 (some ⟨g2,0,none⟩) A6 n n c5 m m c6 z p wf xs ys W (i1.at h5.1) (h5.below hW) (i2.at h6.1) (h6.below hW) (by omega) (by omega));subst hn;subst hm;clear h h' h5 h6 hc hr;go_enter Tryz.func63,Tryz.ntmps63
 go_wp2_with fail
 refine HRU.out.mono ?_;rintro e w1 ⟨z',p',wf',xs',ys',S',D',g1,g2,rfl,hv,hI1,hI2,-,-,hb1⟩;obtain ⟨rfl,rfl,rfl,rfl,rfl⟩:=hv.only HRV.out;have kx:=(Kp.refl w1).alloc (.cells #[.int .i64 z',.int .i64 p',.int .i64 wf',.slice (some ⟨g1,0,none⟩) os.length os.length,.slice (some ⟨g2,0,none⟩) bs.length bs.length] 81);have HB2:=Hj (hb1.trans (Below.mono kx hb1.size));have HS:=Hj (HSM.out _ g1 g2 HB2.out (hI1.below kx) (hI2.below kx));clear hv hI1 hI2 hb1 kx HSM HRU HRV
 go_wp2_with fail
 refine HS.out.mono ?_;rintro e w2 ⟨rfl,hb2⟩;have HB3:=Hj (HB2.out.trans (hb2.mono HB2.out.size));clear hb2;go_wp2;go_ret;exact ⟨rfl,HB3.out⟩
def okB (S D:List St.Lv) (u:Int):Bool:=match uP S u,uP D u with
 | some a,some b=>decide (a<b)
 | _,_=>false
theorem okB_iff {S D:List St.Lv} {u:Int}:okB S D u=true↔okU S D u:=by
 unfold okB okU;cases h1:uP S u<;>cases h2:uP D u<;>simp
theorem trB {S D:List St.Lv} {n:Nat} (h1:∀ k:Nat,k<n→okB S D (k:Int)=true) (h2:okB S D (n:Int)=false):TrZ S D (n:Int):=by
 refine ⟨by omega,fun u h0 hu=>?_,fun h=>?_⟩
 ·have:=h1 u.toNat (by omega);rw [Int.toNat_of_nonneg h0] at this;exact okB_iff.1 this
 ·rw [okB_iff.2 h] at h2;simp at h2
def prB (os bs:List (List (Int×Int))) (p:Int):Bool :=
 (dists os bs).elem (absI p) && balB os bs ((p:Int):Rat) && ((dists os bs).all fun d=>!(decide (d<absI p)) || (!(balB os bs ((d:Int):Rat)) && !(balB os bs ((-d:Int):Rat)))) && (!(decide (p<0)) || !(balB os bs ((-p:Int):Rat)))
theorem prB_ok {os bs:List (List (Int×Int))} {p:Int} (h:prB os bs p=true):PrZ os bs p:=by
 unfold prB at h;simp only [Bool.and_eq_true,Bool.or_eq_true,Bool.not_eq_true',List.all_eq_true,decide_eq_false_iff_not,List.elem_eq_mem,decide_eq_true_eq] at h;obtain ⟨⟨⟨h1,h2⟩,h3⟩,h4⟩:=h;refine Or.inl ⟨h1,h2,fun d hd hlt=>?_,fun hp=>?_⟩
 ·rcases h3 d hd with h9|h9
  ·exact absurd hlt h9
  ·exact h9
 ·rcases h4 with h9|h9
  ·exact absurd hp h9
  ·exact h9
theorem ex25_0:RunV [[(5,1),(4,3)],[(3,2)]] [[(4,9),(4,2)],[(3,4)]] 7 (2) 39 [5,2] [4,3] [(1,5,[5,0]),(2,3,[0,3]),(3,4,[4,0])] [(9,4,[4,0]),(4,3,[0,3]),(2,4,[4,0])]:=by
 have hS:St.IsLv true 2 (St.tri 0 [[(5,1),(4,3)],[(3,2)]]) [(1,5,[5,0]),(2,3,[0,3]),(3,4,[4,0])]:=⟨by simp [St.ltU],fun p=>by simp [St.tri];try omega,by intro x hx;simp at hx;rcases hx with rfl|rfl|rfl<;>decide⟩;have hD:St.IsLv false 2 (St.tri 0 [[(4,9),(4,2)],[(3,4)]]) [(9,4,[4,0]),(4,3,[0,3]),(2,4,[4,0])]:=⟨by simp [St.ltU],fun p=>by simp [St.tri];try omega,by intro x hx;simp at hx;rcases hx with rfl|rfl|rfl<;>decide⟩;exact ⟨hS,hD,lv_valid (by decide +kernel) hS,lv_valid (by decide +kernel) hD,trB (n:=7) (by decide +kernel) (by decide +kernel),prB_ok (by decide +kernel),by decide +kernel,by decide +kernel,by decide +kernel⟩
theorem ex25_0_ck:ckB [[(5,1),(4,3)],[(3,2)]] [[(4,9),(4,2)],[(3,4)]]=0:=by decide +kernel
theorem ex25_1:RunV [[(5,1),(4,3)],[(3,2)]] [] 0 (0) 0 [0,0] [] [(1,5,[5,0]),(2,3,[0,3]),(3,4,[4,0])] []:=by
 have hS:St.IsLv true 2 (St.tri 0 [[(5,1),(4,3)],[(3,2)]]) [(1,5,[5,0]),(2,3,[0,3]),(3,4,[4,0])]:=⟨by simp [St.ltU],fun p=>by simp [St.tri];try omega,by intro x hx;simp at hx;rcases hx with rfl|rfl|rfl<;>decide⟩;have hD:St.IsLv false 0 (St.tri 0 []) []:=⟨by simp,fun p=>by simp [St.tri],by simp⟩;exact ⟨hS,hD,lv_valid (by decide +kernel) hS,lv_valid (by decide +kernel) hD,trB (n:=0) (by decide +kernel) (by decide +kernel),prB_ok (by decide +kernel),by decide +kernel,by decide +kernel,by decide +kernel⟩
theorem ex25_1_ck:ckB [[(5,1),(4,3)],[(3,2)]] []=0:=by decide +kernel
theorem ex25_2:RunV [[(2,-5)]] [] 0 (-5) 0 [0] [] [(-5,2,[2])] []:=by
 have hS:St.IsLv true 1 (St.tri 0 [[(2,-5)]]) [(-5,2,[2])]:=⟨by simp [St.ltU],fun p=>by simp [St.tri];try omega,by intro x hx;simp at hx;rcases hx with rfl<;>decide⟩;have hD:St.IsLv false 0 (St.tri 0 []) []:=⟨by simp,fun p=>by simp [St.tri],by simp⟩;exact ⟨hS,hD,lv_valid (by decide +kernel) hS,lv_valid (by decide +kernel) hD,trB (n:=0) (by decide +kernel) (by decide +kernel),prB_ok (by decide +kernel),by decide +kernel,by decide +kernel,by decide +kernel⟩
theorem ex25_2_ck:ckB [[(2,-5)]] []=0:=by decide +kernel
theorem ex25_3:RunV [[(2,3)]] [[(5,8)]] 2 (8) 10 [2] [2] [(3,2,[2])] [(8,5,[5])]:=by
 have hS:St.IsLv true 1 (St.tri 0 [[(2,3)]]) [(3,2,[2])]:=⟨by simp [St.ltU],fun p=>by simp [St.tri];try omega,by intro x hx;simp at hx;rcases hx with rfl<;>decide⟩;have hD:St.IsLv false 1 (St.tri 0 [[(5,8)]]) [(8,5,[5])]:=⟨by simp [St.ltU],fun p=>by simp [St.tri];try omega,by intro x hx;simp at hx;rcases hx with rfl<;>decide⟩;exact ⟨hS,hD,lv_valid (by decide +kernel) hS,lv_valid (by decide +kernel) hD,trB (n:=2) (by decide +kernel) (by decide +kernel),prB_ok (by decide +kernel),by decide +kernel,by decide +kernel,by decide +kernel⟩
theorem ex25_3_ck:ckB [[(2,3)]] [[(5,8)]]=0:=by decide +kernel
theorem ex25_4:RunV [[(5,3)]] [[(2,8)]] 2 (3) 10 [2] [2] [(3,5,[5])] [(8,2,[2])]:=by
 have hS:St.IsLv true 1 (St.tri 0 [[(5,3)]]) [(3,5,[5])]:=⟨by simp [St.ltU],fun p=>by simp [St.tri];try omega,by intro x hx;simp at hx;rcases hx with rfl<;>decide⟩;have hD:St.IsLv false 1 (St.tri 0 [[(2,8)]]) [(8,2,[2])]:=⟨by simp [St.ltU],fun p=>by simp [St.tri];try omega,by intro x hx;simp at hx;rcases hx with rfl<;>decide⟩;exact ⟨hS,hD,lv_valid (by decide +kernel) hS,lv_valid (by decide +kernel) hD,trB (n:=2) (by decide +kernel) (by decide +kernel),prB_ok (by decide +kernel),by decide +kernel,by decide +kernel,by decide +kernel⟩
theorem ex25_4_ck:ckB [[(5,3)]] [[(2,8)]]=0:=by decide +kernel
theorem ex25_5:RunV [[(5,-4)]] [[(5,6)]] 5 (0) 50 [5] [5] [(-4,5,[5])] [(6,5,[5])]:=by
 have hS:St.IsLv true 1 (St.tri 0 [[(5,-4)]]) [(-4,5,[5])]:=⟨by simp [St.ltU],fun p=>by simp [St.tri];try omega,by intro x hx;simp at hx;rcases hx with rfl<;>decide⟩;have hD:St.IsLv false 1 (St.tri 0 [[(5,6)]]) [(6,5,[5])]:=⟨by simp [St.ltU],fun p=>by simp [St.tri];try omega,by intro x hx;simp at hx;rcases hx with rfl<;>decide⟩;exact ⟨hS,hD,lv_valid (by decide +kernel) hS,lv_valid (by decide +kernel) hD,trB (n:=5) (by decide +kernel) (by decide +kernel),prB_ok (by decide +kernel),by decide +kernel,by decide +kernel,by decide +kernel⟩
theorem ex25_5_ck:ckB [[(5,-4)]] [[(5,6)]]=0:=by decide +kernel
def PB (k:Nat):Nat:=4294967296 ^ (7*3 ^ k)
theorem pb_zero:18446744073709551616<PB 0:=by decide
def Lv (k:Nat) (q:Rat):Prop:=q.num.natAbs<PB k∧q.den<PB k
theorem lv_mk {n:Int} {d N:Nat} (hd:d≠0) (h1:n.natAbs<N) (h2:d<N):(mkRat n d).num.natAbs<N∧(mkRat n d).den<N:=by
 rw [mk_num _ _ hd,mk_den _ _ hd,Int.natAbs_tdiv,Int.natAbs_natCast];exact ⟨Nat.lt_of_le_of_lt (Nat.div_le_self _ _) h1,Nat.lt_of_le_of_lt (Nat.div_le_self _ _) h2⟩
theorem Lv.self (q:Rat):q=mkRat q.num ((q.den:Nat):Int).natAbs:=by rw [Int.natAbs_natCast,Rat.mkRat_self]
section
variable {k:Nat} {a b:Rat}
end
def QK (k:Nat) (w:World) (neg:Bool) (A:Option Addr) (n c:Nat) (neg':Bool) (A':Option Addr) (n' c':Nat) (q:Rat):Prop:=QAt (PB k) (PB k) w neg A n c neg' A' n' c' q
section
variable {k j:Nat} {w w':World} {an an' bn bn':Bool} {aA aA' bA bA':Option Addr} {ak ac ak' ac' bk bc bk' bc':Nat} {q qa qb:Rat}
end
def RQ (w:World) (q:Rat) (A:Option Addr) (k c:Nat) (A':Option Addr) (k' c':Nat):Prop:=k≤c∧k'≤c'∧Wat w A k (digs q.num.natAbs)∧Wat w A' k' (denW q.den)
section
variable {w w':World} {q:Rat} {A A':Option Addr} {k c k' c':Nat}
theorem RQ.below (h:RQ w q A k c A' k' c') (hb:Below w.heap.size w w'):RQ w' q A k c A' k' c':=⟨h.1,h.2.1,h.2.2.1.below hb,h.2.2.2.below hb⟩
end
def vh:List Int→Nat
 | []=>0
 | d :: l=>d.toNat+65536*vh l
theorem vh_cons (d:Int) (l:List Int):vh (d :: l)=d.toNat+65536*vh l:=rfl
theorem Dg.nil:Dg []:=fun i=>by simp
theorem Dg.head {d:Int} {l:List Int} (h:Dg (d :: l)):0≤d∧d<65536:=by have:=h 0;simpa using this
theorem Dg.tail {d:Int} {l:List Int} (h:Dg (d :: l)):Dg l:=fun i=>by have:=h (i+1);simpa using this
theorem Dg.cons {d:Int} {l:List Int} (h0:0≤d) (h1:d<65536) (h:Dg l):Dg (d :: l):=fun i=>by
 match i with
 | 0=>simp;omega
 | i+1=>have:=h i;simpa using this
theorem Dg.snoc {d:Int} {l:List Int} (h:Dg l) (h0:0≤d) (h1:d<65536):Dg (l ++ [d]):=by
 induction l with
 | nil=>exact Dg.cons h0 h1 Dg.nil
 | cons e l ih=>exact Dg.cons h.head.1 h.head.2 (ih h.tail)
theorem vh_snoc (a:List Int) (d:Int):vh (a ++ [d])=vh a+65536 ^ a.length*d.toNat:=by
 induction a with
 | nil=>simp [vh]
 | cons e a ih =>
  simp only [List.cons_append,vh_cons,ih,List.length_cons,Nat.pow_succ,Nat.mul_add];rw [show 65536*(65536 ^ a.length*d.toNat)=65536 ^ a.length*65536*d.toNat by
   rw [← Nat.mul_assoc,Nat.mul_comm 65536 (65536 ^ a.length)]]
  omega
theorem vh_lt {l:List Int} (h:Dg l):vh l<65536 ^ l.length:=by
 induction l with
 | nil=>simp [vh]
 | cons d l ih =>
  have h1:=ih h.tail;have h2:=h.head;simp only [vh_cons,List.length_cons,Nat.pow_succ];omega
theorem vh_get {l:List Int} (h:Dg l) (i:Nat):l[i]?.getD 0=((vh l / 65536 ^ i % 65536:Nat):Int):=by
 induction l generalizing i with
 | nil=>simp [vh]
 | cons d l ih =>
  have h2:=h.head
  match i with
  | 0=>simp [vh_cons];omega
  | i+1 =>
   rw [List.getElem?_cons_succ,ih h.tail i,vh_cons,Nat.pow_succ,Nat.mul_comm (65536 ^ i),← Nat.div_div_eq_div_mul,show (d.toNat+65536*vh l) / 65536=vh l by omega]
def hd (n:Nat):List Int:=if h:n=0 then [] else ((n % 65536:Nat):Int) :: hd (n / 65536)
 termination_by n
 decreasing_by exact Nat.div_lt_self (Nat.pos_of_ne_zero h) (by decide)
theorem hd_zero:hd 0=[]:=by rw [hd];simp
theorem hd_pos {n:Nat} (h:n≠0):hd n=((n % 65536:Nat):Int) :: hd (n / 65536):=by
 rw [hd];simp [h]
theorem vh_hd (n:Nat):vh (hd n)=n:=by
 induction n using Nat.strongRecOn with
 | _ n ih =>
  rcases Nat.eq_zero_or_pos n with h0|h0
  ·subst h0;rw [hd_zero];rfl
  ·rw [hd_pos (by omega),vh_cons,ih _ (Nat.div_lt_self h0 (by decide)),Int.toNat_natCast];omega
theorem hd_Dg (n:Nat):Dg (hd n):=by
 induction n using Nat.strongRecOn with
 | _ n ih =>
  rcases Nat.eq_zero_or_pos n with h0|h0
  ·subst h0;rw [hd_zero];exact Dg.nil
  ·rw [hd_pos (by omega)];exact Dg.cons (by omega) (by omega) (ih _ (Nat.div_lt_self h0 (by decide)))
theorem hd_len_le {n k:Nat}:(hd n).length≤k↔n<65536 ^ k:=by
 induction k generalizing n with
 | zero =>
  constructor
  ·intro h;rcases Nat.eq_zero_or_pos n with h0|h0
   ·omega
   ·rw [hd_pos (by omega)] at h;simp at h
  ·intro h;have:n=0:=by simpa using h
   subst this;rw [hd_zero];simp
 | succ k ih =>
  rcases Nat.eq_zero_or_pos n with h0|h0
  ·subst h0;rw [hd_zero];simp [Nat.pow_pos]
  ·rw [hd_pos (by omega),List.length_cons,Nat.pow_succ];have:=@ih (n / 65536);rw [Nat.add_le_add_iff_right,this,Nat.div_lt_iff_lt_mul (by decide)]
theorem hd_len_zero {n:Nat}:(hd n).length=0↔n=0:=by
 have:=@hd_len_le n 0;simp only [Nat.pow_zero] at this;omega
theorem hd_len_mono {m n:Nat} (h:m≤n):(hd m).length≤(hd n).length:=by
 rw [hd_len_le];have:=(@hd_len_le n (hd n).length).1 (Nat.le_refl _);omega
theorem hd_vh {l:List Int} (h:Dg l) (hl:∀ j,l.length=j+1→l[j]?.getD 0≠0):hd (vh l)=l:=by
 induction l with
 | nil=>exact hd_zero
 | cons d l ih =>
  have h2:=h.head;have hl2:∀ j,l.length=j+1→l[j]?.getD 0≠0:=fun j hj=>by
   have:=hl (j+1) (by rw [List.length_cons,hj])
   rwa [List.getElem?_cons_succ] at this
  have e:=ih h.tail hl2;have hne:vh (d :: l)≠0:=by
   intro h0;rw [vh_cons] at h0;have hv:vh l=0:=by omega
   rw [hv,hd_zero] at e;subst e;have:=hl 0 rfl;simp at this;omega
  rw [vh_cons] at hne ⊢;rw [hd_pos hne,show (d.toNat+65536*vh l) / 65536=vh l by omega,e,show (d.toNat+65536*vh l) % 65536=d.toNat by omega,Int.toNat_of_nonneg h2.1]
theorem vh_take_zero {l:List Int} {k:Nat} (h:∀ i,k≤i→l[i]?.getD 0=0):vh (l.take k)=vh l:=by
 induction l generalizing k with
 | nil=>simp
 | cons d l ih =>
  match k with
  | 0 =>
   have h0:=h 0 (Nat.le_refl _);have:=ih (k:=0) fun i hi=>by have:=h (i+1) (by omega);rwa [List.getElem?_cons_succ] at this
   simp at h0;simp [vh] at this ⊢;omega
  | k+1 =>
   rw [List.take_succ_cons,vh_cons,vh_cons,ih fun i hi=>by have:=h (i+1) (by omega);rwa [List.getElem?_cons_succ] at this]
theorem tl_hd {l:List Int} (h:Dg l):l.take (tl l l.length)=hd (vh l)∧tl l l.length=(hd (vh l)).length:=by
 have h1:vh (l.take (tl l l.length))=vh l:=vh_take_zero fun i hi=>by
  by_cases h:i<l.length
  ·exact tl_zero _ hi h
  ·rw [List.getElem?_eq_none (by omega)];rfl
 have h2:(l.take (tl l l.length)).length=tl l l.length:=by rw [List.length_take,Nat.min_eq_left (tl_le _ _)]
 have h3:=hd_vh (l:=l.take (tl l l.length)) (h.take _) fun j hj=>by
  rw [h2] at hj;rw [List.getElem?_take,if_pos (by omega)];exact tl_last l hj
 rw [h1] at h3;exact ⟨h3.symm,by rw [h3,h2]⟩
theorem vh_halves {l:List Nat} (hw:Ws l):vh (halvesL l)=val l:=by
 induction l with
 | nil=>rfl
 | cons d l ih =>
  have e:halvesL (d :: l)=[((d:Nat):Int) % 65536,((d:Nat):Int) / 65536] ++ halvesL l:=by unfold halvesL;rw [List.flatMap_cons]
  have hd:=hw.head;rw [e,val_cons];simp only [List.cons_append,List.nil_append,vh_cons,ih hw.tail];omega
theorem half_len {v K:Nat} (h:v<4294967296 ^ K):(hd v).length≤2*K:=by
 rw [hd_len_le,Nat.pow_mul];exact h
theorem words_hd (v:Nat):wdsL (hd v) (((hd v).length+1) / 2)=digs v:=by
 have h:=least_digs (digs_Ws v);have e:=tl_hd (halvesL_Dg (digs_Ws v));rw [vh_halves (digs_Ws v),val_digs,halvesL_len] at e;rw [e.1,e.2,val_digs] at h;exact h
def cmpN (a b:Nat):Int:=if a<b then -1 else if b<a then 1 else 0
theorem div_step (a i:Nat):a / 65536 ^ i=65536*(a / 65536 ^ (i+1))+a / 65536 ^ i % 65536:=by
 rw [Nat.pow_succ,← Nat.div_div_eq_div_mul];omega
theorem lt_of_div {a b i:Nat} (h:a / 65536 ^ i<b / 65536 ^ i):a<b:=by
 rcases Nat.lt_or_ge a b with h1|h1
 ·exact h1
 ·have:=Nat.div_le_div_right (c:=65536 ^ i) h1;omega
theorem mod_step (a i:Nat):a % 65536 ^ (i+1)=a % 65536 ^ i+65536 ^ i*(a / 65536 ^ i % 65536):=by
 rw [Nat.pow_succ,Nat.mod_mul]
theorem quo_step (a b i:Nat) (hb:0<b):(a / 65536 ^ (i+1) % b*65536+a / 65536 ^ i % 65536) / b=a / b / 65536 ^ i % 65536∧(a / 65536 ^ (i+1) % b*65536+a / 65536 ^ i % 65536) % b=a / 65536 ^ i % b:=by
 have e1:=div_step a i;have e2:=Nat.div_add_mod (a / 65536 ^ (i+1)) b;have e3:=Nat.mod_lt (a / 65536 ^ (i+1)) hb;have e4:a / b / 65536 ^ i=a / 65536 ^ i / b:=by rw [Nat.div_div_eq_div_mul,Nat.mul_comm,← Nat.div_div_eq_div_mul]
 have e5:a / 65536 ^ i % 65536<65536:=Nat.mod_lt _ (by decide);rw [e4];generalize a / 65536 ^ (i+1)=X at *;generalize a / 65536 ^ i=Y at *;generalize X % b=R at *;generalize hQ:X / b=Q at *;generalize Y % 65536=D at *;have e6:Y=b*(65536*Q)+(R*65536+D):=by
  rw [e1,← e2,Nat.mul_add,Nat.mul_left_comm];omega
 have e7:(R*65536+D) / b<65536:=by
  rw [Nat.div_lt_iff_lt_mul hb];have:(R+1)*65536≤b*65536:=Nat.mul_le_mul_right _ e3;omega
 refine ⟨?_,by rw [e6,Nat.mul_add_mod]⟩;rw [e6,Nat.mul_add_div hb,Nat.mul_add_mod,Nat.mod_eq_of_lt e7]
def RA (w:World) (A:Option Addr) (n c v:Nat):Prop:=∃ hs,IsAt w A n hs∧Dg hs∧vh hs=v∧n≤c
def HA (w:World) (A:Option Addr) (n c v:Nat):Prop:=n=(hd v).length∧IsAt w A n (hd v)∧n≤c
section
variable {w w':World} {A:Option Addr} {n c v:Nat}
theorem HA.ra (h:HA w A n c v):RA w A n c v:=⟨hd v,h.2.1,hd_Dg v,vh_hd v,h.2.2⟩
theorem RA.below (h:RA w A n c v) (hb:Below w.heap.size w w'):RA w' A n c v:=by
 obtain ⟨hs,h1,h2⟩:=h;exact ⟨hs,h1.below hb,h2⟩
theorem HA.below (h:HA w A n c v) (hb:Below w.heap.size w w'):HA w' A n c v:=⟨h.1,h.2.1.below hb,h.2.2⟩
theorem RA.lt (h:RA w A n c v):v<65536 ^ n:=by
 obtain ⟨hs,h1,h2,h3,h4⟩:=h;have:=vh_lt h2;rw [h1.1,h3] at this;exact this
theorem HA.len (h:HA w A n c v) {k:Nat} (hk:v<65536 ^ k):n≤k:=by rw [h.1];exact hd_len_le.2 hk
theorem HA.zero (h:HA w A n c v):n=0↔v=0:=by rw [h.1];exact hd_len_zero
end
def dg (v i:Nat):Nat:=v / 65536 ^ i % 65536
theorem dg_lt (v i:Nat):dg v i<65536:=Nat.mod_lt _ (by decide)
theorem trim_at (A:Option Addr) (n c v:Nat) (w:World) (h:RA w A n c v) (hn:n≤1000000000000) :
  Calls Tryz.prog 211 #[.slice A n c] w fun e w'=>∃ A1 n1,e=.returned (.slice A1 n1 c)∧HA w' A1 n1 c v∧w'=w∧∀ b o,A=some ⟨b,o,none⟩→A1=some ⟨b,o,none⟩:=by
 obtain ⟨hs,h1,h2,h3,h4⟩:=h;refine (rtrim_at A n c hs w h1 h4 hn).mono ?_;rintro e w' ⟨A1,rfl,hI,rfl,hAA⟩;have e1:=tl_hd h2;rw [h1.1,h3] at e1;rw [e1.1] at hI;exact ⟨A1,tl hs n,rfl,⟨e1.2,hI,Nat.le_trans (tl_le _ _) h4⟩,rfl,hAA⟩
theorem trim_ra (A:Option Addr) (n c v:Nat) (w:World) (h:RA w A n c v) (hn:n≤1000000000000) :
  Calls Tryz.prog 211 #[.slice A n c] w fun e w'=>∃ A1 n1,e=.returned (.slice A1 n1 c)∧HA w' A1 n1 c v∧w'=w :=
 (trim_at A n c v w h hn).mono fun e w' ⟨A1,n1,h1,h2,h3,_⟩=>⟨A1,n1,h1,h2,h3⟩
theorem at_ra (A:Option Addr) (n c v i:Nat) (w:World) (h:RA w A n c v) :
  Calls Tryz.prog 212 #[.slice A n c,.int .i64 i] w fun e w'=>e=.returned (.int .i64 ((dg v i:Nat):Int))∧w'=w:=by
 obtain ⟨hs,h1,h2,h3,h4⟩:=h;have:=rat_any A n c i hs w h1;rw [vh_get h2,h3] at this;exact this
theorem halves_any (A:Option Addr) (n c:Nat) (l:List Nat) (w:World) (h:Wat w A n l) (hn:n≤100000000000) :
  Calls Tryz.prog 186 #[.slice A n c] w fun e w'=>∃ A1 n1 c1,e=.returned (.slice A1 n1 c1)∧HA w' A1 n1 c1 (val l)∧Below w.heap.size w w':=by
 refine (rhalves_any A n c l w h hn).mono ?_;rintro e w' ⟨A1,c1,rfl,hI,hb,hc⟩;have e1:=tl_hd (halvesL_Dg h.2.1);rw [halvesL_len,h.1,vh_halves h.2.1] at e1;rw [e1.1] at hI;exact ⟨A1,_,c1,rfl,⟨e1.2,hI,hc⟩,hb⟩
theorem of_any (neg:Bool) (A:Option Addr) (n c v:Nat) (w:World) (h:RA w A n c v) (hn:n≤1000000000000) :
  Calls Tryz.prog 184 #[.bool neg,.slice A n c] w (RetZ w (sg neg v)):=by
 obtain ⟨hs,h1,h2,h3,h4⟩:=h;refine (rof_any neg A n c hs w h1 h4 hn h2).mono fun e w' hr=>?_;have e1:=tl_hd h2;rw [h1.1,h3] at e1;rw [e1.1,e1.2,words_hd] at hr;have h2:=val_digs v;rw [← h2] at hr;have:=hr.toZ (digs_Ws v)
 rwa [h2] at this
theorem cmp_step {a b k:Nat} (h:a / 65536 ^ (k+1)=b / 65536 ^ (k+1)):(dg a k<dg b k→a<b)∧(dg b k<dg a k→b<a)∧(dg a k=dg b k→a / 65536 ^ k=b / 65536 ^ k):=by
 have e1:=div_step a k;have e2:=div_step b k;unfold dg;exact ⟨fun h1=>lt_of_div (i:=k) (by omega),fun h1=>lt_of_div (i:=k) (by omega),fun h1=>by omega⟩
theorem cmp_lt {a b:Nat} (h:a<b):cmpN a b = -1:=by unfold cmpN;rw [if_pos h]
theorem cmp_gt {a b:Nat} (h:b<a):cmpN a b=1:=by unfold cmpN;rw [if_neg (by omega),if_pos h]
theorem cmp_eq (a:Nat):cmpN a a=0:=by unfold cmpN;simp
theorem cmp_ra (A B:Option Addr) (n c m d a b:Nat) (w:World) (h:RA w A n c a) (h':RA w B m d b) (hn:n≤1000000000000) (hm:m≤1000000000000) :
  Calls Tryz.prog 188 #[.slice A n c,.slice B m d] w fun e w'=>e=.returned (.int .i64 (cmpN a b))∧w'=w:=by
 have TA:=Hj (fun (i:Nat)=>at_ra A n c a i w h);have TB:=Hj (fun (i:Nat)=>at_ra B m d b i w h');obtain ⟨p,hp1,hp2,hp3⟩:∃ p:Nat,max (n:Int) (m:Int)=(p:Int)∧a / 65536 ^ p=b / 65536 ^ p∧p≤1000000000000:=by
  refine ⟨max n m,by omega,?_,by omega⟩;rw [Nat.div_eq_of_lt (Nat.lt_of_lt_of_le h.lt (Nat.pow_le_pow_right (by decide) (Nat.le_max_left n m))),Nat.div_eq_of_lt (Nat.lt_of_lt_of_le h'.lt (Nat.pow_le_pow_right (by decide) (Nat.le_max_right n m)))]
 have hp4:(if (n:Int)<(m:Int) then (m:Int) else (n:Int))=(p:Int):=by rw [← hp1];split<;>omega
 have hp5:(if n<m then (m:Int) else (n:Int))=(p:Int):=by rw [← hp1];split<;>omega
 have HP:=Hj hp2;clear hp2 h h';go_enter Tryz.func188,Tryz.ntmps188
 go_wp2_with fail
 go_loopw [5] (fun t wr=>∃ k:Nat,k≤p∧t=.int .i64 ((k:Int)-1)∧Hid (a / 65536 ^ k=b / 65536 ^ k∧wr=w)) (fun t _=>(intOf t+1).toNat)
 case atStart=>exact ⟨p,Nat.le_refl _,by first|rfl|go_num,HP.out,rfl⟩
 case round =>
  obtain ⟨k,hk,rfl,hR⟩:=hrel;obtain ⟨hR1,rfl⟩:=hR.out;by_cases h0:k=0
  ·subst h0;have hab:a=b:=by simpa using hR1
   subst hab;have HC:=Hj (cmp_eq a);clear hR hR1;go_wp2;go_ret;exact ⟨by rw [HC.out];rfl,rfl⟩
  ·obtain ⟨j,rfl⟩:∃ j,k=j+1:=⟨k-1,by omega⟩;have ej:(((j+1:Nat):Int)-1)=(j:Int):=by omega
   have hs:=Hj (cmp_step hR1);have T1:=Hj (TA.out j);have T2:=Hj (TB.out j);generalize dg a j=x at *;generalize dg b j=y at *;simp only [ej];clear hR hR1 TA TB HP;have tri:x<y∨y<x∨x=y:=by omega
   rcases tri with h1|h1|h1
   ·have d1:decide (x<y)=true:=decide_eq_true (by omega);have HC:=Hj (cmp_lt (hs.out.1 h1));clear h1
    go_wp2_with fail
    refine T1.out.mono ?_;rintro e w2 ⟨rfl,rfl⟩
    go_wp2_with fail
    refine T2.out.mono ?_;rintro e w3 ⟨rfl,rfl⟩;go_wp2;go_ret;exact ⟨by rw [HC.out];rfl,rfl⟩
   ·have d1:decide (x<y)=false:=decide_eq_false (by omega);have d2:decide (y<x)=true:=decide_eq_true (by omega);have HC:=Hj (cmp_gt (hs.out.2.1 h1));clear h1
    go_wp2_with fail
    refine T1.out.mono ?_;rintro e w2 ⟨rfl,rfl⟩
    go_wp2_with fail
    refine T2.out.mono ?_;rintro e w3 ⟨rfl,rfl⟩
    go_wp2_with fail
    refine T1.out.mono ?_;rintro e w2 ⟨rfl,rfl⟩
    go_wp2_with fail
    refine T2.out.mono ?_;rintro e w3 ⟨rfl,rfl⟩;go_wp2;go_ret;exact ⟨by rw [HC.out];rfl,rfl⟩
   ·subst h1;have HC:=Hj (hs.out.2.2 rfl);have d1:decide (x<x)=false:=decide_eq_false (by omega)
    go_wp2_with fail
    refine T1.out.mono ?_;rintro e w2 ⟨rfl,rfl⟩
    go_wp2_with fail
    refine T2.out.mono ?_;rintro e w3 ⟨rfl,rfl⟩
    go_wp2_with fail
    refine T1.out.mono ?_;rintro e w2 ⟨rfl,rfl⟩
    go_wp2_with fail
    refine T2.out.mono ?_;rintro e w3 ⟨rfl,rfl⟩;go_wp2;go_roundw
    case rel=>exact ⟨j,by omega,by first|rfl|go_num,HC.out,by first|rfl|trivial⟩
    case measure=>simp [intOf]
theorem mod_dg (a i:Nat):a % 65536 ^ (i+1)=a % 65536 ^ i+65536 ^ i*dg a i:=mod_step a i
theorem snoc_val {hs:List Int} {i x:Nat} (hl:hs.length=i):vh (hs ++ [((x % 65536:Nat):Int)])+65536 ^ (i+1)*(x / 65536)=vh hs+65536 ^ i*x:=by
 rw [vh_snoc,hl,Int.toNat_natCast,Nat.pow_succ,Nat.mul_assoc,Nat.add_assoc,← Nat.mul_add,Nat.mod_add_div]
def SubI (a b i:Nat) (hs:List Int) (lt:Nat):Prop:=hs.length=i∧Dg hs∧vh hs+b % 65536 ^ i=a % 65536 ^ i+65536 ^ i*lt∧lt≤1
theorem SubI.start (a b:Nat):SubI a b 0 [] 0:=⟨rfl,Dg.nil,by simp [vh,Nat.mod_one],by omega⟩
theorem SubI.step0 {a b i lt:Nat} {hs:List Int} (h:SubI a b i hs lt) (hv:dg b i+lt≤dg a i):SubI a b (i+1) (hs ++ [((dg a i:Nat):Int)-(dg b i:Nat)-(lt:Nat)]) 0:=by
 obtain ⟨h1,h2,h3,h4⟩:=h;have:=dg_lt a i;refine ⟨by simp [h1],h2.snoc (by omega) (by omega),?_,by omega⟩;rw [vh_snoc,h1,mod_dg,mod_dg,show (((dg a i:Nat):Int)-(dg b i:Nat)-(lt:Nat)).toNat=dg a i-dg b i-lt by omega];obtain ⟨k,hk⟩:∃ k,dg a i=dg b i+lt+k:=⟨dg a i-dg b i-lt,by omega⟩;rw [hk,show dg b i+lt+k-dg b i-lt=k by omega,Nat.mul_add,Nat.mul_add];omega
theorem SubI.step1 {a b i lt:Nat} {hs:List Int} (h:SubI a b i hs lt) (hv:dg a i<dg b i+lt):SubI a b (i+1) (hs ++ [((dg a i:Nat):Int)-(dg b i:Nat)-(lt:Nat)+65536]) 1:=by
 obtain ⟨h1,h2,h3,h4⟩:=h;have:=dg_lt a i;have:=dg_lt b i;refine ⟨by simp [h1],h2.snoc (by omega) (by omega),?_,by omega⟩;rw [vh_snoc,h1,mod_dg,mod_dg,show (((dg a i:Nat):Int)-(dg b i:Nat)-(lt:Nat)+65536).toNat=dg a i+65536-dg b i-lt by omega];obtain ⟨k,hk⟩:∃ k,dg a i+65536=dg b i+lt+k:=⟨dg a i+65536-dg b i-lt,by omega⟩;have e:=congrArg (65536 ^ i * ·) hk;simp only [Nat.mul_add] at e;rw [hk,show dg b i+lt+k-dg b i-lt=k by omega,Nat.pow_succ];omega
theorem SubI.done {a b i lt:Nat} {hs:List Int} (h:SubI a b i hs lt) (ha:a<65536 ^ i) (hb:b≤a):vh hs=a-b:=by
 obtain ⟨h1,h2,h3,h4⟩:=h;have hl:=vh_lt h2;rw [h1] at hl;rw [Nat.mod_eq_of_lt ha,Nat.mod_eq_of_lt (by omega)] at h3;obtain rfl|rfl:lt=0∨lt=1:=by omega
 ·omega
 ·omega
def TimI (b n i:Nat) (hs:List Int) (cy:Nat):Prop:=hs.length=i∧Dg hs∧vh hs+65536 ^ i*cy=b % 65536 ^ i*n∧cy<65536
theorem TimI.start (b n:Nat):TimI b n 0 [] 0:=⟨rfl,Dg.nil,by simp [vh,Nat.mod_one],by omega⟩
theorem dg_mul_le (b i:Nat) {n:Nat} (hn:n≤65536):dg b i*n≤65535*65536:=Nat.mul_le_mul (by have:=dg_lt b i;omega) hn
theorem TimI.step {b n i cy:Nat} {hs:List Int} (h:TimI b n i hs cy) (hn:n≤65536):TimI b n (i+1) (hs ++ [(((dg b i*n+cy) % 65536:Nat):Int)]) ((dg b i*n+cy) / 65536):=by
 obtain ⟨h1,h2,h3,h4⟩:=h;have:=dg_mul_le b i hn;refine ⟨by simp [h1],h2.snoc (by omega) (by omega),?_,by omega⟩;rw [snoc_val h1,mod_dg,Nat.mul_add,Nat.add_mul,Nat.mul_assoc];omega
theorem TimI.done {b n i:Nat} {hs:List Int} (h:TimI b n i hs 0) (hb:b<65536 ^ i):vh hs=b*n:=by
 have:=h.2.2.1;rw [Nat.mod_eq_of_lt hb] at this;omega
theorem dg_over {b i:Nat} (hb:b<65536 ^ i):dg b i=0:=by unfold dg;rw [Nat.div_eq_of_lt hb]
theorem lt_pow_le {b i k:Nat} (hb:b<65536 ^ i) (h:i≤k):b<65536 ^ k:=Nat.lt_of_lt_of_le hb (Nat.pow_le_pow_right (by decide) h)
theorem vh_list (v:Nat):∀ n,vh ((List.range n).map fun j=>((dg v j:Nat):Int))=v % 65536 ^ n
 | 0=>by simp [vh,Nat.mod_one]
 | n+1=>by
  rw [List.range_succ,List.map_append,List.map_cons,List.map_nil,vh_snoc,vh_list v n,mod_dg];simp
theorem Dg_of {hs:List Int} {v:Nat} (h:∀ j,j<hs.length→hs[j]?.getD 0=((dg v j:Nat):Int)):Dg hs:=fun j=>by
 by_cases hj:j<hs.length
 ·rw [h j hj];have:=dg_lt v j;omega
 ·rw [List.getElem?_eq_none (by omega)];simp
theorem vh_of {hs:List Int} {v:Nat} (h:∀ j,j<hs.length→hs[j]?.getD 0=((dg v j:Nat):Int)) (hv:v<65536 ^ hs.length):vh hs=v:=by
 have e:hs=(List.range hs.length).map fun j=>((dg v j:Nat):Int):=by
  apply List.ext_getElem (by simp);intro j h1 h2;have:=h j h1;rw [List.getElem?_eq_getElem h1] at this;simpa using this
 rw [e,vh_list,Nat.mod_eq_of_lt hv]
def QuoI (v n i:Nat) (hs:List Int):Prop:=hs.length=n∧∀ j,i≤j→j<n→hs[j]?.getD 0=((dg v j:Nat):Int)
theorem QuoI.start (v n:Nat):QuoI v n n (List.replicate n 0):=⟨by simp,fun j h1 h2=>by omega⟩
theorem QuoI.step {v n i:Nat} {hs:List Int} (h:QuoI v n (i+1) hs) (hi:i<n) {x:Nat} (hx:x=dg v i):QuoI v n i (hs.set i (x:Int)):=by
 refine ⟨by simp [h.1],fun j h1 h2=>?_⟩;rw [List.getElem?_set];by_cases hj:i=j
 ·subst hj;rw [if_pos rfl,if_pos (by rw [h.1];exact hi),hx];rfl
 ·rw [if_neg hj];exact h.2 j (by omega) h2
theorem QuoI.done {v n:Nat} {hs:List Int} (h:QuoI v n 0 hs) (hv:v<65536 ^ n):Dg hs∧vh hs=v:=by
 have e:∀ j,j<hs.length→hs[j]?.getD 0=((dg v j:Nat):Int):=fun j hj=>h.2 j (Nat.zero_le _) (by rw [← h.1];exact hj);exact ⟨Dg_of e,vh_of e (by rw [h.1];exact hv)⟩
def rst (a b i:Nat):Nat:=a / 65536 ^ i % b
theorem rst_step (a b i:Nat) (hb:0<b):(rst a b (i+1)*65536+dg a i) / b=dg (a / b) i∧(rst a b (i+1)*65536+dg a i) % b=rst a b i:=quo_step a b i hb
theorem rst_lt (a b i:Nat) (hb:0<b):rst a b i<b:=Nat.mod_lt _ hb
theorem rst_top {a b n:Nat} (ha:a<65536 ^ n):rst a b n=0:=by unfold rst;rw [Nat.div_eq_of_lt ha,Nat.zero_mod]
theorem rst_zero (a b:Nat):rst a b 0=a % b:=by unfold rst;rw [Nat.pow_zero,Nat.div_one]
theorem seek_done {lo hi b r:Nat} (hb:0<b) (h1:lo*b≤r) (h2:r<hi*b) (h3:hi≤lo+1):lo=r / b∧r-b*lo=r % b:=by
 have e:r<(lo+1)*b:=Nat.lt_of_lt_of_le h2 (Nat.mul_le_mul_right _ h3);have e2:r / b=lo:=by
  refine (Nat.div_eq_iff hb).2 ⟨h1,?_⟩;rw [Nat.add_mul] at e;omega
 have:=Nat.div_add_mod r b;rw [e2] at this;exact ⟨e2.symm,by omega⟩
end Go.Proofs.YtjajigkacccdgaaGreat
