/-
Lemmas of the walk; no further conditions.
-/
import Derived.Test.YtjajigkacccdgaaGreatTfBD
set_option linter.unusedVariables false
set_option linter.unusedSimpArgs false
set_option maxRecDepth 100000
set_option maxHeartbeats 16000000
namespace Go.Proofs.YtjajigkacccdgaaGreat
open Go.RowKit
open Wd
def RWelP (w:World) (os bs:List (List (Int×Int))) (gs ts:List Rat) (e:Ending) (w':World):Prop :=
 (wfE os bs gs ts=0∧CstPost w (wfV os bs gs ts) e w')∨(wfE os bs gs ts≠0∧ErrQ w (wfE os bs gs ts) e w')
theorem rwel_err {w w':World} {os bs:List (List (Int×Int))} {gs ts:List Rat} {x:Int} (hx:wfE os bs gs ts=x) (h0:x≠0) (hb:Below w.heap.size w w'):RWelP w os bs gs ts (.returned (.tuple #[.agg #[.bool false,.slice none 0 0,.bool false,.slice none 0 0],.int .i64 x])) w' :=
 Or.inr ⟨by rw [hx];exact h0,by rw [hx];exact ⟨rfl,hb⟩⟩
section
variable {os bs:List (List (Int×Int))} {gs ts:List Rat}
theorem wfE_1 (h:ckB os bs≠0):wfE os bs gs ts=ckB os bs:=by
 unfold wfE;rw [if_pos h]
theorem wfE_2 (h:ckB os bs=0) (h2:gs.length≠os.length∨ts.length≠bs.length):wfE os bs gs ts=3:=by
 unfold wfE;rw [if_neg (by simpa using h),if_pos h2]
theorem wfE_3 (h:ckB os bs=0) (h1:gs.length=os.length) (h2:ts.length=bs.length) (h3:¬ goodA os gs∨¬ goodA bs ts):wfE os bs gs ts=1:=by
 unfold wfE;rw [if_neg (by simpa using h),if_neg (by simp [h1,h2]),if_pos h3]
theorem wfE_4 (h:ckB os bs=0) (h1:gs.length=os.length) (h2:ts.length=bs.length) (h3:goodA os gs) (h4:goodA bs ts) (h5:qtyA gs os.length≠qtyA ts bs.length):wfE os bs gs ts=10:=by
 unfold wfE;rw [if_neg (by simpa using h),if_neg (by simp [h1,h2]),if_neg (by simp [h3,h4]),if_pos h5]
theorem wfE_5 (h:ckB os bs=0) (h1:gs.length=os.length) (h2:ts.length=bs.length) (h3:goodA os gs) (h4:goodA bs ts) (h5:qtyA gs os.length=qtyA ts bs.length):wfE os bs gs ts=0:=by
 unfold wfE;rw [if_neg (by simpa using h),if_neg (by simp [h1,h2]),if_neg (by simp [h3,h4]),if_neg (by simpa using h5)]
end
def wor1 (os:List (List (Int×Int))) (gs:List Rat) (i:Nat):Rat:=-(moneyA os gs i)
def wor2 (os bs:List (List (Int×Int))) (gs ts:List Rat) (n i:Nat):Rat:=moneyA bs ts i-moneyA os gs n
def lef2 (gs ts:List Rat) (n i:Nat):Rat:=qtyA gs n-qtyA ts i
theorem moneyA_succ (ls:List (List (Int×Int))) (gs:List Rat) (i:Nat):moneyA ls gs (i+1)=moneyA ls gs i+costAt (ls[i]?.getD []) (gs[i]?.getD 0) (ls[i]?.getD []).length:=rfl
theorem qtyA_succ (gs:List Rat) (i:Nat):qtyA gs (i+1)=qtyA gs i+gs[i]?.getD 0:=rfl
theorem wor1_succ (ls:List (List (Int×Int))) (gs:List Rat) (i:Nat):wor1 ls gs (i+1)=wor1 ls gs i-costAt (ls[i]?.getD []) (gs[i]?.getD 0) (ls[i]?.getD []).length:=by
 unfold wor1;rw [moneyA_succ];grind
theorem wor2_succ (os bs:List (List (Int×Int))) (gs ts:List Rat) (n i:Nat):wor2 os bs gs ts n (i+1)=wor2 os bs gs ts n i+costAt (bs[i]?.getD []) (ts[i]?.getD 0) (bs[i]?.getD []).length:=by
 unfold wor2;rw [moneyA_succ];grind
theorem lef2_succ (gs ts:List Rat) (n i:Nat):lef2 gs ts n (i+1)=lef2 gs ts n i-ts[i]?.getD 0:=by
 unfold lef2;rw [qtyA_succ];grind
theorem rwelfare_e1 (A B G H:Option Addr) (n c k d gn gc hn hc:Nat) (os bs:List (List (Int×Int))) (gs ts:List Rat) (w:World) (h:CsAt w A n os) (h':CsAt w B k bs) (hg:QsS 7 w G gn gs) (ht:QsS 7 w H hn ts) (hc0:ckB os bs≠0):Calls Tryz.prog 59 #[.slice A n c,.slice B k d,.slice G gn gc,.slice H hn hc] w (RWelP w os bs gs ts):=by
 have T0:=Hj (fun W (hW:Below w.heap.size w W)=>rwrong25_any A B n c k d os bs W (h.below hW) (h'.below hW));have HE:=Hj (wfE_1 (gs:=gs) (ts:=ts) hc0);have dx:(ckB os bs == 0)=false:=by simpa using hc0
 have dy:(ckB os bs != 0)=true:=by simpa using hc0
 have HX:=Hj hc0;clear h h' hg ht hc0;generalize hxe:ckB os bs=x at *;clear hxe;go_enter Tryz.func59,Tryz.ntmps59
 go_wp2_with fail
 have bx8:=Blk.new w 42 #[.bool false,.slice none 0 0,.bool false,.slice none 0 0];have hb0:Below w.heap.size w (w.alloc (.cells #[.bool false,.slice none 0 0,.bool false,.slice none 0 0] 42)):=(Below.refl _ _).alloc (Nat.le_refl _) _;generalize w.alloc (.cells #[.bool false,.slice none 0 0,.bool false,.slice none 0 0] 42)=W0 at *;refine (T0.out W0 hb0).mono ?_;rintro e w1 ⟨rfl,hb1⟩;have HB1:=Hj (hb0.trans (hb1.mono hb0.size));have HX8:=Hj (bx8.below hb1 bx8.lt);clear bx8 hb0 hb1 T0;have hbX:=HX8.out;have hbB:=HB1.out;have hY:Blk ((((w1.setCell ⟨w.heap.size,0,none⟩ (.bool false)).setCell ⟨w.heap.size,1,none⟩ (.slice none 0 0)).setCell ⟨w.heap.size,2,none⟩ (.bool false)).setCell ⟨w.heap.size,3,none⟩ (.slice none 0 0)) w.heap.size 42 #[.bool false,.slice none 0 0,.bool false,.slice none 0 0]:=hbX.put4 (o:=0);have hG:Below w.heap.size w ((((w1.setCell ⟨w.heap.size,0,none⟩ (.bool false)).setCell ⟨w.heap.size,1,none⟩ (.slice none 0 0)).setCell ⟨w.heap.size,2,none⟩ (.bool false)).setCell ⟨w.heap.size,3,none⟩ (.slice none 0 0)):=below_qst (o:=0) (a:=false) (b:=false) (A:=none) (A':=none) (k:=0) (c:=0) (k':=0) (c':=0) hbB (Nat.le_refl _);obtain ⟨i4,i5,i6,i7,f4,f5,f6,f7⟩:=hbX.four;obtain ⟨d0,d1,d2,d3,-,-,-,-⟩:=hY.four;have HF:=Hj hG;clear hY hG hbX hbB HX8 HB1;go_wp2;refine bodyPost_ret (v:=.tuple #[.agg #[.bool false,.slice none 0 0,.bool false,.slice none 0 0],.int .i64 x]) ?_ rfl ?_
 ·simp [results,Tryz.results59,go_sem,d0,d1,d2,d3]
 ·exact rwel_err HE.out HX.out HF.out
theorem rwelfare_e2 (A B G H:Option Addr) (n c k d gn gc hn hc:Nat) (os bs:List (List (Int×Int))) (gs ts:List Rat) (w:World) (h:CsAt w A n os) (h':CsAt w B k bs) (hg:QsS 7 w G gn gs) (ht:QsS 7 w H hn ts) (hc0:ckB os bs=0) (hl:gn≠n∨hn≠k):Calls Tryz.prog 59 #[.slice A n c,.slice B k d,.slice G gn gc,.slice H hn hc] w (RWelP w os bs gs ts):=by
 have T0:=Hj (fun W (hW:Below w.heap.size w W)=>rwrong25_any A B n c k d os bs W (h.below hW) (h'.below hW));rw [hc0] at T0;have HE:=Hj (wfE_2 (gs:=gs) (ts:=ts) hc0 (by rw [hg.1,ht.1,h.1,h'.1];exact hl));clear h h' hg ht hc0;by_cases h1:gn=n
 ·have b1:((gn:Int) != (n:Int))=false:=by simp [h1]
  have b2:((hn:Int) != (k:Int))=true:=by
   have:¬ ((hn:Int)=(k:Int)):=by omega
   simpa using this
  clear hl h1;go_enter Tryz.func59,Tryz.ntmps59
  go_wp2_with fail
  have bx8:=Blk.new w 42 #[.bool false,.slice none 0 0,.bool false,.slice none 0 0];have hb0:Below w.heap.size w (w.alloc (.cells #[.bool false,.slice none 0 0,.bool false,.slice none 0 0] 42)):=(Below.refl _ _).alloc (Nat.le_refl _) _;generalize w.alloc (.cells #[.bool false,.slice none 0 0,.bool false,.slice none 0 0] 42)=W0 at *;refine (T0.out W0 hb0).mono ?_;rintro e w1 ⟨rfl,hb1⟩;have HB1:=Hj (hb0.trans (hb1.mono hb0.size));have HX8:=Hj (bx8.below hb1 bx8.lt);clear bx8 hb0 hb1 T0;have hbX:=HX8.out;have hbB:=HB1.out;have hY:Blk ((((w1.setCell ⟨w.heap.size,0,none⟩ (.bool false)).setCell ⟨w.heap.size,1,none⟩ (.slice none 0 0)).setCell ⟨w.heap.size,2,none⟩ (.bool false)).setCell ⟨w.heap.size,3,none⟩ (.slice none 0 0)) w.heap.size 42 #[.bool false,.slice none 0 0,.bool false,.slice none 0 0]:=hbX.put4 (o:=0);have hG:Below w.heap.size w ((((w1.setCell ⟨w.heap.size,0,none⟩ (.bool false)).setCell ⟨w.heap.size,1,none⟩ (.slice none 0 0)).setCell ⟨w.heap.size,2,none⟩ (.bool false)).setCell ⟨w.heap.size,3,none⟩ (.slice none 0 0)):=below_qst (o:=0) (a:=false) (b:=false) (A:=none) (A':=none) (k:=0) (c:=0) (k':=0) (c':=0) hbB (Nat.le_refl _);obtain ⟨i4,i5,i6,i7,f4,f5,f6,f7⟩:=hbX.four;obtain ⟨d0,d1,d2,d3,-,-,-,-⟩:=hY.four;have HF:=Hj hG;clear hY hG hbX hbB HX8 HB1;go_wp2;refine bodyPost_ret (v:=.tuple #[.agg #[.bool false,.slice none 0 0,.bool false,.slice none 0 0],.int .i64 3]) ?_ rfl ?_
  ·simp [results,Tryz.results59,go_sem,d0,d1,d2,d3]
  ·exact rwel_err HE.out (by decide) HF.out
 ·have b1:((gn:Int) != (n:Int))=true:=by
   have:¬ ((gn:Int)=(n:Int)):=by omega
   simpa using this
  clear hl h1;go_enter Tryz.func59,Tryz.ntmps59
  go_wp2_with fail
  have bx8:=Blk.new w 42 #[.bool false,.slice none 0 0,.bool false,.slice none 0 0];have hb0:Below w.heap.size w (w.alloc (.cells #[.bool false,.slice none 0 0,.bool false,.slice none 0 0] 42)):=(Below.refl _ _).alloc (Nat.le_refl _) _;generalize w.alloc (.cells #[.bool false,.slice none 0 0,.bool false,.slice none 0 0] 42)=W0 at *;refine (T0.out W0 hb0).mono ?_;rintro e w1 ⟨rfl,hb1⟩;have HB1:=Hj (hb0.trans (hb1.mono hb0.size));have HX8:=Hj (bx8.below hb1 bx8.lt);clear bx8 hb0 hb1 T0;have hbX:=HX8.out;have hbB:=HB1.out;have hY:Blk ((((w1.setCell ⟨w.heap.size,0,none⟩ (.bool false)).setCell ⟨w.heap.size,1,none⟩ (.slice none 0 0)).setCell ⟨w.heap.size,2,none⟩ (.bool false)).setCell ⟨w.heap.size,3,none⟩ (.slice none 0 0)) w.heap.size 42 #[.bool false,.slice none 0 0,.bool false,.slice none 0 0]:=hbX.put4 (o:=0);have hG:Below w.heap.size w ((((w1.setCell ⟨w.heap.size,0,none⟩ (.bool false)).setCell ⟨w.heap.size,1,none⟩ (.slice none 0 0)).setCell ⟨w.heap.size,2,none⟩ (.bool false)).setCell ⟨w.heap.size,3,none⟩ (.slice none 0 0)):=below_qst (o:=0) (a:=false) (b:=false) (A:=none) (A':=none) (k:=0) (c:=0) (k':=0) (c':=0) hbB (Nat.le_refl _);obtain ⟨i4,i5,i6,i7,f4,f5,f6,f7⟩:=hbX.four;obtain ⟨d0,d1,d2,d3,-,-,-,-⟩:=hY.four;have HF:=Hj hG;clear hY hG hbX hbB HX8 HB1;go_wp2;refine bodyPost_ret (v:=.tuple #[.agg #[.bool false,.slice none 0 0,.bool false,.slice none 0 0],.int .i64 3]) ?_ rfl ?_
  ·simp [results,Tryz.results59,go_sem,d0,d1,d2,d3]
  ·exact rwel_err HE.out (by decide) HF.out
def prL (l:List (Int×Int)):List Int:=l.map (·.2)
def prS (ls:List (List (Int×Int))):List Int:=ls.flatMap prL
def prA (os bs:List (List (Int×Int))):List Int:=0 :: (prS os ++ prS bs)
section
variable {os bs:List (List (Int×Int))}
theorem mem_prA {l:List (Int×Int)} {s:Int×Int} (h:l∈os∨l∈bs) (hs:s∈l):s.2∈prA os bs:=by
 refine List.mem_cons_of_mem _ (List.mem_append.2 ?_);rcases h with h|h
 ·exact Or.inl (List.mem_flatMap.2 ⟨l,h,List.mem_map.2 ⟨s,hs,rfl⟩⟩)
 ·exact Or.inr (List.mem_flatMap.2 ⟨l,h,List.mem_map.2 ⟨s,hs,rfl⟩⟩)
theorem zero_prA:(0:Int)∈prA os bs:=List.mem_cons_self ..
theorem bal_posA (ho:Pos os) (hb:Pos bs) {q:Rat} (h0:0≤q) (h:balB os bs q=true):∃ d∈prA os bs,balB os bs ((d:Int):Rat)=true∧0≤d∧((d:Int):Rat)≤q:=by
 obtain ⟨h1,h2⟩:=balB_iff.1 h;obtain ⟨d,hd,hd1,hd2⟩:=most_le (zero_prA (os:=os) (bs:=bs)) (q:=q) (by simpa using h0);have hd0:=hd2 0 zero_prA (by simpa using h0);have gap:∀ ls:List (List (Int×Int)),(∀ l∈ls,l∈os∨l∈bs)→Gap ls ((d:Int):Rat) q:=fun ls hls l hl s hs hx=>by
  have hm:=mem_prA (hls l hl) hs;have hs0:d<s.2:=by exact_mod_cast hx.1
  have:=hd2 _ hm hx.2;omega
 exact ⟨d,hd,balB_iff.2 ⟨h1.down ho hb hd1,h2.gap hd1 (gap os fun l hl=>Or.inl hl) (gap bs fun l hl=>Or.inr hl)⟩,hd0,hd1⟩
theorem bal_negA (ho:Pos os) (hb:Pos bs) {q:Rat} (h0:q≤0) (h:balB os bs q=true):∃ d∈prA os bs,balB os bs ((d:Int):Rat)=true∧d≤0∧q≤((d:Int):Rat):=by
 obtain ⟨h1,h2⟩:=balB_iff.1 h;have hz:(0:Int)∈(prA os bs).map (fun x=>-x):=List.mem_map.2 ⟨0,zero_prA,rfl⟩;obtain ⟨e,he,he1,he2⟩:=most_le hz (q:=-q) (by grind);have he0:=he2 0 hz (by grind);obtain ⟨d,hd,rfl⟩:=List.mem_map.1 he;have hle:q≤((d:Int):Rat):=by
  rw [Rat.intCast_neg] at he1;grind
 have gap:∀ ls:List (List (Int×Int)),(∀ l∈ls,l∈os∨l∈bs)→Gap' ls q ((d:Int):Rat):=fun ls hls l hl s hs hx=>by
  have hm:=mem_prA (hls l hl) hs;have hs0:s.2<d:=by exact_mod_cast hx.2
  have:=he2 _ (List.mem_map.2 ⟨_,hm,rfl⟩) (by rw [Rat.intCast_neg];grind);omega
 exact ⟨d,hd,balB_iff.2 ⟨h1.gap hle (gap os fun l hl=>Or.inl hl) (gap bs fun l hl=>Or.inr hl),h2.up ho hb hle⟩,by omega,hle⟩
theorem prZ_mem {p:Int} (h:PrZ os bs p) (ho:Pos os) (hb:Pos bs) (ho':PrB os) (hb':PrB bs):p∈prA os bs:=by
 obtain ⟨n1,n2⟩:=h.nearI ho hb ho' hb';rcases Int.le_total 0 p with hp|hp
 ·obtain ⟨d,hd,h1,h2,h3⟩:=bal_posA ho hb (q:=((p:Int):Rat)) (by exact_mod_cast hp) n1;have h4:=n2 d h1;have h5:d≤p:=by exact_mod_cast h3
  have e1:=absI_or p;have e2:=absI_or d;obtain rfl:d=p:=by omega
  exact hd
 ·obtain ⟨d,hd,h1,h2,h3⟩:=bal_negA ho hb (q:=((p:Int):Rat)) (by exact_mod_cast hp) n1;have h4:=n2 d h1;have h5:p≤d:=by exact_mod_cast h3
  have e1:=absI_or p;have e2:=absI_or d;obtain rfl:d=p:=by omega
  exact hd
def pickS (os bs:List (List (Int×Int))) (s:Int×Bool) (p:Int):Int×Bool:=if balB os bs ((p:Int):Rat)=true∧(s.2=false∨absI p<absI s.1) then (p,true) else s
def pickV (os bs:List (List (Int×Int))):Nat→Int×Bool
 | 0=>(0,false)
 | k+1=>pickS os bs (pickV os bs k) ((prA os bs)[k]?.getD 0)
theorem pick_inv:∀ k,k≤(prA os bs).length→((pickV os bs k).2=false→∀ j,j<k→balB os bs (((prA os bs)[j]?.getD 0:Int):Rat)=false) ∧
  ((pickV os bs k).2=true→balB os bs (((pickV os bs k).1:Int):Rat)=true∧(pickV os bs k).1∈prA os bs∧∀ j,j<k→balB os bs (((prA os bs)[j]?.getD 0:Int):Rat)=true→absI (pickV os bs k).1≤absI ((prA os bs)[j]?.getD 0))
 | 0,_=>⟨fun _ j hj=>absurd hj (by omega),fun h=>absurd h (by simp [pickV])⟩
 | k + 1,hk=>by
  obtain ⟨i1,i2⟩:=pick_inv k (by omega);have hm:(prA os bs)[k]?.getD 0∈prA os bs:=getD_mem (by omega);rw [pickV];generalize hp:(prA os bs)[k]?.getD 0=p at *;generalize pickV os bs k=s at *;unfold pickS;by_cases hc:balB os bs ((p:Int):Rat)=true∧(s.2=false∨absI p<absI s.1)
  ·rw [if_pos hc];refine ⟨fun h=>absurd h (by simp),fun _=>⟨hc.1,hm,fun j hj hb=>?_⟩⟩;by_cases e:j=k
   ·subst e;rw [hp];exact Int.le_refl _
   ·rcases hc.2 with h2|h2
    ·have:=i1 h2 j (by omega);rw [this] at hb;exact absurd hb (by simp)
    ·by_cases h3:s.2=true
     ·have:=(i2 h3).2.2 j (by omega) hb;simp only;omega
     ·have:=i1 (by simpa using h3) j (by omega);rw [this] at hb;exact absurd hb (by simp)
  ·rw [if_neg hc];refine ⟨fun h j hj=>?_,fun h=>⟨(i2 h).1,(i2 h).2.1,fun j hj hb=>?_⟩⟩
   ·by_cases e:j=k
    ·subst e;rw [hp];have:¬ balB os bs ((p:Int):Rat)=true:=fun hh=>hc ⟨hh,Or.inl h⟩;simpa using this
    ·exact i1 h j (by omega)
   ·by_cases e:j=k
    ·subst e;rw [hp] at hb ⊢;have:¬ absI p<absI s.1:=fun hh=>hc ⟨hb,Or.inr hh⟩;omega
    ·exact (i2 h).2.2 j (by omega) hb
theorem pick_price {p:Int} (h:PrZ os bs p) (ho:Pos os) (hb:Pos bs) (ho':PrB os) (hb':PrB bs):(pickV os bs (prA os bs).length).1=p:=by
 obtain ⟨n1,n2⟩:=h.nearI ho hb ho' hb';have hm:=prZ_mem h ho hb ho' hb';obtain ⟨j,hj,hje⟩:=List.getElem_of_mem hm;have hje':(prA os bs)[j]?.getD 0=p:=by rw [List.getElem?_eq_getElem hj,Option.getD_some,hje]
 obtain ⟨i1,i2⟩:=pick_inv (os:=os) (bs:=bs) _ (Nat.le_refl _);by_cases hf:(pickV os bs (prA os bs).length).2=true
 ·obtain ⟨a1,a2,a3⟩:=i2 hf;have h1:=a3 j hj (by rw [hje'];exact n1);rw [hje'] at h1;have h2:=n2 _ a1;generalize (pickV os bs (prA os bs).length).1=r at *;have e1:=absI_or p;have e2:=absI_or r;by_cases e:r=p
  ·exact e
  ·exfalso;have hr:r = -p:=by omega
   have h0:balB os bs (((0:Int)):Rat)=true:=by
    rcases Int.le_total 0 p with hp|hp
    ·exact bal_mid ho hb a1 n1 (by exact_mod_cast (show r≤0 by omega)) (by exact_mod_cast hp)
    ·exact bal_mid ho hb n1 a1 (by exact_mod_cast hp) (by exact_mod_cast (show 0≤r by omega))
   have h3:=n2 0 h0;have e3:=absI_or 0;omega
 ·have:=i1 (by simpa using hf) j hj;rw [hje',n1] at this;exact absurd this (by simp)
end
def owR (lo up:Nat→Int) (n:Nat) (more:Int):Nat→Int
 | 0=>more
 | k+1=>owR lo up n more k-min (owR lo up n more k) (up (n-1-k)-lo (n-1-k))
def owX (lo up:Nat→Int) (n:Nat) (more:Int) (i:Nat):Int:=lo i+min (owR lo up n more (n-1-i)) (up i-lo i)
def sZ (f:Nat→Int):Nat→Int
 | 0=>0
 | k+1=>sZ f k+f k
theorem sZ_cast (f:Nat→Int):∀ n,((sZ f n:Int):Rat)=sumF (fun i=>((f i:Int):Rat)) n
 | 0=>rfl
 | n+1=>by rw [sZ,sumF,Rat.intCast_add,sZ_cast f n]
theorem sZ_le {f g:Nat→Int}:∀ {n:Nat},(∀ i,i<n→f i≤g i)→sZ f n≤sZ g n
 | 0,_=>Int.le_refl _
 | n+1,h=>by
  have h1:=sZ_le (n:=n) fun i hi=>h i (by omega);have h2:=h n (by omega);rw [sZ,sZ];omega
theorem sZ_sub (f g:Nat→Int):∀ n,sZ (fun i=>f i-g i) n=sZ f n-sZ g n
 | 0=>rfl
 | n+1=>by rw [sZ,sZ_sub f g n,sZ,sZ];omega
section
variable {lo up:Nat→Int} {n:Nat} {more:Int}
theorem owR_bd (hu:∀ i,i<n→lo i≤up i) (hm:0≤more):∀ k,k≤n→0≤owR lo up n more k∧owR lo up n more k≤more
 | 0,_=>⟨hm,Int.le_refl _⟩
 | k+1,hk=>by
  have ih:=owR_bd hu hm k (by omega);have:=hu (n-1-k) (by omega);rw [owR];omega
theorem owR_mono (hu:∀ i,i<n→lo i≤up i) (hm:0≤more) {j k:Nat} (hjk:j≤k) (hk:k≤n):owR lo up n more k≤owR lo up n more j:=by
 induction k with
 | zero =>
  obtain rfl:j=0:=by omega
  exact Int.le_refl _
 | succ k ih =>
  by_cases e:j=k+1
  ·subst e;exact Int.le_refl _
  ·have h1:=ih (by omega) (by omega);have h2:=owR_bd hu hm k (by omega);have h3:=hu (n-1-k) (by omega);rw [owR];omega
theorem owR_tail (hu:∀ i,i<n→lo i≤up i) (hm:0≤more):∀ k,k≤n→owR lo up n more k=0∨owR lo up n more k=more-(sZ (fun i=>up i-lo i) n-sZ (fun i=>up i-lo i) (n-k))
 | 0,_=>Or.inr (by rw [owR,Nat.sub_zero];omega)
 | k+1,hk=>by
  have h2:=owR_bd hu hm k (by omega);have h3:=hu (n-1-k) (by omega);have e:n-k=(n-1-k)+1:=by omega
  have e2:n-(k+1)=n-1-k:=by omega
  rw [owR,e2];rcases owR_tail hu hm k (by omega) with ih|ih
  ·left;omega
  ·rw [e,sZ] at ih;by_cases hc:owR lo up n more k≤up (n-1-k)-lo (n-1-k)
   ·left;omega
   ·right;omega
theorem owX_sum (hu:∀ i,i<n→lo i≤up i) (hm:0≤more):∀ k,k≤n→sZ (fun i=>owX lo up n more i-lo i) n=sZ (fun i=>owX lo up n more i-lo i) (n-k)+(more-owR lo up n more k)
 | 0,_=>by rw [owR,Nat.sub_zero];omega
 | k+1,hk=>by
  have ih:=owX_sum hu hm k (by omega);have e:n-k=(n-1-k)+1:=by omega
  have e2:n-(k+1)=n-1-k:=by omega
  have e3:n-1-(n-1-k)=k:=by omega
  rw [e,sZ] at ih;have ev:owX lo up n more (n-1-k)-lo (n-1-k)=min (owR lo up n more k) (up (n-1-k)-lo (n-1-k)):=by
   unfold owX;rw [e3];omega
  simp only [ev] at ih;rw [owR,e2];omega
theorem own_lf (hu:∀ i,i<n→lo i≤up i) (hm:0≤more) (hs:more≤sZ up n-sZ lo n):LF n (fun i=>((lo i:Int):Rat)) (fun i=>((up i:Int):Rat)) (fun i=>((owX lo up n more i:Int):Rat)) ((sZ lo n+more:Int):Rat):=by
 have hz:owR lo up n more n=0:=by
  have h1:=owR_bd hu hm n (Nat.le_refl _);rcases owR_tail hu hm n (Nat.le_refl _) with h|h
  ·exact h
  ·rw [Nat.sub_self,sZ_sub] at h;simp only [sZ] at h;omega
 refine ⟨fun i hi=>?_,fun i hi=>?_,?_,fun i hi hlt k hk hik=>?_⟩
 ·have h1:=owR_bd hu hm (n-1-i) (by omega);have h2:=hu i hi;have:lo i≤owX lo up n more i:=by unfold owX;omega
  exact_mod_cast this
 ·have:owX lo up n more i≤up i:=by unfold owX;omega
  exact_mod_cast this
 ·have h1:=owX_sum hu hm n (Nat.le_refl _);rw [Nat.sub_self,hz,sZ_sub] at h1;simp only [sZ] at h1;rw [← sZ_cast];have:sZ (owX lo up n more) n=sZ lo n+more:=by omega
  rw [← this]
 ·have h0:lo i<owX lo up n more i:=by exact_mod_cast hlt
  have h1:0<owR lo up n more (n-1-i):=by
   have h2:=owR_bd hu hm (n-1-i) (by omega);have h3:=hu i hi;unfold owX at h0;omega
  have h4:=owR_mono hu hm (show n-1-k+1≤n-1-i by omega) (by omega);have h5:=hu k hk;have e3:n-1-(n-1-k)=k:=by omega
  rw [owR,e3] at h4;have:owX lo up n more k=up k:=by unfold owX;omega
  exact_mod_cast this
end
section
variable {os bs:List (List (Int×Int))}
def loO (os:List (List (Int×Int))) (p:Int) (i:Nat):Int:=wlL (-1) ((p:Int):Rat) (os[i]?.getD [])
def upO (os:List (List (Int×Int))) (p:Int) (i:Nat):Int:=wlM (-1) ((p:Int):Rat) (os[i]?.getD [])
def loB (bs:List (List (Int×Int))) (p:Int) (i:Nat):Int:=wlL 1 ((p:Int):Rat) (bs[i]?.getD [])
def upB (bs:List (List (Int×Int))) (p:Int) (i:Nat):Int:=wlM 1 ((p:Int):Rat) (bs[i]?.getD [])
theorem sZ_of (f:List (Int×Int)→Int) (ls:List (List (Int×Int))):sZ (fun i=>f (ls[i]?.getD [])) ls.length=sumI (ls.map f):=by
 have h:=sumF_cast f [] ls;rw [← sZ_cast (fun i=>f (ls[i]?.getD []))] at h
 exact_mod_cast h.symm
theorem run_own {z p wf:Int} {xs ys:List Int} {S D:List St.Lv} (hc:ckB os bs=0) (h:RunV os bs z p wf xs ys S D) :
  z=max (wsL (-1) ((p:Int):Rat) os) (wsL 1 ((p:Int):Rat) bs) ∧
  (∀ i,i<os.length→xs[i]?.getD 0=owX (loO os p) (upO os p) os.length (z-wsL (-1) ((p:Int):Rat) os) i) ∧
  (∀ i,i<bs.length→ys[i]?.getD 0=owX (loB bs p) (upB bs p) bs.length (z-wsL 1 ((p:Int):Rat) bs) i):=by
 obtain ⟨l1,l2⟩:=h.lf hc;have htop:=h.top hc;have eo1:sZ (loO os p) os.length=wsL (-1) ((p:Int):Rat) os:=sZ_of (wlL (-1) ((p:Int):Rat)) os;have eo2:sZ (upO os p) os.length=wsM (-1) ((p:Int):Rat) os:=sZ_of (wlM (-1) ((p:Int):Rat)) os;have eb1:sZ (loB bs p) bs.length=wsL 1 ((p:Int):Rat) bs:=sZ_of (wlL 1 ((p:Int):Rat)) bs;have eb2:sZ (upB bs p) bs.length=wsM 1 ((p:Int):Rat) bs:=sZ_of (wlM 1 ((p:Int):Rat)) bs;have f1:(fun i=>((aL p (os[i]?.getD []):Int):Rat))=fun i=>((loO os p i:Int):Rat):=funext fun i=>by rw [(a_wl p (os[i]?.getD [])).1.1];rfl
 have f2:(fun i=>((aM p (os[i]?.getD []):Int):Rat))=fun i=>((upO os p i:Int):Rat):=funext fun i=>by rw [(a_wl p (os[i]?.getD [])).1.2];rfl
 have f3:(fun i=>((aL (-p) ((negs bs)[i]?.getD []):Int):Rat))=fun i=>((loB bs p i:Int):Rat):=funext fun i=>by rw [negs_get,(a_wl p (bs[i]?.getD [])).2.1];rfl
 have f4:(fun i=>((aM (-p) ((negs bs)[i]?.getD []):Int):Rat))=fun i=>((upB bs p i:Int):Rat):=funext fun i=>by rw [negs_get,(a_wl p (bs[i]?.getD [])).2.2];rfl
 rw [f1,f2] at l1;rw [f3,f4] at l2;have t1:sumI (os.map (aL p))=wsL (-1) ((p:Int):Rat) os:=by
  rw [← eo1,← sZ_of (aL p) os]
  congr 1
  exact funext fun i=>(a_wl p (os[i]?.getD [])).1.1
 have t2:sumI ((negs bs).map (aL (-p)))=wsL 1 ((p:Int):Rat) bs:=by
  have e:=sZ_of (aL (-p)) (negs bs);rw [negs_len] at e;rw [← eb1,← e]
  congr 1
  exact funext fun i=>by rw [negs_get];exact (a_wl p (bs[i]?.getD [])).2.1
 rw [t1,t2] at htop;have lu1:∀ i,i<os.length→loO os p i≤upO os p i:=fun i hi=>by
  have h1:=l1.ge i hi;have h2:=l1.le i hi;have h3:((loO os p i:Int):Rat)≤((upO os p i:Int):Rat):=by grind
  exact_mod_cast h3
 have lu2:∀ i,i<bs.length→loB bs p i≤upB bs p i:=fun i hi=>by
  have h1:=l2.ge i hi;have h2:=l2.le i hi;have h3:((loB bs p i:Int):Rat)≤((upB bs p i:Int):Rat):=by grind
  exact_mod_cast h3
 have z1:wsL (-1) ((p:Int):Rat) os≤z:=by
  have h1:=sumF_le l1.ge;rw [l1.sum,← sZ_cast,eo1] at h1
  exact_mod_cast h1
 have z2:z≤wsM (-1) ((p:Int):Rat) os:=by
  have h1:=sumF_le l1.le;rw [l1.sum,← sZ_cast,eo2] at h1
  exact_mod_cast h1
 have z3:wsL 1 ((p:Int):Rat) bs≤z:=by
  have h1:=sumF_le l2.ge;rw [l2.sum,← sZ_cast,eb1] at h1
  exact_mod_cast h1
 have z4:z≤wsM 1 ((p:Int):Rat) bs:=by
  have h1:=sumF_le l2.le;rw [l2.sum,← sZ_cast,eb2] at h1
  exact_mod_cast h1
 refine ⟨by omega,fun i hi=>?_,fun i hi=>?_⟩
 ·have h1:=own_lf (more:=z-wsL (-1) ((p:Int):Rat) os) lu1 (by omega) (by rw [eo1,eo2];omega);rw [eo1,show wsL (-1) ((p:Int):Rat) os+(z-wsL (-1) ((p:Int):Rat) os)=z by omega] at h1;have:=l1.only h1 i hi
  exact_mod_cast this
 ·have h1:=own_lf (more:=z-wsL 1 ((p:Int):Rat) bs) lu2 (by omega) (by rw [eb1,eb2];omega);rw [eb1,show wsL 1 ((p:Int):Rat) bs+(z-wsL 1 ((p:Int):Rat) bs)=z by omega] at h1;have:=l2.only h1 i hi
  exact_mod_cast this
end
theorem rwants25_any (A B:Option Addr) (n c m d:Nat) (os bs:List (List (Int×Int))) (an an':Bool) (aA aA':Option Addr) (ak ac ak' ac':Nat) (q:Rat) (w:World) (h:CsAt w A n os) (h':CsAt w B m bs) (hq:QS 7 w an aA ak ac an' aA' ak' ac' q) (ho:∀ l∈os,chk true l=0) (hb:∀ l∈bs,chk false l=0) (hn:n≤1000) (hm:m≤1000) :
  Calls Tryz.prog 100 #[.slice A n c,.slice B m d,.agg #[.bool an,.slice aA ak ac,.bool an',.slice aA' ak' ac']] w fun e w'=>e=.returned (.tuple #[.int .i64 (wsL (-1) q os),.int .i64 (wsM (-1) q os),.int .i64 (wsL 1 q bs),.int .i64 (wsM 1 q bs)])∧Below w.heap.size w w':=by
 have HX:=Hj h;have HY:=Hj h';have HLN:=Hj h.1;have HMN:=Hj h'.1;have HQ:=Hj hq;have HCA:=Hj ho;have HCB:=Hj hb;clear h h' hq ho hb;go_enter Tryz.func100,Tryz.ntmps100
 go_wp2_with fail
 have hbx:=Blk.new w 42 #[.bool an,.slice aA ak ac,.bool an',.slice aA' ak' ac'];have hb0:Below w.heap.size w (w.alloc (.cells #[.bool an,.slice aA ak ac,.bool an',.slice aA' ak' ac'] 42)):=(Below.refl _ _).alloc (Nat.le_refl _) _;generalize w.alloc (.cells #[.bool an,.slice aA ak ac,.bool an',.slice aA' ak' ac'] 42)=W0 at *;have HST:=Hj (And.intro hb0 hbx);clear hb0 hbx
 go_loopw [10,11,14] (fun tl tm t wr=>∃ k:Nat,k≤n∧t=.int .i64 k∧tl=.int .i64 (wsL (-1) q (os.take k))∧tm=.int .i64 (wsM (-1) q (os.take k))∧Hid (Below w.heap.size w wr∧Blk wr w.heap.size 42 #[.bool an,.slice aA ak ac,.bool an',.slice aA' ak' ac'])) (fun _ _ t _=>n-(intOf t).toNat)
 case atStart=>exact ⟨0,Nat.zero_le _,rfl,rfl,rfl,HST.out⟩
 case round =>
  obtain ⟨k,hk,rfl,rfl,rfl,hR⟩:=hrel;obtain ⟨wz,rfl⟩:∃ u,u=wr:=⟨_,rfl⟩;by_cases hlt:k<n
  ·obtain ⟨b,o,rfl,hb,hc⟩:=HX.out.2 (by omega);obtain ⟨A',n',c',hcell,hst⟩:=hc k hlt;obtain ⟨hBW,hBX⟩:=hR.out;have hcl:=(hBW.cell (p:=⟨b,o+k,none⟩) hb).trans hcell;have hbr:b<wz.heap.size:=Nat.lt_of_lt_of_le hb hBW.size;have hkl:k<os.length:=by rw [HLN.out];exact hlt
   have hmem:=getD_mem (d:=([]:List (Int×Int))) hkl;have hck:=HCA.out _ hmem;have HCT:=Hj (fun W (hW:Kp wz W)=>rsupplyAt_any A' n' c' (os[k]?.getD []) an an' aA aA' ak ac ak' ac' q W (hst.below (hBW.trans (Below.mono hW hBW.size))) (HQ.out.below (hBW.trans (Below.mono hW hBW.size))) hck);obtain ⟨s1,s2⟩:=ws_snoc (-1) q hkl;have bd:=ws_bd (fun l hl=>HCA.out l (List.mem_of_mem_take hl):∀ l∈os.take k,chk true l=0) (-1) q;have bd2:=wl_bd3 hck (-1) q;have hl2:=List.length_take_le k os;generalize wlL (-1) q (os[k]?.getD [])=xl at *;generalize wlM (-1) q (os[k]?.getD [])=xm at *;generalize wsL (-1) q (os.take k)=vl at *;generalize wsM (-1) q (os.take k)=vm at *;have wl1:IntKind.i64.wrap (vl+xl)=vl+xl:=IntWalk.i64_in _ (by omega);have wl2:IntKind.i64.wrap (vm+xm)=vm+xm:=IntWalk.i64_in _ (by omega);have k1:(0:Int)≤(k:Int):=by omega
   have k2:(k:Int)<(n:Int):=by omega
   have HS1:=Hj s1;have HS2:=Hj s2;have HR:=Hj hR.out;have HS:=Hj (show ∀ w',Kp wz w'→(w'.cell? ⟨b,o+k,none⟩=some (.slice A' n' c')∧w'.cell? ⟨w.heap.size,0,none⟩=some (.bool an)∧w'.cell? ⟨w.heap.size,1,none⟩=some (.slice aA ak ac)∧w'.cell? ⟨w.heap.size,2,none⟩=some (.bool an')∧w'.cell? ⟨w.heap.size,3,none⟩=some (.slice aA' ak' ac'))∧Kp wz w' from fun w' hk=>⟨⟨(Below.cell hk (p:=⟨b,o+k,none⟩) hbr).trans hcl,(Kp.blk hk hBX).cell 0,(Kp.blk hk hBX).cell 1,(Kp.blk hk hBX).cell 2,(Kp.blk hk hBX).cell 3⟩,hk⟩);have hk0:=Kp.refl wz;clear hc hcell hst hkl hmem hck s1 s2 bd bd2 hl2 hR hBW hBX hcl hbr hb
   go_wp2_with fail
   go_region_held3 (fun w'=>(w'.cell? ⟨b,o+k,none⟩=some (.slice A' n' c')∧w'.cell? ⟨w.heap.size,0,none⟩=some (.bool an)∧w'.cell? ⟨w.heap.size,1,none⟩=some (.slice aA ak ac)∧w'.cell? ⟨w.heap.size,2,none⟩=some (.bool an')∧w'.cell? ⟨w.heap.size,3,none⟩=some (.slice aA' ak' ac'))∧Kp wz w')
    (with_reducible first|(refine HS.out _ ?_;assumption)|(refine HS.out _ (Kp.drew ?_);assumption)|(refine' HS.out _ (Kp.drew (And.right _));rotate_left;assumption))
    (first
     | (go_at_call 146;have hk:=And.right ‹_∧Kp wz _›;refine (HCT.out _ hk).mono ?_;rintro e v1 ⟨rfl,hb1⟩;have hk2:=Kp.trans hk hb1;clear hb1))
   have HV1:=Hj (And.intro (HR.out.1.trans (Below.mono hk2 HR.out.1.size)) (Kp.blk hk2 HR.out.2));clear hk2 hk0 HCT HR HS;go_wp2;go_roundw
   case rel=>exact ⟨k+1,by omega,by go_num,by rw [HS1.out],by rw [HS2.out],HV1.out⟩
   case measure=>simp [intOf];omega
  ·obtain rfl:k=n:=by omega
   rw [List.take_of_length_le (by rw [HLN.out];exact Nat.le_refl _)];generalize hx1:wsL (-1) q os=x1 at *;generalize hx2:wsM (-1) q os=x2 at *;have HX1:=Hj hx1;have HX2:=Hj hx2;have HRA:=Hj hR.out;clear hR hx1 hx2
   go_wp2_with fail
   go_loopw [12,13,18] (fun tl tm t wr=>∃ k:Nat,k≤m∧t=.int .i64 k∧tl=.int .i64 (wsL (1) q (bs.take k))∧tm=.int .i64 (wsM (1) q (bs.take k))∧Hid (Below w.heap.size w wr∧Blk wr w.heap.size 42 #[.bool an,.slice aA ak ac,.bool an',.slice aA' ak' ac'])) (fun _ _ t _=>m-(intOf t).toNat)
   case atStart=>exact ⟨0,Nat.zero_le _,rfl,rfl,rfl,HRA.out⟩
   case round =>
    obtain ⟨k,hk,rfl,rfl,rfl,hR⟩:=hrel;obtain ⟨wz,rfl⟩:∃ u,u=wr:=⟨_,rfl⟩;by_cases hlt:k<m
    ·obtain ⟨b,o,rfl,hb,hc⟩:=HY.out.2 (by omega);obtain ⟨A',n',c',hcell,hst⟩:=hc k hlt;obtain ⟨hBW,hBX⟩:=hR.out;have hcl:=(hBW.cell (p:=⟨b,o+k,none⟩) hb).trans hcell;have hbr:b<wz.heap.size:=Nat.lt_of_lt_of_le hb hBW.size;have hkl:k<bs.length:=by rw [HMN.out];exact hlt
     have hmem:=getD_mem (d:=([]:List (Int×Int))) hkl;have hck:=HCB.out _ hmem;have HCT:=Hj (fun W (hW:Kp wz W)=>rdemandAt_any A' n' c' (bs[k]?.getD []) an an' aA aA' ak ac ak' ac' q W (hst.below (hBW.trans (Below.mono hW hBW.size))) (HQ.out.below (hBW.trans (Below.mono hW hBW.size))) hck);obtain ⟨s1,s2⟩:=ws_snoc (1) q hkl;have bd:=ws_bd (fun l hl=>HCB.out l (List.mem_of_mem_take hl):∀ l∈bs.take k,chk false l=0) (1) q;have bd2:=wl_bd3 hck (1) q;have hl2:=List.length_take_le k bs;generalize wlL (1) q (bs[k]?.getD [])=xl at *;generalize wlM (1) q (bs[k]?.getD [])=xm at *;generalize wsL (1) q (bs.take k)=vl at *;generalize wsM (1) q (bs.take k)=vm at *;have wl1:IntKind.i64.wrap (vl+xl)=vl+xl:=IntWalk.i64_in _ (by omega);have wl2:IntKind.i64.wrap (vm+xm)=vm+xm:=IntWalk.i64_in _ (by omega);have k1:(0:Int)≤(k:Int):=by omega
     have k2:(k:Int)<(m:Int):=by omega
     have HS1:=Hj s1;have HS2:=Hj s2;have HR:=Hj hR.out;have HS:=Hj (show ∀ w',Kp wz w'→(w'.cell? ⟨b,o+k,none⟩=some (.slice A' n' c')∧w'.cell? ⟨w.heap.size,0,none⟩=some (.bool an)∧w'.cell? ⟨w.heap.size,1,none⟩=some (.slice aA ak ac)∧w'.cell? ⟨w.heap.size,2,none⟩=some (.bool an')∧w'.cell? ⟨w.heap.size,3,none⟩=some (.slice aA' ak' ac'))∧Kp wz w' from fun w' hk=>⟨⟨(Below.cell hk (p:=⟨b,o+k,none⟩) hbr).trans hcl,(Kp.blk hk hBX).cell 0,(Kp.blk hk hBX).cell 1,(Kp.blk hk hBX).cell 2,(Kp.blk hk hBX).cell 3⟩,hk⟩);have hk0:=Kp.refl wz;clear hc hcell hst hkl hmem hck s1 s2 bd bd2 hl2 hR hBW hBX hcl hbr hb
     go_wp2_with fail
     go_region_held3 (fun w'=>(w'.cell? ⟨b,o+k,none⟩=some (.slice A' n' c')∧w'.cell? ⟨w.heap.size,0,none⟩=some (.bool an)∧w'.cell? ⟨w.heap.size,1,none⟩=some (.slice aA ak ac)∧w'.cell? ⟨w.heap.size,2,none⟩=some (.bool an')∧w'.cell? ⟨w.heap.size,3,none⟩=some (.slice aA' ak' ac'))∧Kp wz w')
      (with_reducible first|(refine HS.out _ ?_;assumption)|(refine HS.out _ (Kp.drew ?_);assumption)|(refine' HS.out _ (Kp.drew (And.right _));rotate_left;assumption))
      (first
       | (go_at_call 147;have hk:=And.right ‹_∧Kp wz _›;refine (HCT.out _ hk).mono ?_;rintro e v1 ⟨rfl,hb1⟩;have hk2:=Kp.trans hk hb1;clear hb1))
     have HV1:=Hj (And.intro (HR.out.1.trans (Below.mono hk2 HR.out.1.size)) (Kp.blk hk2 HR.out.2));clear hk2 hk0 HCT HR HS;go_wp2;go_roundw
     case rel=>exact ⟨k+1,by omega,by go_num,by rw [HS1.out],by rw [HS2.out],HV1.out⟩
     case measure=>simp [intOf];omega
    ·obtain rfl:k=m:=by omega
     rw [List.take_of_length_le (by rw [HMN.out];exact Nat.le_refl _)];have HB9:=Hj hR.out.1;clear hR;go_wp2;refine bodyPost_ret (v:=.tuple #[.int .i64 x1,.int .i64 x2,.int .i64 (wsL 1 q bs),.int .i64 (wsM 1 q bs)]) ?_ rfl ⟨by rw [HX1.out,HX2.out],HB9.out⟩;simp [results,Tryz.results100,go_sem]
theorem rclears25_in (A B:Option Addr) (n c m d:Nat) (os bs:List (List (Int×Int))) (an an':Bool) (aA aA':Option Addr) (ak ac ak' ac':Nat) (q:Rat) (w:World) (h:CsAt w A n os) (h':CsAt w B m bs) (hq:QS 7 w an aA ak ac an' aA' ak' ac' q) (ho:∀ l∈os,chk true l=0) (hb:∀ l∈bs,chk false l=0) (hn:n≤1000) (hm:m≤1000) :
  Calls Tryz.prog 99 #[.slice A n c,.slice B m d,.agg #[.bool an,.slice aA ak ac,.bool an',.slice aA' ak' ac']] w fun e w'=>e=.returned (.bool (balB os bs q))∧Below w.heap.size w w':=by
 have HWN:=Hj (fun W (hW:Below w.heap.size w W)=>rwants25_any A B n c m d os bs an an' aA aA' ak ac ak' ac' q W (h.below hW) (h'.below hW) (hq.below hW) ho hb hn hm);have HBL:Hid (balB os bs q=(decide (wsL (-1) q os≤wsM 1 q bs) && decide (wsL 1 q bs≤wsM (-1) q os))):=rfl;clear h h' hq ho hb hn hm;generalize wsL (-1) q os=x1 at *;generalize wsM (-1) q os=x2 at *;generalize wsL 1 q bs=y1 at *;generalize wsM 1 q bs=y2 at *;go_enter Tryz.func99,Tryz.ntmps99
 go_wp2_with fail
 have hbx:=Blk.new w 42 #[.bool an,.slice aA ak ac,.bool an',.slice aA' ak' ac'];have hb0:Below w.heap.size w (w.alloc (.cells #[.bool an,.slice aA ak ac,.bool an',.slice aA' ak' ac'] 42)):=(Below.refl _ _).alloc (Nat.le_refl _) _;generalize w.alloc (.cells #[.bool an,.slice aA ak ac,.bool an',.slice aA' ak' ac'] 42)=W0 at *;obtain ⟨_,_,_,_,f0,f1,f2,f3⟩:=hbx.four;have HB0:=Hj hb0;clear hb0 hbx
 go_wp2_with fail
 refine (HWN.out W0 HB0.out).mono ?_;rintro e v1 ⟨rfl,hb1⟩;have HV:=Hj (HB0.out.trans (hb1.mono HB0.out.size));clear hb1 HB0 HWN f0 f1 f2 f3;by_cases p1:x1≤y2
 ·have d1:decide (x1≤y2)=true:=decide_eq_true p1;go_wp2;go_ret;exact ⟨by rw [HBL.out,d1];rfl,HV.out⟩
 ·have d1:decide (x1≤y2)=false:=decide_eq_false p1;go_wp2;go_ret;exact ⟨by rw [HBL.out,d1];rfl,HV.out⟩
def okB (S D:List St.Lv) (u:Int):Bool:=match uP S u,uP D u with
 | some a,some b=>decide (a<b)
 | _,_=>false
theorem okB_iff {S D:List St.Lv} {u:Int}:okB S D u=true↔okU S D u:=by
 unfold okB okU;cases h1:uP S u<;>cases h2:uP D u<;>simp
theorem trB {S D:List St.Lv} {n:Nat} (h1:∀ k:Nat,k<n→okB S D (k:Int)=true) (h2:okB S D (n:Int)=false):TrZ S D (n:Int):=by
 refine ⟨by omega,fun u h0 hu=>?_,fun h=>?_⟩
 ·have:=h1 u.toNat (by omega);rw [Int.toNat_of_nonneg h0] at this;exact okB_iff.1 this
 ·rw [okB_iff.2 h] at h2;simp at h2
def prB (os bs:List (List (Int×Int))) (p:Int):Bool :=
 (dists os bs).elem (absI p) && balB os bs ((p:Int):Rat) && ((dists os bs).all fun d=>!(decide (d<absI p)) || (!(balB os bs ((d:Int):Rat)) && !(balB os bs ((-d:Int):Rat)))) && (!(decide (p<0)) || !(balB os bs ((-p:Int):Rat)))
theorem prB_ok {os bs:List (List (Int×Int))} {p:Int} (h:prB os bs p=true):PrZ os bs p:=by
 unfold prB at h;simp only [Bool.and_eq_true,Bool.or_eq_true,Bool.not_eq_true',List.all_eq_true,decide_eq_false_iff_not,List.elem_eq_mem,decide_eq_true_eq] at h;obtain ⟨⟨⟨h1,h2⟩,h3⟩,h4⟩:=h;refine Or.inl ⟨h1,h2,fun d hd hlt=>?_,fun hp=>?_⟩
 ·rcases h3 d hd with h9|h9
  ·exact absurd hlt h9
  ·exact h9
 ·rcases h4 with h9|h9
  ·exact absurd hp h9
  ·exact h9
theorem ex25_0:RunV [[(5,1),(4,3)],[(3,2)]] [[(4,9),(4,2)],[(3,4)]] 7 (2) 39 [5,2] [4,3] [(1,5,[5,0]),(2,3,[0,3]),(3,4,[4,0])] [(9,4,[4,0]),(4,3,[0,3]),(2,4,[4,0])]:=by
 have hS:St.IsLv true 2 (St.tri 0 [[(5,1),(4,3)],[(3,2)]]) [(1,5,[5,0]),(2,3,[0,3]),(3,4,[4,0])]:=⟨by simp [St.ltU],fun p=>by simp [St.tri];try omega,by intro x hx;simp at hx;rcases hx with rfl|rfl|rfl<;>decide⟩;have hD:St.IsLv false 2 (St.tri 0 [[(4,9),(4,2)],[(3,4)]]) [(9,4,[4,0]),(4,3,[0,3]),(2,4,[4,0])]:=⟨by simp [St.ltU],fun p=>by simp [St.tri];try omega,by intro x hx;simp at hx;rcases hx with rfl|rfl|rfl<;>decide⟩;exact ⟨hS,hD,lv_valid (by decide +kernel) hS,lv_valid (by decide +kernel) hD,trB (n:=7) (by decide +kernel) (by decide +kernel),prB_ok (by decide +kernel),by decide +kernel,by decide +kernel,by decide +kernel⟩
theorem ex25_0_ck:ckB [[(5,1),(4,3)],[(3,2)]] [[(4,9),(4,2)],[(3,4)]]=0:=by decide +kernel
theorem ex25_1:RunV [[(5,1),(4,3)],[(3,2)]] [] 0 (0) 0 [0,0] [] [(1,5,[5,0]),(2,3,[0,3]),(3,4,[4,0])] []:=by
 have hS:St.IsLv true 2 (St.tri 0 [[(5,1),(4,3)],[(3,2)]]) [(1,5,[5,0]),(2,3,[0,3]),(3,4,[4,0])]:=⟨by simp [St.ltU],fun p=>by simp [St.tri];try omega,by intro x hx;simp at hx;rcases hx with rfl|rfl|rfl<;>decide⟩;have hD:St.IsLv false 0 (St.tri 0 []) []:=⟨by simp,fun p=>by simp [St.tri],by simp⟩;exact ⟨hS,hD,lv_valid (by decide +kernel) hS,lv_valid (by decide +kernel) hD,trB (n:=0) (by decide +kernel) (by decide +kernel),prB_ok (by decide +kernel),by decide +kernel,by decide +kernel,by decide +kernel⟩
theorem ex25_1_ck:ckB [[(5,1),(4,3)],[(3,2)]] []=0:=by decide +kernel
theorem ex25_2:RunV [[(2,-5)]] [] 0 (-5) 0 [0] [] [(-5,2,[2])] []:=by
 have hS:St.IsLv true 1 (St.tri 0 [[(2,-5)]]) [(-5,2,[2])]:=⟨by simp [St.ltU],fun p=>by simp [St.tri];try omega,by intro x hx;simp at hx;rcases hx with rfl<;>decide⟩;have hD:St.IsLv false 0 (St.tri 0 []) []:=⟨by simp,fun p=>by simp [St.tri],by simp⟩;exact ⟨hS,hD,lv_valid (by decide +kernel) hS,lv_valid (by decide +kernel) hD,trB (n:=0) (by decide +kernel) (by decide +kernel),prB_ok (by decide +kernel),by decide +kernel,by decide +kernel,by decide +kernel⟩
theorem ex25_2_ck:ckB [[(2,-5)]] []=0:=by decide +kernel
theorem ex25_3:RunV [[(2,3)]] [[(5,8)]] 2 (8) 10 [2] [2] [(3,2,[2])] [(8,5,[5])]:=by
 have hS:St.IsLv true 1 (St.tri 0 [[(2,3)]]) [(3,2,[2])]:=⟨by simp [St.ltU],fun p=>by simp [St.tri];try omega,by intro x hx;simp at hx;rcases hx with rfl<;>decide⟩;have hD:St.IsLv false 1 (St.tri 0 [[(5,8)]]) [(8,5,[5])]:=⟨by simp [St.ltU],fun p=>by simp [St.tri];try omega,by intro x hx;simp at hx;rcases hx with rfl<;>decide⟩;exact ⟨hS,hD,lv_valid (by decide +kernel) hS,lv_valid (by decide +kernel) hD,trB (n:=2) (by decide +kernel) (by decide +kernel),prB_ok (by decide +kernel),by decide +kernel,by decide +kernel,by decide +kernel⟩
theorem ex25_3_ck:ckB [[(2,3)]] [[(5,8)]]=0:=by decide +kernel
theorem ex25_4:RunV [[(5,3)]] [[(2,8)]] 2 (3) 10 [2] [2] [(3,5,[5])] [(8,2,[2])]:=by
 have hS:St.IsLv true 1 (St.tri 0 [[(5,3)]]) [(3,5,[5])]:=⟨by simp [St.ltU],fun p=>by simp [St.tri];try omega,by intro x hx;simp at hx;rcases hx with rfl<;>decide⟩;have hD:St.IsLv false 1 (St.tri 0 [[(2,8)]]) [(8,2,[2])]:=⟨by simp [St.ltU],fun p=>by simp [St.tri];try omega,by intro x hx;simp at hx;rcases hx with rfl<;>decide⟩;exact ⟨hS,hD,lv_valid (by decide +kernel) hS,lv_valid (by decide +kernel) hD,trB (n:=2) (by decide +kernel) (by decide +kernel),prB_ok (by decide +kernel),by decide +kernel,by decide +kernel,by decide +kernel⟩
theorem ex25_4_ck:ckB [[(5,3)]] [[(2,8)]]=0:=by decide +kernel
theorem ex25_5:RunV [[(5,-4)]] [[(5,6)]] 5 (0) 50 [5] [5] [(-4,5,[5])] [(6,5,[5])]:=by
 have hS:St.IsLv true 1 (St.tri 0 [[(5,-4)]]) [(-4,5,[5])]:=⟨by simp [St.ltU],fun p=>by simp [St.tri];try omega,by intro x hx;simp at hx;rcases hx with rfl<;>decide⟩;have hD:St.IsLv false 1 (St.tri 0 [[(5,6)]]) [(6,5,[5])]:=⟨by simp [St.ltU],fun p=>by simp [St.tri];try omega,by intro x hx;simp at hx;rcases hx with rfl<;>decide⟩;exact ⟨hS,hD,lv_valid (by decide +kernel) hS,lv_valid (by decide +kernel) hD,trB (n:=5) (by decide +kernel) (by decide +kernel),prB_ok (by decide +kernel),by decide +kernel,by decide +kernel,by decide +kernel⟩
theorem ex25_5_ck:ckB [[(5,-4)]] [[(5,6)]]=0:=by decide +kernel
end Go.Proofs.YtjajigkacccdgaaGreat
