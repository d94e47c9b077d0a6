/-
Lemmas of the walk; no further conditions.
-/
import Derived.Test.YtjajigkacccdgaaGreatTfAT
set_option linter.unusedVariables false
set_option linter.unusedSimpArgs false
set_option maxRecDepth 100000
set_option maxHeartbeats 16000000
namespace Go.Proofs.YtjajigkacccdgaaGreat
open Go.RowKit
open Wd
def czQ:List (Int×Int)→Rat→Rat
 | [],_=>0
 | s :: l,z=>lessQ z s.1*((s.2:Int):Rat)+czQ l (z-lessQ z s.1)
theorem restAt_hd (s:Int×Int) (l:List (Int×Int)) (z:Rat):∀ k,restAt (s :: l) z (k+1)=restAt l (z-lessQ z s.1) k
 | 0=>rfl
 | k+1=>by
  rw [restAt,restAt_hd s l z k,restAt]
  rfl
theorem partAt_hd (s:Int×Int) (l:List (Int×Int)) (z:Rat) (k:Nat):partAt (s :: l) z (k+1)=partAt l (z-lessQ z s.1) k:=by
 rw [partAt,restAt_hd,partAt]
 rfl
theorem lessQ_spec {z:Rat} {a:Int} (h0:0≤z) (ha:0≤a):0≤lessQ z a∧lessQ z a≤(a:Rat)∧lessQ z a≤z∧((lessQ z a=z∧z≤(a:Rat))∨(lessQ z a=(a:Rat)∧(a:Rat)<z)):=by
 have h1:(0:Rat)≤(a:Rat):=by exact_mod_cast ha
 unfold lessQ;split
 ·exact ⟨h1,Rat.le_refl,by grind,Or.inr ⟨rfl,by assumption⟩⟩
 ·exact ⟨h0,by grind,Rat.le_refl,Or.inl ⟨rfl,by grind⟩⟩
theorem czQ_zero:∀ {l:List (Int×Int)},(∀ s∈l,0≤s.1)→czQ l 0=0
 | [],_=>rfl
 | s :: l,h=>by
  have h2:=h s (List.mem_cons_self ..);obtain ⟨h3,h4,h5,h6⟩:=lessQ_spec (z:=0) Rat.le_refl h2;have e:lessQ 0 s.1=0:=by grind
  rw [czQ,e,show (0:Rat)-0=0 by grind,czQ_zero fun t ht=>h t (List.mem_cons_of_mem _ ht)];grind
theorem aT_nonneg:∀ {l:List (Int×Int)},(∀ s∈l,0≤s.1)→0≤aT l
 | [],_=>Int.le_refl _
 | s :: l,h=>by
  have h1:=aT_nonneg fun t ht=>h t (List.mem_cons_of_mem _ ht);have h2:=h s (List.mem_cons_self ..);rw [aT_cons];omega
def sumF (f:Nat→Rat):Nat→Rat
 | 0=>0
 | k+1=>sumF f k+f k
theorem sumF_le {f g:Nat→Rat}:∀ {n:Nat},(∀ i,i<n→f i≤g i)→sumF f n≤sumF g n
 | 0,_=>Rat.le_refl
 | n+1,h=>by
  have h1:=sumF_le (n:=n) fun i hi=>h i (by omega);have h2:=h n (by omega);rw [sumF,sumF];grind
theorem sumF_eq {f g:Nat→Rat}:∀ {n:Nat},(∀ i,i<n→f i=g i)→sumF f n=sumF g n
 | 0,_=>rfl
 | n+1,h=>by rw [sumF,sumF,sumF_eq (n:=n) fun i hi=>h i (by omega),h n (by omega)]
theorem sumF_all {f g:Nat→Rat}:∀ {n:Nat},(∀ i,i<n→f i≤g i)→sumF g n≤sumF f n→∀ i,i<n→f i=g i
 | 0,_,_,i,hi=>by omega
 | n+1,h,hs,i,hi=>by
  have h1:=sumF_le (n:=n) fun i hi=>h i (by omega);have h2:=h n (by omega);rw [sumF,sumF] at hs;by_cases e:i=n
  ·subst e;grind
  ·exact sumF_all (n:=n) (fun i hi=>h i (by omega)) (by grind) i (by omega)
structure LF (n:Nat) (lo up:Nat→Rat) (xs:Nat→Rat) (q:Rat):Prop where
 ge:∀ i,i<n→lo i≤xs i
 le:∀ i,i<n→xs i≤up i
 sum:sumF xs n=q
 last:∀ i,i<n→lo i<xs i→∀ k,k<n→i<k→xs k=up k
theorem LF.least {n:Nat} {lo up xs ys:Nat→Rat} {q:Rat} (h:LF n lo up xs q) (h1:∀ i,i<n→lo i≤ys i) (h2:∀ i,i<n→ys i≤up i) (hs:q≤sumF ys n) {i:Nat} (hi:i<n) (he:∀ j,j<i→xs j=ys j) (hne:xs i≠ys i):xs i<ys i:=by
 have hc:¬ ys i<xs i:=fun hlt=>by
  have hk:∀ k,k<n→ys k≤xs k:=fun k hk=>by
   rcases Nat.lt_trichotomy k i with h3|h3|h3
   ·rw [he k h3];exact Rat.le_refl
   ·subst h3;exact Rat.le_of_lt hlt
   ·rw [h.last i hi (Std.lt_of_le_of_lt (h1 i hi) hlt) k hk h3];exact h2 k hk
  have:=sumF_all (f:=ys) (g:=xs) hk (by rw [h.sum];exact hs) i hi;exact hne this.symm
 grind
theorem LF.only {n:Nat} {lo up xs ys:Nat→Rat} {q:Rat} (h:LF n lo up xs q) (h':LF n lo up ys q):∀ i,i<n→xs i=ys i:=by
 intro i
 induction i using Nat.strongRecOn with
 | _ i ih =>
  intro hi;by_cases e:xs i=ys i
  ·exact e
  ·have a:=h.least h'.ge h'.le (by rw [h'.sum];exact Rat.le_refl) hi (fun j hj=>ih j hj (by omega)) e;have b:=h'.least h.ge h.le (by rw [h.sum];exact Rat.le_refl) hi (fun j hj=>(ih j hj (by omega)).symm) (Ne.symm e);grind
namespace St
def ltB (up:Bool) (a b:Int):Bool:=if up then decide (a<b) else decide (b<a)
theorem lv_sorted {up:Bool} {lv:List Lv} (h:(lv.map (·.1)).Pairwise (ltU up)) {i j:Nat} (hij:i<j) (hj:j<lv.length):ltU up (lv[i]?.getD (0,0,[])).1 (lv[j]?.getD (0,0,[])).1:=by
 have:=List.pairwise_iff_getElem.1 h i j (by simpa using (show i<lv.length by omega)) (by simpa using hj) hij;rw [List.getElem_map,List.getElem_map] at this;rw [List.getElem?_eq_getElem (show i<lv.length by omega),List.getElem?_eq_getElem hj];exact this
end St
end Go.Proofs.YtjajigkacccdgaaGreat
namespace Go.Proofs.YtjajigkacccdgaaGreat
open Go.RowKit
open Wd
theorem partI_cons (s:Int×Int) (l:List (Int×Int)) (z:Int) (k:Nat):partI (s :: l) z (k+1)=partI l (z-min z s.1) k:=by
 unfold partI;rw [restI_hd]
 rfl
theorem partI_side (p:Int):∀ {l:List (Int×Int)} {z:Int},(l.map (·.2)).Pairwise (· < ·)→(∀ s∈l,0≤s.1)→aL p l≤z→z≤aM p l→∀ k,k<l.length →
  ((l[k]?.getD (0,0)).2<p→partI l z k=(l[k]?.getD (0,0)).1)∧(p<(l[k]?.getD (0,0)).2→partI l z k=0)∧0≤partI l z k∧partI l z k≤(l[k]?.getD (0,0)).1
 | [],z,_,_,_,_,k,hk=>by simp at hk
 | s :: l,z,hs,h,h0,h1,k,hk=>by
  have h2:=h s (List.mem_cons_self ..);rw [List.map_cons,List.pairwise_cons] at hs;have hab:∀ t∈l,s.2<t.2:=fun t ht=>hs.1 _ (List.mem_map.2 ⟨t,ht,rfl⟩);have hl:=fun t ht=>h t (List.mem_cons_of_mem _ ht);have hb:=aL_le_aM p hl;have hz:=(aL_le_aM p h).1;rw [aL_cons] at h0;rw [aM_cons] at h1;have hr:aL p l≤z-min z s.1∧z-min z s.1≤aM p l∧(s.2<p→min z s.1=s.1)∧(p<s.2→min z s.1=0)∧0≤min z s.1∧min z s.1≤s.1:=by
   by_cases c1:s.2<p
   ·rw [if_pos c1] at h0;rw [if_pos (by omega)] at h1;omega
   ·rw [if_neg c1] at h0;obtain ⟨a1,a2,a3⟩:=above_zero (p:=p) (l:=l) fun t ht=>by have:=hab t ht;omega
    by_cases c2:s.2≤p
    ·rw [if_pos c2] at h1;omega
    ·rw [if_neg c2] at h1;omega
  cases k with
  | zero =>
   have e:partI (s :: l) z 0=min z s.1:=rfl;rw [e];exact ⟨hr.2.2.1,hr.2.2.2.1,hr.2.2.2.2⟩
  | succ k =>
   rw [partI_cons];exact partI_side p hs.2 hl hr.1 hr.2.1 k (by simpa using hk)
theorem sumI_set:∀ {l:List Int} {i:Nat} (d:Int),i<l.length→sumI (l.set i (l[i]?.getD 0+d))=sumI l+d
 | [],i,_,h=>by simp at h
 | x :: l,0,d,_=>by simp [sumI];omega
 | x :: l,i+1,d,h=>by
  have:=sumI_set (l:=l) (i:=i) d (by simpa using h);simp only [List.set_cons_succ,List.getElem?_cons_succ,sumI] at this ⊢;omega
theorem shRow_sum {xs:List Int} {n:Nat} {t:Int} {ys:List Int} (hy:ys.length=n):∀ j,j≤n→sumI (shRow xs n t ys j)=sumI ys+(t-shRest xs n t j)
 | 0,_=>by simp [shRow,shRest]
 | j+1,hj=>by
  rw [shRow,sumI_set _ (by rw [shRow_len];omega),shRow_sum hy j (by omega),shRest,shPart];omega
theorem take_last {xs:List Int} {k:Nat} (hk:k<xs.length):sumI (xs.take (k+1))=sumI (xs.take k)+xs[k]?.getD 0:=by
 rw [List.take_succ_eq_append_getElem hk,sumI_snoc];simp [hk]
theorem shRest_le {xs:List Int} {n:Nat} {t:Int} (hx:∀ y∈xs,0≤y∧y≤1000000) (hl:xs.length=n) (h1:t≤sumI xs):∀ j,j≤n→shRest xs n t j≤sumI (xs.take (n-j))
 | 0,_=>by rw [shRest,Nat.sub_zero,← hl,List.take_length];exact h1
 | j+1,hj=>by
  have ih:=shRest_le hx hl h1 j (by omega);have e:n-j=(n-(j+1))+1:=by omega
  have e2:n-1-j=n-(j+1):=by omega
  rw [e,take_last (by omega)] at ih;have h0:=sumI_bd (xs.take (n-(j+1))) fun y hy=>hx y (List.mem_of_mem_take hy);rw [shRest,e2];omega
theorem shRow_all {xs:List Int} {n:Nat} {t:Int} {ys:List Int} (hx:∀ y∈xs,0≤y∧y≤1000000) (hl:xs.length=n) (h0:0≤t) (h1:t≤sumI xs) (hy:ys.length=n):sumI (shRow xs n t ys n)=sumI ys+t:=by
 have a1:=shRest_le hx hl h1 n (Nat.le_refl _);have a2:=shRest_bd hx hl h0 n (Nat.le_refl _);rw [Nat.sub_self,List.take_zero,sumI] at a1;rw [shRow_sum hy n (Nat.le_refl _)];omega
theorem shAll_sum {up:Bool} {n:Nat} {lv:List St.Lv} (hv:VL up n lv) {z:Int} (hp:∀ k,k<lv.length→0≤partI (lvQ lv) z k∧partI (lvQ lv) z k≤((lvQ lv)[k]?.getD (0,0)).1):∀ k,k≤lv.length→sumI (shAll lv n z k)=z-restI (lvQ lv) z k
 | 0,_=>by
  have:sumI (List.replicate n 0)=0:=sumI_zero fun x hx=>(List.mem_replicate.1 hx).2;rw [shAll,this,restI];omega
 | k+1,hk=>by
  have hm:=getD_mem (d:=Lv0) (l:=lv) (k:=k) (by omega);have h1:=hp k (by omega);rw [lvQ_fst,(hv.sum _ hm).1] at h1;rw [shAll,shRow_all (hv.parts _ hm).2 (hv.parts _ hm).1 h1.1 h1.2 (shAll_len ..),shAll_sum hv hp k (by omega),restI,partI];omega
theorem restI_end:∀ {l:List (Int×Int)} {z:Int},(∀ s∈l,0≤s.1)→0≤z→z≤aT l→restI l z l.length=0
 | [],z,_,h0,h1=>by
  simp only [aT,List.map_nil,sumI] at h1;show z=0;omega
 | s :: l,z,h,h0,h1=>by
  have h2:=h s (List.mem_cons_self ..);have hl:=fun t ht=>h t (List.mem_cons_of_mem _ ht);have hb:=aL_le_aM 0 hl;rw [aT_cons] at h1;rw [List.length_cons,restI_hd];exact restI_end hl (by omega) (by omega)
theorem sumI_takeL {α:Type} (f:α→Int) {l:List α} {k:Nat} (hk:k<l.length) (d:α):sumI ((l.take (k+1)).map f)=sumI ((l.take k).map f)+f (l[k]?.getD d):=by
 rw [List.take_succ_eq_append_getElem hk,List.map_append,List.map_cons,List.map_nil,sumI_snoc];simp [hk]
theorem shPart_le {xs:List Int} {n:Nat} {t:Int} {i:Nat} (hi:i<n):shPart xs n t (n-1-i)≤xs[i]?.getD 0:=by
 have e:n-1-(n-1-i)=i:=by omega
 unfold shPart;rw [e];omega
theorem shAll_side (p:Int) {up:Bool} {n:Nat} {lv:List St.Lv} (hv:VL up n lv) {z:Int}
  (hp:∀ k,k<lv.length→(((lvQ lv)[k]?.getD (0,0)).2<p→partI (lvQ lv) z k=((lvQ lv)[k]?.getD (0,0)).1)∧(p<((lvQ lv)[k]?.getD (0,0)).2→partI (lvQ lv) z k=0)∧0≤partI (lvQ lv) z k∧partI (lvQ lv) z k≤((lvQ lv)[k]?.getD (0,0)).1) {i:Nat} (hi:i<n) :
  ∀ k,k≤lv.length→sumI ((lv.take k).map fun x=>if x.1<p then x.2.2[i]?.getD 0 else 0)≤(shAll lv n z k)[i]?.getD 0∧(shAll lv n z k)[i]?.getD 0≤sumI ((lv.take k).map fun x=>if x.1≤p then x.2.2[i]?.getD 0 else 0)
 | 0,_=>by
  have e:(shAll lv n z 0)[i]?.getD 0=0:=by simp [shAll,hi]
  rw [e];exact ⟨Int.le_refl _,Int.le_refl _⟩
 | k + 1,hk=>by
  obtain ⟨i1,i2⟩:=shAll_side p hv hp hi k (by omega);have hm:=getD_mem (d:=Lv0) (l:=lv) (k:=k) (by omega);obtain ⟨h1,h2,h3,h4⟩:=hp k (by omega);rw [lvQ_snd,lvQ_fst] at h1;rw [lvQ_snd] at h2;obtain ⟨hl,hx⟩:=hv.parts _ hm;have hs:=(hv.sum _ hm).1;rw [sumI_takeL _ (by omega) Lv0,sumI_takeL _ (by omega) Lv0,shAll,shRow_get (shAll_len ..) n (Nat.le_refl _) i hi,Nat.sub_self,if_pos (Nat.zero_le i)];have b1:=shPart_le (xs:=(lv[k]?.getD Lv0).2.2) (t:=partI (lvQ lv) z k) hi;have b2:=shPart_bd hx hl h3 (j:=n-1-i) (by omega);by_cases c1:(lv[k]?.getD Lv0).1<p
  ·have e:=shPart_all hx hl hi;rw [← hs,← h1 c1] at e;rw [if_pos c1,if_pos (by omega),e];omega
  ·rw [if_neg c1];by_cases c2:(lv[k]?.getD Lv0).1≤p
   ·rw [if_pos c2];omega
   ·rw [if_neg c2,h2 (by omega),shPart_zero hx hl (by omega)];omega
namespace St
theorem sum_atF (f:Int→Bool) {l:List (Int×Int)} {ps:List Int} (hn:ps.Nodup) (h:∀ s∈l,s.2∈ps):sumI (ps.map fun p=>if f p then atP l p else 0)=sumI (l.map fun s=>if f s.2 then s.1 else 0):=by
 have:=sum_pricesF f (T:=l.map fun s=>(0,s.1,s.2)) hn fun t ht=>by
  obtain ⟨s,hs,rfl⟩:=List.mem_map.1 ht;exact h s hs
 simp only [qty_map,List.map_map] at this;exact this
theorem parts_sideF (f:Int→Bool) {up:Bool} {ls:List (List (Int×Int))} {lv:List Lv} (h:IsLv up ls.length (tri 0 ls) lv) {i:Nat} (hi:i<ls.length):sumI (lv.map fun x=>if f x.1 then x.2.2[i]?.getD 0 else 0)=sumI ((ls[i]?.getD []).map fun s=>if f s.2 then s.1 else 0):=by
 have e:lv.map (fun x=>if f x.1 then x.2.2[i]?.getD 0 else 0)=(lv.map (·.1)).map fun p=>if f p then atP (ls[i]?.getD []) p else 0:=by
  rw [List.map_map];refine List.map_congr_left fun x hx=>?_;rw [(h.2.2 x hx).2,parts_get hi,part_tri,if_pos (Nat.zero_le _),Nat.sub_zero]
  rfl
 rw [e];exact sum_atF f h.nodup fun s hs=>(h.2.1 s.2).2 (tri_price.2 ⟨_,getD_mem hi,s,hs,rfl⟩)
theorem parts_side {up:Bool} {ls:List (List (Int×Int))} {lv:List Lv} (h:IsLv up ls.length (tri 0 ls) lv) (p:Int) {i:Nat} (hi:i<ls.length) :
  sumI (lv.map fun x=>if x.1<p then x.2.2[i]?.getD 0 else 0)=aL p (ls[i]?.getD [])∧sumI (lv.map fun x=>if x.1≤p then x.2.2[i]?.getD 0 else 0)=aM p (ls[i]?.getD []):=by
 have h1:=parts_sideF (fun x=>decide (x<p)) h hi;have h2:=parts_sideF (fun x=>decide (x≤p)) h hi;simp only [decide_eq_true_eq] at h1 h2;exact ⟨h1,h2⟩
end St
structure Side (ls:List (List (Int×Int))) (p z:Int) (xs:List Int):Prop where
 len:xs.length=ls.length
 lo:∀ i,i<ls.length→aL p (ls[i]?.getD [])≤xs[i]?.getD 0
 hi:∀ i,i<ls.length→xs[i]?.getD 0≤aM p (ls[i]?.getD [])
 sum:sumI xs=z
theorem side_of {p z:Int} {ls:List (List (Int×Int))} {lv:List St.Lv} (h:St.IsLv true ls.length (St.tri 0 ls) lv) {up:Bool} (hv:VL up ls.length lv) (h0:0≤z) (m1:aL p (lvQ lv)≤z) (m2:z≤aM p (lvQ lv)):Side ls p z (shAll lv ls.length z lv.length):=by
 have hq:=(lvQ_pos hv).1;have hp:=partI_side p (lvQ_sorted h) hq m1 m2;rw [lvQ_len] at hp;have hb:=aL_le_aM p hq;refine ⟨shAll_len ..,fun i hi=>?_,fun i hi=>?_,?_⟩
 ·have:=(shAll_side p hv hp hi lv.length (Nat.le_refl _)).1;rw [List.take_length,(St.parts_side h p hi).1] at this;exact this
 ·have:=(shAll_side p hv hp hi lv.length (Nat.le_refl _)).2;rw [List.take_length,(St.parts_side h p hi).2] at this;exact this
 ·have e:=restI_end hq h0 (by omega);rw [lvQ_len] at e;rw [shAll_sum hv (fun k hk=>(hp k hk).2.2) lv.length (Nat.le_refl _),e];omega
theorem VL.neg {up:Bool} {n:Nat} {lv:List St.Lv} (h:VL up n lv):VL (!up) n (lv.map negV):=by
 refine ⟨by rw [List.length_map];exact h.len,by rw [List.length_map];exact h.n0,h.n16,?_,?_,?_,?_⟩
 ·intro x hx;obtain ⟨y,hy,rfl⟩:=List.mem_map.1 hx;have:=h.price y hy;show -1000000≤-y.1∧-y.1≤1000000;omega
 ·intro x hx;obtain ⟨y,hy,rfl⟩:=List.mem_map.1 hx;exact h.parts y hy
 ·intro x hx;obtain ⟨y,hy,rfl⟩:=List.mem_map.1 hx;exact h.sum y hy
 ·have e:(lv.map negV).map (·.1)=(lv.map (·.1)).map fun p=>-p:=by simp [negV]
  rw [e,List.pairwise_map];refine h.mono.imp fun {a b} hab=>?_;cases up<;>simp [St.ltU] at hab ⊢<;>omega
theorem negs_len (ls:List (List (Int×Int))):(negs ls).length=ls.length:=by simp [negs]
theorem negs_get (ls:List (List (Int×Int))) (i:Nat):(negs ls)[i]?.getD []=negL (ls[i]?.getD []):=by
 unfold negs;rw [List.getElem?_map];cases ls[i]?<;>rfl
theorem RunV.sides {os bs:List (List (Int×Int))} {z p wf:Int} {xs ys:List Int} {S D:List St.Lv} (hc:ckB os bs=0) (h:RunV os bs z p wf xs ys S D):Side os p z xs∧Side (negs bs) (-p) z ys:=by
 obtain ⟨⟨m1,m2⟩,m3,m4⟩:=h.mid hc;constructor
 ·rw [h.x];exact side_of h.isS h.vS h.tr.1 m1 m2
 ·have n1:=St.IsLv.neg h.isD;have n2:=h.vD.neg;have e:=negs_len bs;rw [← e] at n1 n2;have:=side_of n1 n2 h.tr.1 m3 m4;rw [e,List.length_map,shAll_neg] at this;rw [h.y];exact this
def costs (ls:List (List (Int×Int))) (xs:List Int):Nat→Int
 | 0=>0
 | k+1=>costs ls xs k+costI (ls[k]?.getD []) (xs[k]?.getD 0) (ls[k]?.getD []).length
theorem Side.costs {ls:List (List (Int×Int))} {p z:Int} {xs:List Int} (h:Side ls p z xs) (hs:∀ l∈ls,(l.map (·.2)).Pairwise (· < ·)) (hq:Pos ls):costs ls xs ls.length=p*z-gS p ls:=by
 have key:∀ k,k≤ls.length→Go.Proofs.YtjajigkacccdgaaGreat.costs ls xs k=p*sumI (xs.take k)-gS p (ls.take k):=by
  intro k
  induction k with
  | zero=>intro _;simp [Go.Proofs.YtjajigkacccdgaaGreat.costs,sumI,gS]
  | succ k ih =>
   intro hk;have hm:=getD_mem (d:=([]:List (Int×Int))) (l:=ls) (k:=k) (by omega);have e1:=cz_eq p (hs _ hm) (hq _ hm) (h.lo k (by omega)) (h.hi k (by omega));have e2:gS p (ls.take (k+1))=gS p (ls.take k)+aG p (ls[k]?.getD []):=sumI_takeL _ (by omega) _;rw [Go.Proofs.YtjajigkacccdgaaGreat.costs,ih (by omega),take_last (by have:=h.len;omega),e2,costI_cz,e1,Int.mul_add];omega
 have:=key ls.length (Nat.le_refl _);rw [List.take_length,← h.len,List.take_length,h.sum,h.len] at this;exact this
theorem negL_get1 (l:List (Int×Int)) (k:Nat):((negL l)[k]?.getD (0,0)).1=(l[k]?.getD (0,0)).1∧((negL l)[k]?.getD (0,0)).2 = -(l[k]?.getD (0,0)).2:=by
 unfold negL;rw [List.getElem?_map];cases l[k]?<;>simp
theorem restI_negL (l:List (Int×Int)) (z:Int):∀ k,restI (negL l) z k=restI l z k
 | 0=>rfl
 | k+1=>by rw [restI,restI,restI_negL l z k,(negL_get1 l k).1]
theorem costI_negL (l:List (Int×Int)) (z:Int):∀ k,costI (negL l) z k = -costI l z k
 | 0=>rfl
 | k+1=>by
  rw [costI,costI,costI_negL l z k,partI,partI,restI_negL,(negL_get1 l k).1,(negL_get1 l k).2,Int.mul_neg];omega
theorem costs_neg (ls:List (List (Int×Int))) (xs:List Int):∀ k,costs (negs ls) xs k = -costs ls xs k
 | 0=>rfl
 | k+1=>by
  rw [costs,costs,costs_neg ls xs k,negs_get,costI_negL];have:(negL (ls[k]?.getD [])).length=(ls[k]?.getD []).length:=by simp [negL]
  rw [this];omega
theorem chk_up {l:List (Int×Int)} (h:chk true l=0):(l.map (·.2)).Pairwise (· < ·):=(chk_mono h).imp fun {a b} hab=>by simpa [St.ltU] using hab
theorem chk_dn {l:List (Int×Int)} (h:chk false l=0):((negL l).map (·.2)).Pairwise (· < ·):=by
 have:=chk_mono h;have e:(negL l).map (·.2)=(l.map (·.2)).map fun p=>-p:=by simp [negL]
 rw [e,List.pairwise_map];refine this.imp fun {a b} hab=>?_;simp [St.ltU] at hab;omega
theorem RunV.trade {os bs:List (List (Int×Int))} {z p wf:Int} {xs ys:List Int} {S D:List St.Lv} (hc:ckB os bs=0) (h:RunV os bs z p wf xs ys S D):wf=costs bs ys bs.length-costs os xs os.length:=by
 obtain ⟨_,_,ho,hb⟩:=ckB_iff.1 hc;obtain ⟨h1,h2⟩:=h.sides hc;have e1:=h1.costs (fun l hl=>chk_up (ho l hl)) (Pos.of ho);have e2:=h2.costs (fun l hl=>by
  obtain ⟨l',hl',rfl⟩:=List.mem_map.1 hl;exact chk_dn (hb l' hl')) (Pos.of hb).neg
 rw [negs_len,costs_neg,Int.neg_mul] at e2;rw [h.gain hc,e1];omega
theorem a_wl (p:Int) (l:List (Int×Int)):(aL p l=wlL (-1) ((p:Int):Rat) l∧aM p l=wlM (-1) ((p:Int):Rat) l)∧aL (-p) (negL l)=wlL 1 ((p:Int):Rat) l∧aM (-p) (negL l)=wlM 1 ((p:Int):Rat) l:=by
 unfold aL aM wlL wlM negL;simp only [List.map_map,cmpQ_lt,cmpQ_gt,cmpQ_zero,Rat.intCast_lt_intCast,Rat.intCast_inj];refine ⟨⟨trivial,?_⟩,?_,?_⟩
 ·congr 1
  refine List.map_congr_left fun x _=>?_;have:x.2≤p↔x.2<p∨x.2=p:=by omega
  simp only [this]
 ·congr 1
  refine List.map_congr_left fun x _=>?_;simp only [Function.comp];have : -x.2 < -p↔p<x.2:=by omega
  simp only [this]
 ·congr 1
  refine List.map_congr_left fun x _=>?_;simp only [Function.comp];have : -x.2≤-p↔p<x.2∨x.2=p:=by omega
  simp only [this]
end Go.Proofs.YtjajigkacccdgaaGreat
namespace Go.Proofs.YtjajigkacccdgaaGreat
open Go.RowKit
open Wd
def qRest (xs:List Int) (n:Nat) (t:Rat):Nat→Rat
 | 0=>t
 | j+1=>qRest xs n t j-lessQ (qRest xs n t j) (xs[n-1-j]?.getD 0)
def qPart (xs:List Int) (n:Nat) (t:Rat) (j:Nat):Rat:=lessQ (qRest xs n t j) (xs[n-1-j]?.getD 0)
def qRow (xs:List Int) (n:Nat) (t:Rat) (ys:List Rat):Nat→List Rat
 | 0=>ys
 | j+1=>(qRow xs n t ys j).set (n-1-j) ((qRow xs n t ys j)[n-1-j]?.getD 0+qPart xs n t j)
def qAll (lv:List St.Lv) (n:Nat) (z:Rat):Nat→List Rat
 | 0=>List.replicate n 0
 | i+1=>qRow (lv[i]?.getD Lv0).2.2 n (partAt (lvQ lv) z i) (qAll lv n z i) n
theorem qRow_len (xs:List Int) (n:Nat) (t:Rat) (ys:List Rat):∀ j,(qRow xs n t ys j).length=ys.length
 | 0=>rfl
 | j+1=>by rw [qRow,List.length_set,qRow_len xs n t ys j]
theorem qAll_len (lv:List St.Lv) (n:Nat) (z:Rat):∀ i,(qAll lv n z i).length=n
 | 0=>by simp [qAll]
 | i+1=>by rw [qAll,qRow_len,qAll_len lv n z i]
theorem qRow_get {xs:List Int} {n:Nat} {t:Rat} {ys:List Rat} (hy:ys.length=n):∀ j,j≤n→∀ i,i<n→(qRow xs n t ys j)[i]?.getD 0=if n-j≤i then ys[i]?.getD 0+qPart xs n t (n-1-i) else ys[i]?.getD 0
 | 0,_,i,hi=>by rw [if_neg (by omega)];rfl
 | j+1,hj,i,hi=>by
  have ih:=qRow_get (xs:=xs) (t:=t) hy j (by omega);rw [qRow];by_cases e:n-1-j=i
  ·subst e;rw [List.getElem?_set_self (by rw [qRow_len];omega),if_pos (by omega)];simp only [Option.getD_some];rw [ih _ hi,if_neg (by omega),show n-1-(n-1-j)=j by omega]
  ·rw [List.getElem?_set_ne e,ih i hi];by_cases c:n-j≤i
   ·rw [if_pos c,if_pos (by omega)]
   ·rw [if_neg c,if_neg (by omega)]
theorem qAll_get {lv:List St.Lv} {n:Nat} {z:Rat} {i:Nat} (hi:i<n):∀ k,(qAll lv n z k)[i]?.getD 0=sumF (fun k=>qPart (lv[k]?.getD Lv0).2.2 n (partAt (lvQ lv) z k) (n-1-i)) k
 | 0=>by simp [qAll,sumF,hi]
 | k+1=>by
  rw [qAll,qRow_get (qAll_len ..) n (Nat.le_refl _) i hi,if_pos (by omega),qAll_get hi k,sumF]
def NN (xs:List Int):Prop:=∀ y∈xs,0≤y
theorem NN.get {xs:List Int} (h:NN xs) (i:Nat):0≤xs[i]?.getD 0:=by
 by_cases hi:i<xs.length
 ·exact h _ (getD_mem hi)
 ·rw [List.getElem?_eq_none (by omega)];exact Int.le_refl _
section
variable {xs:List Int} {n:Nat} {t:Rat}
theorem qRest_bd (hx:NN xs) (h0:0≤t):∀ j,0≤qRest xs n t j∧qRest xs n t j≤t
 | 0=>⟨h0,Rat.le_refl⟩
 | j+1=>by
  obtain ⟨i1,i2⟩:=qRest_bd hx h0 j;obtain ⟨m1,m2,m3,m4⟩:=lessQ_spec i1 (hx.get (n-1-j));rw [qRest];constructor<;>grind
theorem qPart_bd (hx:NN xs) (h0:0≤t) (j:Nat):0≤qPart xs n t j∧qPart xs n t j≤(((xs[n-1-j]?.getD 0:Int)):Rat):=by
 obtain ⟨i1,i2⟩:=qRest_bd (n:=n) hx h0 j;obtain ⟨m1,m2,m3,m4⟩:=lessQ_spec i1 (hx.get (n-1-j));exact ⟨m1,m2⟩
theorem qPart_zero (hx:NN xs) (j:Nat):qPart xs n 0 j=0:=by
 obtain ⟨i1,i2⟩:=qRest_bd (n:=n) (t:=0) hx Rat.le_refl j;obtain ⟨m1,m2,m3,m4⟩:=lessQ_spec i1 (hx.get (n-1-j));unfold qPart;grind
theorem qRest_part (j:Nat):qRest xs n t (j+1)=qRest xs n t j-qPart xs n t j:=rfl
theorem qRest_anti (hx:NN xs) (h0:0≤t) {j k:Nat} (h:j≤k):qRest xs n t k≤qRest xs n t j:=by
 induction h with
 | refl=>exact Rat.le_refl
 | @step m h ih =>
  have:=(qPart_bd (n:=n) hx h0 m).1;rw [Nat.succ_eq_add_one,qRest_part];grind
theorem qPart_last (hx:NN xs) (h0:0≤t) {j k:Nat} (hk:k<j) (hj:0<qPart xs n t j):qPart xs n t k=(((xs[n-1-k]?.getD 0:Int)):Rat):=by
 have h1:0<qRest xs n t (k+1):=by
  have h2:=qRest_anti (n:=n) hx h0 (show k+1≤j by omega);obtain ⟨i1,i2⟩:=qRest_bd (n:=n) hx h0 j;obtain ⟨m1,m2,m3,m4⟩:=lessQ_spec i1 (hx.get (n-1-j));unfold qPart at hj;grind
 obtain ⟨i1,i2⟩:=qRest_bd (n:=n) hx h0 k;obtain ⟨m1,m2,m3,m4⟩:=lessQ_spec i1 (hx.get (n-1-k));rw [qRest] at h1;unfold qPart;grind
end
theorem sumI_take_le {xs:List Int} (hx:NN xs):∀ k,sumI (xs.take k)≤sumI (xs.take (k+1)):=fun k=>by
 by_cases hk:k<xs.length
 ·rw [take_last hk];have:=hx.get k;omega
 ·rw [List.take_of_length_le (by omega),List.take_of_length_le (by omega)];exact Int.le_refl _
section
variable {xs:List Int} {n:Nat} {t:Rat}
theorem qRest_le (hx:NN xs) (hl:xs.length=n) (h0:0≤t) (h1:t≤((sumI xs:Int):Rat)):∀ j,j≤n→qRest xs n t j≤((sumI (xs.take (n-j)):Int):Rat)
 | 0,_=>by rw [Nat.sub_zero,List.take_of_length_le (by omega)];exact h1
 | j + 1,hj=>by
  have ih:=qRest_le hx hl h0 h1 j (by omega);rw [show n-j=(n-1-j)+1 by omega,take_last (by omega),Rat.intCast_add] at ih;obtain ⟨i1,i2⟩:=qRest_bd (n:=n) hx h0 j;obtain ⟨m1,m2,m3,m4⟩:=lessQ_spec i1 (hx.get (n-1-j));have hp:(0:Rat)≤((sumI (xs.take (n-1-j)):Int):Rat):=by
   have:∀ k,0≤sumI (xs.take k):=fun k=>by
    induction k with
    | zero=>simp [sumI]
    | succ k ih=>exact Int.le_trans ih (sumI_take_le hx k)
   exact_mod_cast this _
  rw [qRest,show n-(j+1)=n-1-j by omega];grind
theorem qRest_end (hx:NN xs) (hl:xs.length=n) (h0:0≤t) (h1:t≤((sumI xs:Int):Rat)):qRest xs n t n=0:=by
 have h2:=qRest_le hx hl h0 h1 n (Nat.le_refl _);have h3:=(qRest_bd (n:=n) hx h0 n).1;rw [Nat.sub_self,List.take_zero] at h2;have h4:((sumI []:Int):Rat)=0:=rfl;grind
theorem qRest_full (hx:NN xs) (hl:xs.length=n):∀ j,j≤n→qRest xs n ((sumI xs:Int):Rat) j=((sumI (xs.take (n-j)):Int):Rat)
 | 0,_=>by rw [Nat.sub_zero,List.take_of_length_le (by omega)];rfl
 | j + 1,hj=>by
  have ih:=qRest_full hx hl j (by omega);rw [show n-j=(n-1-j)+1 by omega,take_last (by omega),Rat.intCast_add] at ih;have hp:(0:Rat)≤((sumI (xs.take (n-1-j)):Int):Rat):=by
   have:∀ k,0≤sumI (xs.take k):=fun k=>by
    induction k with
    | zero=>simp [sumI]
    | succ k ih=>exact Int.le_trans ih (sumI_take_le hx k)
   exact_mod_cast this _
  have hg:(0:Rat)≤((xs[n-1-j]?.getD 0:Int):Rat):=by exact_mod_cast hx.get _
  obtain ⟨m1,m2,m3,m4⟩:=lessQ_spec (z:=qRest xs n ((sumI xs:Int):Rat) j) (by grind) (hx.get (n-1-j));rw [qRest,show n-(j+1)=n-1-j by omega];grind
theorem qPart_full (hx:NN xs) (hl:xs.length=n) {j:Nat} (hj:j<n):qPart xs n ((sumI xs:Int):Rat) j=((xs[n-1-j]?.getD 0:Int):Rat):=by
 have h1:=qRest_full hx hl j (by omega);have h2:=qRest_full hx hl (j+1) (by omega);rw [show n-j=(n-1-j)+1 by omega,take_last (by omega),Rat.intCast_add] at h1;rw [qRest_part,show n-(j+1)=n-1-j by omega] at h2;grind
end
theorem sumF_add (f g:Nat→Rat):∀ n,sumF (fun i=>f i+g i) n=sumF f n+sumF g n
 | 0=>by simp only [sumF];grind
 | n+1=>by rw [sumF,sumF_add f g n,sumF,sumF];grind
theorem sumF_first (f:Nat→Rat):∀ n,sumF f (n+1)=f 0+sumF (fun i=>f (i+1)) n
 | 0=>by simp only [sumF];grind
 | n+1=>by rw [sumF,sumF_first f n,sumF];grind
theorem sumF_rev (g:Nat→Rat):∀ n,sumF (fun i=>g (n-1-i)) n=sumF g n
 | 0=>rfl
 | n+1=>by
  rw [sumF_first,sumF,← sumF_rev g n];have e:sumF (fun i=>g (n+1-1-(i+1))) n=sumF (fun i=>g (n-1-i)) n:=sumF_eq fun i hi=>by
   show g (n+1-1-(i+1))=g (n-1-i);rw [show n+1-1-(i+1)=n-1-i by omega]
  rw [e,show n+1-1-0=n by omega];grind
theorem qPart_sum {xs:List Int} {n:Nat} {t:Rat}:∀ j,sumF (fun j=>qPart xs n t j) j=t-qRest xs n t j
 | 0=>by simp only [sumF,qRest];grind
 | j+1=>by rw [sumF,qPart_sum j,qRest_part];grind
theorem restAt_part (l:List (Int×Int)) (q:Rat) (k:Nat):restAt l q (k+1)=restAt l q k-partAt l q k:=rfl
theorem partAt_sum (l:List (Int×Int)) (q:Rat):∀ k,sumF (fun k=>partAt l q k) k=q-restAt l q k
 | 0=>by simp only [sumF,restAt];grind
 | k+1=>by rw [sumF,partAt_sum l q k,restAt_part];grind
theorem restAt_end:∀ {l:List (Int×Int)} {z:Rat},(∀ s∈l,0≤s.1)→0≤z→z≤((aT l:Int):Rat)→restAt l z l.length=0
 | [],z,_,h0,h1=>by
  have:((aT []:Int):Rat)=0:=rfl;show z=0;grind
 | s :: l,z,h,h0,h1=>by
  have h2:=h s (List.mem_cons_self ..);have hl:=fun t ht=>h t (List.mem_cons_of_mem _ ht);obtain ⟨m1,m2,m3,m4⟩:=lessQ_spec (z:=z) h0 h2;have hT:(0:Rat)≤((aT l:Int):Rat):=by exact_mod_cast aT_nonneg hl
  rw [aT_cons,Rat.intCast_add] at h1;rw [List.length_cons,restAt_hd];exact restAt_end hl (by grind) (by grind)
theorem partAt_side (p:Int):∀ {l:List (Int×Int)} {z:Rat},(l.map (·.2)).Pairwise (· < ·)→(∀ s∈l,0≤s.1)→((aL p l:Int):Rat)≤z→z≤((aM p l:Int):Rat)→∀ k,k<l.length →
  ((l[k]?.getD (0,0)).2<p→partAt l z k=(((l[k]?.getD (0,0)).1:Int):Rat))∧(p<(l[k]?.getD (0,0)).2→partAt l z k=0)∧0≤partAt l z k∧partAt l z k≤(((l[k]?.getD (0,0)).1:Int):Rat)
 | [],z,_,_,_,_,k,hk=>by simp at hk
 | s :: l,z,hs,h,h0,h1,k,hk=>by
  have h2:=h s (List.mem_cons_self ..);rw [List.map_cons,List.pairwise_cons] at hs;have hab:∀ t∈l,s.2<t.2:=fun t ht=>hs.1 _ (List.mem_map.2 ⟨t,ht,rfl⟩);have hl:=fun t ht=>h t (List.mem_cons_of_mem _ ht);have hb:=(aL_le_aM p hl).1;have hz:(0:Rat)≤z:=by
   have:(0:Rat)≤((aL p (s :: l):Int):Rat):=by exact_mod_cast (aL_le_aM p h).1
   grind
  have hb':(0:Rat)≤((aL p l:Int):Rat):=by exact_mod_cast hb
  obtain ⟨m1,m2,m3,m4⟩:=lessQ_spec (z:=z) hz h2;rw [aL_cons,Rat.intCast_add] at h0;rw [aM_cons,Rat.intCast_add] at h1;have hq:(0:Rat)≤((s.1:Int):Rat):=by exact_mod_cast h2
  have hr:((aL p l:Int):Rat)≤z-lessQ z s.1∧z-lessQ z s.1≤((aM p l:Int):Rat)∧(s.2<p→lessQ z s.1=((s.1:Int):Rat))∧(p<s.2→lessQ z s.1=0):=by
   by_cases c1:s.2<p
   ·rw [if_pos c1] at h0;rw [if_pos (by omega)] at h1;exact ⟨by grind,by grind,fun _=>by grind,fun hh=>by omega⟩
   ·rw [if_neg c1] at h0;obtain ⟨a1,a2,a3⟩:=above_zero (p:=p) (l:=l) fun t ht=>by have:=hab t ht;omega
    rw [a2] at h1;rw [a1] at h0;rw [a1,a2];have z0:((0:Int):Rat)=0:=rfl;rw [z0] at h0 h1 ⊢;by_cases c2:s.2≤p
    ·rw [if_pos c2] at h1;exact ⟨by grind,by grind,fun hh=>by omega,fun hh=>by omega⟩
    ·rw [if_neg c2,z0] at h1;exact ⟨by grind,by grind,fun hh=>by omega,fun hh=>by grind⟩
  cases k with
  | zero =>
   have e:partAt (s :: l) z 0=lessQ z s.1:=rfl;rw [e];exact ⟨hr.2.2.1,hr.2.2.2,m1,m2⟩
  | succ k =>
   rw [partAt_hd];exact partAt_side p hs.2 hl hr.1 hr.2.1 k (by simpa using hk)
theorem sumI_sumF {α:Type} (f:α→Int) (d:α) (l:List α):∀ k,k≤l.length→((sumI ((l.take k).map f):Int):Rat)=sumF (fun k=>((f (l[k]?.getD d):Int):Rat)) k
 | 0,_=>by simp [sumI,sumF]
 | k+1,hk=>by rw [sumI_takeL f (by omega) d,Rat.intCast_add,sumI_sumF f d l k (by omega),sumF]
theorem VL.nn {up:Bool} {n:Nat} {lv:List St.Lv} (hv:VL up n lv) {k:Nat} (hk:k<lv.length):NN (lv[k]?.getD Lv0).2.2∧(lv[k]?.getD Lv0).2.2.length=n:=by
 obtain ⟨h1,h2⟩:=hv.parts _ (getD_mem (d:=Lv0) hk);exact ⟨fun y hy=>(h2 y hy).1,h1⟩
theorem qAll_lf {p:Int} {up:Bool} {ls:List (List (Int×Int))} {lv:List St.Lv} {q:Rat} (h:St.IsLv true ls.length (St.tri 0 ls) lv) (hv:VL up ls.length lv) (h1:((aL p (lvQ lv):Int):Rat)≤q) (h2:q≤((aM p (lvQ lv):Int):Rat)) :
  LF ls.length (fun i=>((aL p (ls[i]?.getD []):Int):Rat)) (fun i=>((aM p (ls[i]?.getD []):Int):Rat)) (fun i=>(qAll lv ls.length q lv.length)[i]?.getD 0) q:=by
 have hq:=(lvQ_pos hv).1;have hs:=lvQ_sorted h;have hp:=partAt_side p hs hq h1 h2;have hab:=aL_le_aM p hq;have h0:0≤q:=by
  have:(0:Rat)≤((aL p (lvQ lv):Int):Rat):=by exact_mod_cast hab.1
  grind
 have hT:q≤((aT (lvQ lv):Int):Rat):=by
  have:((aM p (lvQ lv):Int):Rat)≤((aT (lvQ lv):Int):Rat):=by exact_mod_cast hab.2.2
  grind
 rw [lvQ_len] at hp;have hpk:∀ k,k<lv.length→((lv[k]?.getD Lv0).1<p→partAt (lvQ lv) q k=((sumI (lv[k]?.getD Lv0).2.2:Int):Rat))∧(p<(lv[k]?.getD Lv0).1→partAt (lvQ lv) q k=0)∧0≤partAt (lvQ lv) q k∧partAt (lvQ lv) q k≤((sumI (lv[k]?.getD Lv0).2.2:Int):Rat):=fun k hk=>by
  have:=hp k hk;rw [lvQ_snd,lvQ_fst,(hv.sum _ (getD_mem (d:=Lv0) hk)).1] at this;exact this
 have lo:∀ i,i<ls.length→((aL p (ls[i]?.getD []):Int):Rat)=sumF (fun k=>(((if (lv[k]?.getD Lv0).1<p then (lv[k]?.getD Lv0).2.2[i]?.getD 0 else 0:Int)):Rat)) lv.length:=fun i hi=>by
  rw [← (St.parts_side h p hi).1,← sumI_sumF (fun x:St.Lv=>if x.1<p then x.2.2[i]?.getD 0 else 0) Lv0 lv _ (Nat.le_refl _),List.take_length]
 have hi':∀ i,i<ls.length→((aM p (ls[i]?.getD []):Int):Rat)=sumF (fun k=>(((if (lv[k]?.getD Lv0).1≤p then (lv[k]?.getD Lv0).2.2[i]?.getD 0 else 0:Int)):Rat)) lv.length:=fun i hi=>by
  rw [← (St.parts_side h p hi).2,← sumI_sumF (fun x:St.Lv=>if x.1≤p then x.2.2[i]?.getD 0 else 0) Lv0 lv _ (Nat.le_refl _),List.take_length]
 have z0:((0:Int):Rat)=0:=rfl;have hterm:∀ i,i<ls.length→∀ k,k<lv.length→(((if (lv[k]?.getD Lv0).1<p then (lv[k]?.getD Lv0).2.2[i]?.getD 0 else 0:Int)):Rat)≤qPart (lv[k]?.getD Lv0).2.2 ls.length (partAt (lvQ lv) q k) (ls.length-1-i)∧qPart (lv[k]?.getD Lv0).2.2 ls.length (partAt (lvQ lv) q k) (ls.length-1-i)≤(((if (lv[k]?.getD Lv0).1≤p then (lv[k]?.getD Lv0).2.2[i]?.getD 0 else 0:Int)):Rat):=fun i hi k hk=>by
  obtain ⟨hn,hl⟩:=hv.nn hk;obtain ⟨k1,k2,k3,k4⟩:=hpk k hk;have b:=qPart_bd (n:=ls.length) hn k3 (ls.length-1-i);rw [show ls.length-1-(ls.length-1-i)=i by omega] at b;by_cases c1:(lv[k]?.getD Lv0).1<p
  ·have e:=qPart_full hn hl (j:=ls.length-1-i) (by omega);rw [show ls.length-1-(ls.length-1-i)=i by omega] at e;rw [k1 c1,if_pos c1,if_pos (by omega),e];exact ⟨Rat.le_refl,Rat.le_refl⟩
  ·rw [if_neg c1,z0];by_cases c2:(lv[k]?.getD Lv0).1≤p
   ·rw [if_pos c2];exact b
   ·rw [if_neg c2,z0,k2 (by omega),qPart_zero hn];exact ⟨Rat.le_refl,Rat.le_refl⟩
 refine ⟨fun i hi=>?_,fun i hi=>?_,?_,fun i hi hlt k hk hik=>?_⟩
 ·show _≤(qAll lv ls.length q lv.length)[i]?.getD 0;rw [qAll_get hi,lo i hi];exact sumF_le fun k hk=>(hterm i hi k hk).1
 ·show (qAll lv ls.length q lv.length)[i]?.getD 0≤_;rw [qAll_get hi,hi' i hi];exact sumF_le fun k hk=>(hterm i hi k hk).2
 ·have key:∀ m,m≤lv.length→sumF (fun i=>(qAll lv ls.length q m)[i]?.getD 0) ls.length=sumF (fun k=>partAt (lvQ lv) q k) m:=by
   intro m
   induction m with
   | zero =>
    intro _;have:∀ n,n≤ls.length→sumF (fun i=>(qAll lv ls.length q 0)[i]?.getD 0) n=0:=by
     intro n
     induction n with
     | zero=>intro _;rfl
     | succ n ih =>
      intro hn;have e:(qAll lv ls.length q 0)[n]?.getD 0=0:=by simp [qAll,List.getElem?_replicate];split<;>rfl
      rw [sumF,ih (by omega),e];grind
    exact this _ (Nat.le_refl _)
   | succ m ih =>
    intro hm;obtain ⟨hn,hl⟩:=hv.nn (show m<lv.length by omega);obtain ⟨k1,k2,k3,k4⟩:=hpk m (by omega);have e:sumF (fun i=>(qAll lv ls.length q (m+1))[i]?.getD 0) ls.length=sumF (fun i=>(qAll lv ls.length q m)[i]?.getD 0+(fun j=>qPart (lv[m]?.getD Lv0).2.2 ls.length (partAt (lvQ lv) q m) j) (ls.length-1-i)) ls.length:=sumF_eq fun i hi=>by
     rw [qAll,qRow_get (qAll_len ..) ls.length (Nat.le_refl _) i hi,if_pos (by omega)]
    rw [e,sumF_add,ih (by omega),sumF_rev (fun j=>qPart (lv[m]?.getD Lv0).2.2 ls.length (partAt (lvQ lv) q m) j),qPart_sum,qRest_end hn hl k3 k4,sumF];grind
  rw [key _ (Nat.le_refl _),partAt_sum];have e:=restAt_end hq h0 hT;rw [lvQ_len] at e;rw [e];grind
 ·show (qAll lv ls.length q lv.length)[k]?.getD 0=_;replace hlt:((aL p (ls[i]?.getD []):Int):Rat)<(qAll lv ls.length q lv.length)[i]?.getD 0:=hlt;rw [qAll_get hi,lo i hi] at hlt;rw [qAll_get hk,hi' k hk]
  -- some level gives more than its whole: it is the one at the price
  have hex:∃ m,m<lv.length∧(((if (lv[m]?.getD Lv0).1<p then (lv[m]?.getD Lv0).2.2[i]?.getD 0 else 0:Int)):Rat)<qPart (lv[m]?.getD Lv0).2.2 ls.length (partAt (lvQ lv) q m) (ls.length-1-i):=by
   apply Classical.byContradiction;intro hno;have:sumF (fun k=>qPart (lv[k]?.getD Lv0).2.2 ls.length (partAt (lvQ lv) q k) (ls.length-1-i)) lv.length≤sumF (fun k=>(((if (lv[k]?.getD Lv0).1<p then (lv[k]?.getD Lv0).2.2[i]?.getD 0 else 0:Int)):Rat)) lv.length:=sumF_le fun m hm=>by
    have:=fun hh=>hno ⟨m,hm,hh⟩;grind
   grind
  obtain ⟨m,hm,hmlt⟩:=hex;obtain ⟨hn,hl⟩:=hv.nn hm;obtain ⟨k1,k2,k3,k4⟩:=hpk m hm;have hmp:(lv[m]?.getD Lv0).1=p:=by
   rcases Int.lt_trichotomy (lv[m]?.getD Lv0).1 p with c|c|c
   ·have e:=qPart_full hn hl (j:=ls.length-1-i) (by omega);rw [show ls.length-1-(ls.length-1-i)=i by omega] at e;rw [k1 c,if_pos c,e] at hmlt;exact absurd hmlt Rat.lt_irrefl
   ·exact c
   ·rw [k2 c,qPart_zero hn,if_neg (by omega),z0] at hmlt;exact absurd hmlt Rat.lt_irrefl
  rw [if_neg (by omega),z0] at hmlt;refine sumF_eq fun j hj=>?_;obtain ⟨jn,jl⟩:=hv.nn hj;obtain ⟨j1,j2,j3,j4⟩:=hpk j hj;rcases Int.lt_trichotomy (lv[j]?.getD Lv0).1 p with c|c|c
  ·have e:=qPart_full jn jl (j:=ls.length-1-k) (by omega);rw [show ls.length-1-(ls.length-1-k)=k by omega] at e;rw [j1 c,if_pos (by omega),e]
  ·have ejm:j=m:=by
    rcases Nat.lt_trichotomy j m with hh|hh|hh
    ·have:=St.lv_sorted h.1 hh hm;rw [show ((0:Int),(0:Int),([]:List Int))=Lv0 from rfl,c,hmp] at this;exact absurd this St.ltU_irr
    ·exact hh
    ·have:=St.lv_sorted h.1 hh hj;rw [show ((0:Int),(0:Int),([]:List Int))=Lv0 from rfl,c,hmp] at this;exact absurd this St.ltU_irr
   subst ejm;have e:=qPart_last (n:=ls.length) hn k3 (show ls.length-1-k<ls.length-1-i by omega) hmlt;rw [show ls.length-1-(ls.length-1-k)=k by omega] at e;rw [e,if_pos (by omega)]
  ·rw [j2 c,qPart_zero jn,if_neg (by omega),z0]
theorem TrZ.top {S D:List St.Lv} {z p:Int} (h:TrZ S D z) (hs:((lvQ S).map (·.2)).Pairwise (· < ·)) (hq:∀ s∈lvQ S,0≤s.1) (ds:((lvQ (D.map negV)).map (·.2)).Pairwise (· < ·)) (dq:∀ s∈lvQ (D.map negV),0≤s.1):z≤max (aL p (lvQ S)) (aL (-p) (lvQ (D.map negV))):=by
 obtain ⟨h0,h1,h2⟩:=h;have a1:=aL_le_aM p hq;have a2:=aL_le_aM (-p) dq;have dU':∀ {u a:Int},uP D u=some a→uP (D.map negV) u=some (-a):=fun {u a} e=>by rw [uP_neg,e];rfl
 have no:∀ u,0≤u→aL p (lvQ S)≤u→aL (-p) (lvQ (D.map negV))≤u→¬ okU S D u:=by
  rintro u hu g1 g2 ⟨a,b,e1,e2,e3⟩;obtain ⟨s1,s2,s3⟩:=uP_side p hs hq hu;obtain ⟨d1,d2,d3⟩:=uP_side (-p) ds dq hu;have k1:p≤a:=by
   by_cases c:u<aM p (lvQ S)
   ·have:=s2 g1 c;rw [e1] at this;have:=Option.some.inj this;omega
   ·have:=s3 (by omega) a e1;omega
  have k2 : -p≤-b:=by
   by_cases c:u<aM (-p) (lvQ (D.map negV))
   ·have:=d2 g2 c;rw [dU' e2] at this;have:=Option.some.inj this;omega
   ·have:=d3 (by omega) _ (dU' e2);omega
  omega
 by_cases c:z≤max (aL p (lvQ S)) (aL (-p) (lvQ (D.map negV)))
 ·exact c
 ·exact absurd (h1 (max (aL p (lvQ S)) (aL (-p) (lvQ (D.map negV)))) (by omega) (by omega)) (no _ (by omega) (by omega) (by omega))
theorem RunV.top {os bs:List (List (Int×Int))} {z p wf:Int} {xs ys:List Int} {S D:List St.Lv} (hc:ckB os bs=0) (h:RunV os bs z p wf xs ys S D):z≤max (sumI (os.map (aL p))) (sumI ((negs bs).map (aL (-p)))):=by
 have n1:=St.IsLv.neg h.isD;have:=h.tr.top (p:=p) (lvQ_sorted h.isS) (lvQ_pos h.vS).1 (lvQ_sorted n1) (lvQ_pos h.vD).2;have e1:=(a_ws h.isS p).1;have e2:=(a_ws n1 (-p)).1;have k1:wsL (-1) ((p:Int):Rat) os=sumI (os.map (aL p)):=by
  unfold wsL
  congr 1
  exact List.map_congr_left fun l _=>((a_wl p l).1.1).symm
 have k2:wsL (-1) (((-p:Int)):Rat) (negs bs)=sumI ((negs bs).map (aL (-p))):=by
  unfold wsL
  congr 1
  exact List.map_congr_left fun l _=>((a_wl (-p) l).1.1).symm
 rw [e1,e2,k1,k2] at this;exact this
theorem qRest_whole (xs:List Int) (n:Nat) (t:Int):∀ j,qRest xs n (t:Rat) j=((shRest xs n t j:Int):Rat)
 | 0=>rfl
 | j+1=>by rw [qRest,shRest,qRest_whole xs n t j,lessQ_whole,Rat.intCast_sub]
theorem qPart_whole (xs:List Int) (n:Nat) (t:Int) (j:Nat):qPart xs n (t:Rat) j=((shPart xs n t j:Int):Rat):=by
 rw [qPart,shPart,qRest_whole,lessQ_whole]
theorem qRow_whole (xs:List Int) (n:Nat) (t:Int) (ys:List Int):∀ j,qRow xs n (t:Rat) (castR ys) j=castR (shRow xs n t ys j)
 | 0=>rfl
 | j+1=>by rw [qRow,shRow,qRow_whole xs n t ys j,castR_get,castR_set,qPart_whole,Rat.intCast_add]
theorem qAll_whole (lv:List St.Lv) (n:Nat) (z:Int):∀ i,qAll lv n (z:Rat) i=castR (shAll lv n z i)
 | 0=>by
  rw [qAll,shAll];unfold castR;rw [List.map_replicate]
  rfl
 | i+1=>by rw [qAll,shAll,qAll_whole lv n z i,partAt_whole,qRow_whole]
theorem qAll_neg (lv:List St.Lv) (n:Nat) (z:Rat):∀ k,qAll (lv.map negV) n z k=qAll lv n z k
 | 0=>rfl
 | k+1=>by
  have e:∀ i,restAt (lvQ (lv.map negV)) z i=restAt (lvQ lv) z i:=fun i=>by
   induction i with
   | zero=>rfl
   | succ i ih=>rw [restAt,restAt,ih,(negV_get lv i).1]
  have e2:partAt (lvQ (lv.map negV)) z k=partAt (lvQ lv) z k:=by rw [partAt,partAt,e,(negV_get lv k).1]
  have e3:((lv.map negV)[k]?.getD Lv0).2.2=(lv[k]?.getD Lv0).2.2:=by
   rw [List.getElem?_map];cases lv[k]?<;>rfl
  rw [qAll,qAll,qAll_neg lv n z k,e2,e3]
theorem sumF_cast {α:Type} (f:α→Int) (d:α) (l:List α):((sumI (l.map f):Int):Rat)=sumF (fun k=>((f (l[k]?.getD d):Int):Rat)) l.length:=by
 rw [← sumI_sumF f d l l.length (Nat.le_refl _),List.take_length]
theorem RunV.lf {os bs:List (List (Int×Int))} {z p wf:Int} {xs ys:List Int} {S D:List St.Lv} (hc:ckB os bs=0) (h:RunV os bs z p wf xs ys S D) :
  LF os.length (fun i=>((aL p (os[i]?.getD []):Int):Rat)) (fun i=>((aM p (os[i]?.getD []):Int):Rat)) (fun i=>((xs[i]?.getD 0:Int):Rat)) (z:Rat) ∧
  LF bs.length (fun i=>((aL (-p) ((negs bs)[i]?.getD []):Int):Rat)) (fun i=>((aM (-p) ((negs bs)[i]?.getD []):Int):Rat)) (fun i=>((ys[i]?.getD 0:Int):Rat)) (z:Rat):=by
 obtain ⟨⟨m1,m2⟩,m3,m4⟩:=h.mid hc;constructor
 ·have:=qAll_lf (p:=p) (q:=(z:Rat)) h.isS h.vS (by exact_mod_cast m1) (by exact_mod_cast m2);rw [qAll_whole,← h.x] at this;have e:(fun i=>(castR xs)[i]?.getD 0)=fun i=>((xs[i]?.getD 0:Int):Rat):=funext fun i=>castR_get xs i;rw [e] at this;exact this
 ·have n1:=St.IsLv.neg h.isD;have n2:=h.vD.neg;have e:=negs_len bs;rw [← e] at n1 n2;have:=qAll_lf (p:=-p) (q:=(z:Rat)) n1 n2 (by exact_mod_cast m3) (by exact_mod_cast m4);rw [qAll_neg,e,List.length_map,qAll_whole,← h.y] at this;have e:(fun i=>(castR ys)[i]?.getD 0)=fun i=>((ys[i]?.getD 0:Int):Rat):=funext fun i=>castR_get ys i;rw [e] at this;exact this
theorem chk_pos {up:Bool} {l:List (Int×Int)} (h:chk up l=0):∀ s∈l,0<s.1:=fun s hs=>by
 have:=(chk_ok h).2.2.2 s hs;unfold Bad at this;omega
end Go.Proofs.YtjajigkacccdgaaGreat
