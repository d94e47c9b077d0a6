/-
Lemmas of the walk; no further conditions.
-/
import Derived.Test.YtjajigkacccdgaaGreatTgAW
set_option linter.unusedVariables false
set_option linter.unusedSimpArgs false
set_option maxRecDepth 100000
set_option maxHeartbeats 16000000
namespace Go.Proofs.YtjajigkacccdgaaGreat
open Go.RowKit
open Wd
theorem prodI_bd2 {l:List (Int×Int)} {z:Int} (hok:OkQ l) (hpr:∀ s∈l,-1000000≤s.2∧s.2≤1000000) (h0:0≤z) {k:Nat} (hk:k<l.length):(partI l z k*(l[k]?.getD (0,0)).2).natAbs≤16000000000000:=by
 have hr:∀ k,k≤l.length→0≤restI l z k:=by
  intro k
  induction k with
  | zero=>intro _;exact h0
  | succ k ih =>
   intro hk;have:=ih (by omega);rw [restI];omega
 have ih:=hr k (by omega);have hb:=hok _ (getD_mem (d:=(0,0)) hk);have hp:=hpr _ (getD_mem (d:=(0,0)) hk);rw [Int.natAbs_mul];have h2:(partI l z k).natAbs≤16000000:=by unfold partI;omega
 have h3:(l[k]?.getD (0,0)).2.natAbs≤1000000:=by omega
 exact Nat.le_trans (Nat.mul_le_mul h2 h3) (by omega)
theorem costI_bd2 {l:List (Int×Int)} {z:Int} (hok:OkQ l) (hpr:∀ s∈l,-1000000≤s.2∧s.2≤1000000) (h0:0≤z):∀ k,k≤l.length→(costI l z k).natAbs≤16000000000000*k
 | 0,_=>by simp [costI]
 | k+1,hk=>by
  have ih:=costI_bd2 hok hpr h0 k (by omega);have hp:=prodI_bd2 hok hpr h0 (k:=k) (by omega);rw [costI];omega
theorem VL.prI {up:Bool} {n:Nat} {lv:List St.Lv} (h:VL up n lv):∀ s∈lvQ lv,-1000000≤s.2∧s.2≤1000000:=fun s hs=>by
 obtain ⟨x,hx,rfl⟩:=List.mem_map.1 hs;exact h.price x hx
theorem costOK_stack {up:Bool} {n:Nat} {lv:List St.Lv} {z:Int} (hv:VL up n lv) (h0:0≤z):CostOK 4611686018427387904 2147483648 2 1152921504606846976 2 (lvQ lv) (z:Rat):=by
 have hl:=hv.len;have hl2:=lvQ_len lv;refine ⟨by omega,by omega,by omega,by omega,by omega,by omega,by omega,by omega,by omega,by omega,by omega,by omega,fun k hk=>?_,fun k hk=>?_⟩
 ·have hb:=costI_bd2 hv.okQ hv.prI h0 k hk;rw [costAt_whole,Rat.num_intCast,Rat.den_intCast];omega
 ·have hb:=prodI_bd2 hv.okQ hv.prI h0 hk;rw [prod_whole,Rat.num_intCast,Rat.den_intCast];omega
theorem kcost_whole (up:Bool) (A:Option Addr) (m n c:Nat) (lv:List St.Lv) (z:Int) (aA aA':Option Addr) (ak ac ak' ac':Nat) (w:World) (h:LvAt w A m n lv) (hv:VL up n lv) (hq:WQ w (z:Rat) aA ak ac aA' ak' ac') (h0:0≤z) (h1:z≤totI lv) :
  Calls Tryz.prog 32 #[.slice A m c,.agg #[.bool (decide (((z:Int):Rat).num<0)),.slice aA ak ac,.bool false,.slice aA' ak' ac']] w (CstPost w ((costI (lvQ lv) z m:Int):Rat)):=by
 have hz:=(tot_bd lv hv.qty).2;have hl:=hv.len;have hq2:QAt 2147483648 2 w (decide (((z:Int):Rat).num<0)) aA ak ac false aA' ak' ac' (z:Rat) :=
  qat_len wok_small (by omega) (by omega) hq.1 hq.2.1 hq.2.2.1 hq.2.2.2 (by rw [Rat.num_intCast];omega) (by rw [Rat.den_intCast];omega)
 have hT:=kcost_ok 4611686018427387904 2147483648 2 1152921504606846976 2 wok_small (by omega) up A m n c lv _ false aA aA' ak ac ak' ac' (z:Rat) w h hq2 hv (by exact_mod_cast h0) (by exact_mod_cast h1) (costOK_stack hv h0);rw [costAt_whole] at hT;exact hT
theorem share_nil (up:Bool) (A:Option Addr) (n c:Nat) (aA aA':Option Addr) (ak ac ak' ac':Nat) (w:World) (hn:n≤16) (hq:WQ w ((0:Int):Rat) aA ak ac aA' ak' ac') :
  Calls Tryz.prog 31 #[.slice A 0 c,.agg #[.bool (decide (((0:Int):Rat).num<0)),.slice aA ak ac,.bool false,.slice aA' ak' ac']] w fun e w'=>e=.returned (.tuple #[.slice none 0 0,.int .i64 0])∧Below w.heap.size w w':=by
 have hl:LvAt w A 0 n []:=⟨rfl,fun h=>absurd rfl h⟩;have hv:VL up n []:=⟨by simp,by simp,hn,by simp,by simp,by simp,by simp⟩;have HF0:=Hj (fun W (hW:Below w.heap.size w W)=>fill_ok 4611686018427387904 1152921504606846976 2 wok_small (by omega) (by omega) (by omega) (by omega) (by omega) (by omega) (by omega) up A 0 n c [] _ false aA aA' ak ac ak' ac' ((0:Int):Rat) W (hl.below hW) ((hq.below hW).at (by rw [Rat.num_intCast];omega) (by rw [Rat.den_intCast];omega)) hv (by exact_mod_cast Int.le_refl 0) (Rat.le_refl));generalize ((0:Int):Rat)=zq at *;clear hl hv hq;go_enter Tryz.func31,Tryz.ntmps31
 go_wp2_with fail
 obtain ⟨hB0,hBW,hsz⟩:=pre1 w 42 #[.bool (decide (zq.num<0)),.slice aA ak ac,.bool false,.slice aA' ak' ac'];generalize w.alloc (.cells #[.bool (decide (zq.num<0)),.slice aA ak ac,.bool false,.slice aA' ak' ac'] 42)=W at *;have HSZ:=Hj hsz;clear hsz;refine (HF0.out W hBW).mono ?_;rintro e w1 ⟨gt,ts,rfl,-,-,-,hb1⟩;have HB1:=Hj (hBW.trans (hb1.mono hBW.size));clear hb1 hBW;go_wp2;go_ret2;exact ⟨rfl,HB1.out⟩
end Go.Proofs.YtjajigkacccdgaaGreat
namespace Go.Proofs.YtjajigkacccdgaaGreat
open Go.RowKit
open Go.Sort (HoldsK)
open Wd
theorem flw_ltU {up:Bool} {v p:Int} (h:flw up v p=true):St.ltU up v p:=by
 unfold flw at h;unfold St.ltU;cases up<;>simp at h ⊢<;>exact h
theorem chkFrom_mono {up:Bool}:∀ {l:List (Int×Int)} {v:Int},chkFrom up (some v) l=0→(∀ t∈l,St.ltU up v t.2)∧(l.map (·.2)).Pairwise (St.ltU up)
 | [],v,_=>⟨by simp,by simp⟩
 | (q, p) :: r,v,h=>by
  rw [chkFrom] at h;split at h
  ·simp at h
  ·split at h
   ·rename_i hf
    obtain ⟨i1,i2⟩:=chkFrom_mono h;have h1:=flw_ltU hf;refine ⟨fun t ht=>?_,?_⟩
    ·rcases List.mem_cons.1 ht with rfl|ht
     ·exact h1
     ·have h2:=i1 t ht;unfold St.ltU at *;split<;>rename_i hu<;>simp [hu] at h1 h2<;>omega
    ·rw [List.map_cons,List.pairwise_cons];refine ⟨fun x hx=>?_,i2⟩;obtain ⟨t,ht,rfl⟩:=List.mem_map.1 hx;exact i1 t ht
   ·simp at h
theorem chk_mono {up:Bool} {l:List (Int×Int)} (h:chk up l=0):(l.map (·.2)).Pairwise (St.ltU up):=by
 have h2:=(chk_ok h).2.2.1
 match l,h2 with
 | [],_=>simp
 | (q,p) :: r,h2 =>
  rw [chkFrom] at h2;split at h2
  ·simp at h2
  ·obtain ⟨i1,i2⟩:=chkFrom_mono h2;rw [List.map_cons,List.pairwise_cons];refine ⟨fun x hx=>?_,i2⟩;obtain ⟨t,ht,rfl⟩:=List.mem_map.1 hx;exact i1 t ht
namespace St
def atP (l:List (Int×Int)) (p:Int):Int :=
 match l with
 | []=>0
 | s :: r=>(if s.2=p then s.1 else 0)+atP r p
theorem atP_none:∀ {l:List (Int×Int)} {p:Int},(∀ s∈l,s.2≠p)→atP l p=0
 | [],_,_=>rfl
 | s :: r,p,h=>by rw [atP,if_neg (h s (List.mem_cons_self ..)),atP_none fun t ht=>h t (List.mem_cons_of_mem _ ht)];rfl
theorem atP_bd {up:Bool}:∀ {l:List (Int×Int)} {p:Int},(l.map (·.2)).Pairwise (ltU up)→(∀ s∈l,1≤s.1∧s.1≤1000000)→0≤atP l p∧atP l p≤1000000
 | [],_,_,_=>by simp [atP]
 | s :: r,p,hm,hb=>by
  rw [List.map_cons,List.pairwise_cons] at hm;have h1:=hb s (List.mem_cons_self ..);have ih:=atP_bd (p:=p) hm.2 fun t ht=>hb t (List.mem_cons_of_mem _ ht);rw [atP];split
  ·rename_i e
   rw [atP_none fun t ht e2=>?_]
   ·omega
   ·have:=hm.1 t.2 (List.mem_map.2 ⟨t,ht,rfl⟩);rw [e,e2] at this;exact ltU_irr this
  ·omega
theorem part_map (k:Nat):∀ (l:List (Int×Int)) (p:Int) (i:Nat),part (l.map fun s=>(k,s.1,s.2)) p i=if k=i then atP l p else 0
 | [],p,i=>by simp [part,atP]
 | s :: r,p,i=>by
  rw [List.map_cons,part,part_map k r p i,atP];by_cases h:k=i
  ·simp [h]
  ·simp [h]
theorem part_tri:∀ (ls:List (List (Int×Int))) (k:Nat) (p:Int) (i:Nat),part (tri k ls) p i=if k≤i then atP (ls[i-k]?.getD []) p else 0
 | [],k,p,i=>by simp [tri,part,atP]
 | l :: ls,k,p,i=>by
  rw [tri,part_app,part_map,part_tri ls (k+1) p i];by_cases h:k=i
  ·subst h;rw [if_pos rfl,if_neg (by omega),if_pos (Nat.le_refl _),Nat.sub_self];simp
  ·by_cases h2:k≤i
   ·rw [if_neg h,if_pos (by omega),if_pos h2,show i-k=(i-(k+1))+1 by omega,List.getElem?_cons_succ];omega
   ·rw [if_neg h,if_neg (by omega),if_neg h2]
    rfl
theorem qty_map (k:Nat):∀ (l:List (Int×Int)) (p:Int),qty (l.map fun s=>(k,s.1,s.2)) p=atP l p
 | [],p=>rfl
 | s :: r,p=>by rw [List.map_cons,qty,qty_map k r p,atP]
theorem qty_tri:∀ (ls:List (List (Int×Int))) (k:Nat) (p:Int),qty (tri k ls) p=sumI (ls.map fun l=>atP l p)
 | [],_,_=>rfl
 | l :: ls,k,p=>by rw [tri,qty_app,qty_map,qty_tri ls (k+1) p,List.map_cons,sumI]
theorem parts_tri (ls:List (List (Int×Int))) (p:Int):parts ls.length (tri 0 ls) p=ls.map fun l=>atP l p:=by
 refine ext_getD (by simp [parts]) fun i hi=>?_;have hi':i<ls.length:=by simpa [parts] using hi
 rw [parts_get hi',part_tri,if_pos (Nat.zero_le _),Nat.sub_zero,List.getElem?_map,List.getElem?_eq_getElem hi']
 rfl
theorem qty_pos:∀ {T:List Tr} {p:Int},(∀ t∈T,1≤t.2.1)→(∃ t∈T,t.2.2=p)→1≤qty T p
 | [],_,_,⟨t,ht,_⟩=>by simp at ht
 | x :: T,p,h,⟨t,ht,e⟩=>by
  have h1:=h x (List.mem_cons_self ..);have h0:∀ (S:List Tr),(∀ t∈S,1≤t.2.1)→0≤qty S p:=by
   intro S
   induction S with
   | nil=>intro _;simp [qty]
   | cons a S ih =>
    intro hS;have a1:=hS a (List.mem_cons_self ..);have a2:=ih fun t ht=>hS t (List.mem_cons_of_mem _ ht);rw [qty];split<;>omega
  rw [qty];rcases List.mem_cons.1 ht with rfl|ht
  ·rw [if_pos e];have:=h0 T fun t ht=>h t (List.mem_cons_of_mem _ ht);omega
  ·have:=qty_pos (fun t ht=>h t (List.mem_cons_of_mem _ ht)) ⟨t,ht,e⟩;split<;>omega
end St
def lvOf (n:Nat) (T:List St.Tr) (D:List (Int×Nat)):List St.Lv:=D.map fun d=>(d.1,St.qty T d.1,St.parts n T d.1)
theorem lvOf_is {up:Bool} {n:Nat} {T:List St.Tr} {D:List (Int×Nat)} (h1:(D.map (·.1)).Pairwise (St.ltU up)) (h2:(D.map (·.1)).Perm (St.pr T)):St.IsLv up n T (lvOf n T D):=by
 have e:(lvOf n T D).map (·.1)=D.map (·.1):=by unfold lvOf;rw [List.map_map];rfl
 refine ⟨by rw [e];exact h1,fun p=>?_,fun x hx=>?_⟩
 ·rw [e,h2.mem_iff,St.mem_pr]
 ·obtain ⟨d,_,rfl⟩:=List.mem_map.1 hx;exact ⟨rfl,rfl⟩
theorem lv_valid {up:Bool} {ls:List (List (Int×Int))} {lv:List St.Lv} (hc:(ckC up ls).2=0) (h:St.IsLv up ls.length (St.tri 0 ls) lv):VL up ls.length lv:=by
 obtain ⟨hn,hk,hg⟩:=ckC_good hc;obtain ⟨h1,h2,h3⟩:=h;have hb:∀ l∈ls,∀ s∈l,1≤s.1∧s.1≤1000000:=fun l hl s hs=>by
  have:=(hg l hl).2 s hs;unfold Bad at this;omega
 have hpt:∀ p,∀ y∈ls.map (fun l=>St.atP l p),0≤y∧y≤1000000:=fun p y hy=>by
  obtain ⟨l,hl,rfl⟩:=List.mem_map.1 hy;exact St.atP_bd (chk_mono (hk l hl)) (hb l hl)
 have hex:∀ x∈lv,∃ t∈St.tri 0 ls,t.2.2=x.1:=fun x hx=>(h2 x.1).1 (List.mem_map.2 ⟨x,hx,rfl⟩);have hlen:lv.length≤48:=by
  have hnd:(lv.map (·.1)).Nodup:=h1.imp fun {a b} hab e=>by subst e;exact St.ltU_irr hab
  have hsub:=hnd.length_le_of_subset (l₂:=St.pr (St.tri 0 ls)) fun p hp=>St.mem_pr.2 ((h2 p).1 hp);have a1:=St.pr_len (St.tri 0 ls);have a2:=St.tri_len ls 0 fun l hl=>(hg l hl).1;rw [List.length_map] at hsub;omega
 refine ⟨hlen,fun h0=>?_,hn,fun x hx=>?_,fun x hx=>?_,fun x hx=>?_,h1⟩
 ·cases lv with
  | nil=>simp at h0
  | cons x lv =>
   obtain ⟨t,ht,_⟩:=hex x (List.mem_cons_self ..);obtain ⟨l,hl,_⟩:=St.tri_mem ht;cases ls with
   | nil=>simp at hl
   | cons _ _=>simp
 ·obtain ⟨t,ht,e⟩:=hex x hx;obtain ⟨l,hl,hs,_⟩:=St.tri_mem ht;have:=(hg l hl).2 _ hs;unfold Bad at this;rw [← e];simp only at this;omega
 ·rw [(h3 x hx).2,St.parts_tri];exact ⟨by simp,hpt x.1⟩
 ·rw [(h3 x hx).1,(h3 x hx).2,St.parts_tri,← St.qty_tri ls 0 x.1];refine ⟨rfl,?_⟩;have:=St.qty_pos (T:=St.tri 0 ls) (p:=x.1) (fun t ht=>by
   obtain ⟨l,hl,hs,_⟩:=St.tri_mem ht;exact (hb l hl _ hs).1) (hex x hx)
  omega
theorem LvO.at {base n:Nat} {w:World} {mg:Nat} {T:List St.Tr} {D:List (Int×Nat)} (h:LvO base n w mg T D):LvAt w (some ⟨mg,0,none⟩) D.length n (lvOf n T D):=by
 obtain ⟨h1,h2,h3,h4,h5⟩:=h;refine ⟨by simp [lvOf],fun _=>⟨mg,0,rfl,h2,fun j hj=>?_⟩⟩;have hd:D[j]?.getD (0,0)∈D:=getD_mem hj;have eg:D.toArray[j]! = D[j]?.getD (0,0):=by simp [hj,List.getElem?_eq_getElem hj]
 have el:(lvOf n T D)[j]?.getD Lv0=((D[j]?.getD (0,0)).1,St.qty T (D[j]?.getD (0,0)).1,St.parts n T (D[j]?.getD (0,0)).1):=by
  unfold lvOf;rw [List.getElem?_map,List.getElem?_eq_getElem hj]
  rfl
 have c0:=(h3.cell (i:=j) (c:=0) (by simpa using hj) (by omega)).1;have c1:=(h3.cell (i:=j) (c:=1) (by simpa using hj) (by omega)).1;have c2:=(h3.cell (i:=j) (c:=2) (by simpa using hj) (by omega)).1;rw [eg,Nat.zero_add] at c0 c1 c2;rw [el,Nat.zero_add];exact ⟨_,_,⟨c0,c1,c2⟩,(h4 _ hd).2.2.at (St.parts_len _ _ _)⟩
end Go.Proofs.YtjajigkacccdgaaGreat
namespace Go.Proofs.YtjajigkacccdgaaGreat
open Go.RowKit
open Wd
theorem IsAt.lit {w:World} {g:Nat} {xs:List Int} {n:Nat} {cs:Array Value} (h:Blk w g 2 cs) (hc:cs=(xs.map (Value.int .i64)).toArray) (hl:xs.length=n):IsAt w (some ⟨g,0,none⟩) n xs:=by
 subst hc;exact IRow.at (show IRow w g xs from h) hl
theorem CsAt.two {w:World} {g:Nat} {t:TypeId} {A1 A2:Option Addr} {n1 c1 n2 c2:Nat} {l1 l2:List (Int×Int)} (h:Blk w g t #[.slice A1 n1 c1,.slice A2 n2 c2]) (h1:StAt w A1 n1 l1) (h2:StAt w A2 n2 l2):CsAt w (some ⟨g,0,none⟩) 2 [l1,l2]:=by
 refine ⟨rfl,fun _=>⟨g,0,rfl,h.lt,fun j hj=>?_⟩⟩;obtain rfl|rfl:j=0∨j=1:=by omega
 ·exact ⟨A1,n1,c1,h.cell 0,h1⟩
 ·exact ⟨A2,n2,c2,h.cell 1,h2⟩
theorem fits_lit {xs:List Int} (h:∀ x∈xs,-100≤x∧x≤100):∀ i:Nat,Fits (xs[i]?.getD 0):=fun i=>by
 by_cases hi:i<xs.length
 ·have:=h _ (getD_mem (d:=0) hi);unfold Fits;omega
 ·rw [List.getElem?_eq_none (by omega)];unfold Fits;simp
theorem ckF_zero {up:Bool}:∀ {ls:List (List (Int×Int))} {k:Nat},(∀ l∈ls,chk up l=0)→(ckF up k ls).2=0
 | [],_,_=>rfl
 | x :: ls,k,h=>by
  rw [ckF,if_neg (by rw [h x (List.mem_cons_self ..)];simp)];exact ckF_zero fun l hl=>h l (List.mem_cons_of_mem _ hl)
theorem ckC_iff {up:Bool} {ls:List (List (Int×Int))}:(ckC up ls).2=0↔ls.length≤16∧∀ l∈ls,chk up l=0:=by
 constructor
 ·intro h;have:=ckC_good h;exact ⟨this.1,this.2.1⟩
 ·rintro ⟨h1,h2⟩;unfold ckC;rw [if_neg (by omega)];exact ckF_zero h2
namespace St
theorem tri_price:∀ {ls:List (List (Int×Int))} {k:Nat} {p:Int},(∃ t∈tri k ls,t.2.2=p)↔∃ l∈ls,∃ s∈l,s.2=p
 | [],_,_=>by simp [tri]
 | l :: ls,k,p=>by
  have ih:=tri_price (ls:=ls) (k:=k+1) (p:=p);constructor
  ·rintro ⟨t,ht,e⟩;rw [tri,List.mem_append] at ht;rcases ht with ht|ht
   ·obtain ⟨s,hs,rfl⟩:=List.mem_map.1 ht;exact ⟨l,List.mem_cons_self ..,s,hs,e⟩
   ·obtain ⟨l',hl',r⟩:=ih.1 ⟨t,ht,e⟩;exact ⟨l',List.mem_cons_of_mem _ hl',r⟩
  ·rintro ⟨l',hl',s,hs,e⟩;rcases List.mem_cons.1 hl' with rfl|hl'
   ·exact ⟨(k,s.1,s.2),by rw [tri,List.mem_append];exact Or.inl (List.mem_map.2 ⟨s,hs,rfl⟩),e⟩
   ·obtain ⟨t,ht,e2⟩:=ih.2 ⟨l',hl',s,hs,e⟩;exact ⟨t,by rw [tri,List.mem_append];exact Or.inr ht,e2⟩
end St
end Go.Proofs.YtjajigkacccdgaaGreat
namespace Go.Proofs.YtjajigkacccdgaaGreat
open Go.RowKit
open Wd
def QArg (w:World) (an:Bool) (aA:Option Addr) (ak ac:Nat) (an':Bool) (aA':Option Addr) (ak' ac':Nat) (q:Rat):Prop:=∃ Nn Nd,QAt Nn Nd w an aA ak ac an' aA' ak' ac' q
theorem QArg.below {w w':World} {an an':Bool} {aA aA':Option Addr} {ak ac ak' ac':Nat} {q:Rat} (h:QArg w an aA ak ac an' aA' ak' ac' q) (hb:Below w.heap.size w w'):QArg w' an aA ak ac an' aA' ak' ac' q:=by
 obtain ⟨Nn,Nd,h⟩:=h;exact ⟨Nn,Nd,h.below hb⟩
theorem QAt.more {Nn Nd Mn Md:Nat} {w:World} {an an':Bool} {aA aA':Option Addr} {ak ac ak' ac':Nat} {q:Rat} (h:QAt Nn Nd w an aA ak ac an' aA' ak' ac' q) (hn:Nn≤Mn) (hd:Nd≤Md):QAt Mn Md w an aA ak ac an' aA' ak' ac' q:=by
 obtain ⟨na,da,h1,h2,h3,h4⟩:=h;exact ⟨na,da,h1,by omega,by omega,h4⟩
theorem qcmp_arg (an an' bn bn':Bool) (aA aA' bA bA':Option Addr) (ak ac ak' ac' bk bc bk' bc':Nat) (qa qb:Rat) (w:World) (ha:QArg w an aA ak ac an' aA' ak' ac' qa) (hb:QArg w bn bA bk bc bn' bA' bk' bc' qb) :
  Calls Tryz.prog 43 #[.agg #[.bool an,.slice aA ak ac,.bool an',.slice aA' ak' ac'],.agg #[.bool bn,.slice bA bk bc,.bool bn',.slice bA' bk' bc']] w fun e w'=>e=.returned (.int .i64 (cmpQ qa qb))∧Below w.heap.size w w':=by
 obtain ⟨N1,D1,h1⟩:=ha;obtain ⟨N2,D2,h2⟩:=hb;exact qcmp_any an an' bn bn' aA aA' bA bA' ak ac ak' ac' bk bc bk' bc' qa qb w (h1.more (Mn:=max N1 N2) (Md:=max D1 D2) (by omega) (by omega)) (h2.more (by omega) (by omega))
theorem WQ.arg {w:World} {z:Int} {A A':Option Addr} {k c k' c':Nat} (h:WQ w (z:Rat) A k c A' k' c') (hz:z.natAbs<1000000000000):QArg w (decide (((z:Int):Rat).num<0)) A k c false A' k' c' (z:Rat) :=
 ⟨_,_,h.at (by rw [Rat.num_intCast];omega) (by rw [Rat.den_intCast];omega)⟩
def wlL (side:Int) (q:Rat) (l:List (Int×Int)):Int:=sumI (l.map fun s=>if cmpQ (s.2:Rat) q=side then s.1 else 0)
def wlM (side:Int) (q:Rat) (l:List (Int×Int)):Int:=sumI (l.map fun s=>if cmpQ (s.2:Rat) q=side∨cmpQ (s.2:Rat) q=0 then s.1 else 0)
theorem wlL_snoc {side:Int} {q:Rat} {l:List (Int×Int)} {k:Nat} (hk:k<l.length):wlL side q (l.take (k+1))=wlL side q (l.take k)+if cmpQ (((l[k]?.getD (0,0)).2:Int):Rat) q=side then (l[k]?.getD (0,0)).1 else 0:=by
 unfold wlL;rw [take_snocS hk,List.map_append];exact sumI_snoc _ _
theorem wlM_snoc {side:Int} {q:Rat} {l:List (Int×Int)} {k:Nat} (hk:k<l.length):wlM side q (l.take (k+1))=wlM side q (l.take k)+if cmpQ (((l[k]?.getD (0,0)).2:Int):Rat) q=side∨cmpQ (((l[k]?.getD (0,0)).2:Int):Rat) q=0 then (l[k]?.getD (0,0)).1 else 0:=by
 unfold wlM;rw [take_snocS hk,List.map_append];exact sumI_snoc _ _
theorem wl_bd:∀ {l:List (Int×Int)} (side:Int) (q:Rat),(∀ s∈l,¬ Bad s.1 s.2)→(0≤wlL side q l∧wlL side q l≤1000000*(l.length:Int))∧(0≤wlM side q l∧wlM side q l≤1000000*(l.length:Int))
 | [],side,q,_=>by simp [wlL,wlM,sumI]
 | s :: l,side,q,h=>by
  have h1:=h s (List.mem_cons_self ..);have h2:=wl_bd (l:=l) side q fun y hy=>h y (List.mem_cons_of_mem _ hy);unfold Bad at h1;unfold wlL wlM at *;rw [List.map_cons,List.map_cons,sumI,sumI,List.length_cons];constructor<;>split<;>omega
theorem willing_any (side:Int) (A:Option Addr) (n c:Nat) (l:List (Int×Int)) (an an':Bool) (aA aA':Option Addr) (ak ac ak' ac':Nat) (q:Rat) (w:World) (h:StAt w A n l) (hq:QArg w an aA ak ac an' aA' ak' ac' q) (hn:n≤3) (hb:∀ s∈l,¬ Bad s.1 s.2) :
  Calls Tryz.prog 199 #[.slice A n c,.agg #[.bool an,.slice aA ak ac,.bool an',.slice aA' ak' ac'],.int .i64 side] w fun e w'=>e=.returned (.tuple #[.int .i64 (wlL side q l),.int .i64 (wlM side q l)])∧Below w.heap.size w w':=by
 have HX:=Hj h;have HLN:=Hj h.1;have HB:=Hj hb;have HQ:=Hj hq;clear h hb hq;go_enter Tryz.func199,Tryz.ntmps199
 go_wp2_with fail
 have hbx:=Blk.new w 42 #[.bool an,.slice aA ak ac,.bool an',.slice aA' ak' ac'];have hb0:Below w.heap.size w (w.alloc (.cells #[.bool an,.slice aA ak ac,.bool an',.slice aA' ak' ac'] 42)):=(Below.refl _ _).alloc (Nat.le_refl _) _;generalize w.alloc (.cells #[.bool an,.slice aA ak ac,.bool an',.slice aA' ak' ac'] 42)=W0 at *;have HST:=Hj (And.intro hb0 hbx);clear hb0 hbx
 go_loopw [6,7,12] (fun tl tm t wr=>∃ k:Nat,k≤n∧t=.int .i64 k∧tl=.int .i64 (wlL side q (l.take k))∧tm=.int .i64 (wlM side q (l.take k))∧Hid (Below w.heap.size w wr∧Blk wr w.heap.size 42 #[.bool an,.slice aA ak ac,.bool an',.slice aA' ak' ac'])) (fun _ _ t _=>n-(intOf t).toNat)
 case atStart=>exact ⟨0,Nat.zero_le _,rfl,rfl,rfl,HST.out⟩
 case round =>
  obtain ⟨k,hk,rfl,rfl,rfl,hR⟩:=hrel;by_cases hlt:k<n
  ·obtain ⟨hBW,hBX⟩:=hR.out;obtain ⟨b,o,rfl,hb,hc⟩:=HX.out.2.2 (by omega);obtain ⟨y0,y1⟩:=hc k hlt;have hkl:k<l.length:=by rw [HLN.out];exact hlt
   have hbad:=HB.out _ (getD_mem (d:=((0,0):Int×Int)) hkl);have s1:=wlL_snoc (side:=side) (q:=q) hkl;have s2:=wlM_snoc (side:=side) (q:=q) hkl;obtain ⟨bd1,bd2⟩:=wl_bd (l:=l.take k) side q fun s hs=>HB.out s (List.mem_of_mem_take hs);have hl2:=List.length_take_le k l;generalize (l[k]?.getD (0,0)).1=s at *;generalize (l[k]?.getD (0,0)).2=p at *;replace y0:=(hBW.cell (p:=⟨b,o+k*2,none⟩) hb).trans y0;replace y1:=(hBW.cell (p:=⟨b,o+k*2+1,none⟩) hb).trans y1;unfold Bad at hbad;have hFI:=fun W=>qfromInt64_any p W (by omega) (by omega);have hW1:Below w.heap.size w (wr.alloc (.cells #[.int .i64 s,.int .i64 p] 107)):=hBW.alloc hBW.size _;have hCM:=fun W (hW:Kp (wr.alloc (.cells #[.int .i64 s,.int .i64 p] 107)) W) (A2 A3:Option Addr) (k2 c2 k3 c3:Nat) (h2:WQ W ((p:Int):Rat) A2 k2 c2 A3 k3 c3)=>qcmp_arg _ false an an' A2 A3 aA aA' k2 c2 k3 c3 ak ac ak' ac' ((p:Int):Rat) q W (h2.arg (by omega)) (HQ.out.below (hW1.trans (Below.mono hW hW1.size)));have m1:=Blk.new wr 107 #[.int .i64 s,.int .i64 p];have m2:=hBX.alloc (.cells #[.int .i64 s,.int .i64 p] 107);have k1:(0:Int)≤(k:Int):=by omega
   have k2:(k:Int)<(n:Int):=by omega
   generalize cmpQ ((p:Int):Rat) q=cv at *;generalize ((p:Int):Rat)=pq at *;generalize wlL side q (l.take k)=vl at *;generalize wlM side q (l.take k)=vm at *;have xl:IntKind.i64.wrap (vl+s)=vl+s:=IntWalk.i64_in _ (by omega);have xm:IntKind.i64.wrap (vm+s)=vm+s:=IntWalk.i64_in _ (by omega);have HS1:=Hj s1;have HS2:=Hj s2;have HFI:=Hj hFI;have HCM:=Hj hCM;have HM:=Hj (And.intro hW1 (And.intro m1 m2));clear hc hkl hbad bd1 bd2 hl2 s1 s2 hFI hCM hR hBW hBX hW1
   go_wp2_with fail
   have hS:∀ w',Kp (wr.alloc (.cells #[.int .i64 s,.int .i64 p] 107)) w'→(w'.cell? ⟨wr.heap.size,1,none⟩=some (.int .i64 p)∧w'.cell? ⟨w.heap.size,0,none⟩=some (.bool an)∧w'.cell? ⟨w.heap.size,1,none⟩=some (.slice aA ak ac)∧w'.cell? ⟨w.heap.size,2,none⟩=some (.bool an')∧w'.cell? ⟨w.heap.size,3,none⟩=some (.slice aA' ak' ac'))∧Kp (wr.alloc (.cells #[.int .i64 s,.int .i64 p] 107)) w':=fun w' hk =>
    ⟨⟨(hk.blk m1).cell 1,(hk.blk m2).cell 0,(hk.blk m2).cell 1,(hk.blk m2).cell 2,(hk.blk m2).cell 3⟩,hk⟩
   have HS:=Hj hS;have hk0:=Kp.refl (wr.alloc (.cells #[.int .i64 s,.int .i64 p] 107));clear hS m1 m2 y0 y1;generalize wr.alloc (.cells #[.int .i64 s,.int .i64 p] 107)=W at *
   go_region_held3 (fun w'=>(w'.cell? ⟨wr.heap.size,1,none⟩=some (.int .i64 p)∧w'.cell? ⟨w.heap.size,0,none⟩=some (.bool an)∧w'.cell? ⟨w.heap.size,1,none⟩=some (.slice aA ak ac)∧w'.cell? ⟨w.heap.size,2,none⟩=some (.bool an')∧w'.cell? ⟨w.heap.size,3,none⟩=some (.slice aA' ak' ac'))∧Kp W w')
    (with_reducible first|(refine HS.out _ ?_;assumption)|(refine HS.out _ (Kp.drew ?_);assumption)|(refine' HS.out _ (Kp.drew (And.right _));rotate_left;assumption))
    (first
     | (go_at_call 40;have hk:=And.right ‹_∧Kp W _›;refine (HFI.out _).mono ?_;rintro e v2 ⟨A2,k2,c2,A3,k3,c3,rfl,h2,h3,hW2,hW3,-,-,hb2⟩;have hk2:=Kp.trans hk hb2;have HWQ:=Hj (⟨h2,h3,hW2,hW3⟩:WQ v2 pq A2 k2 c2 A3 k3 c3);clear hb2 h2 h3 hW2 hW3)
     | (go_at_call 43;have hk:=And.right ‹_∧Kp W _›;refine (HCM.out _ hk _ _ _ _ _ _ HWQ.out).mono ?_;rintro e v3 ⟨rfl,hb3⟩;have hk3:=Kp.trans hk hb3;clear hb3))
   have hfin:Below w.heap.size w v3∧Blk v3 w.heap.size 42 #[.bool an,.slice aA ak ac,.bool an',.slice aA' ak' ac']:=⟨HM.out.1.trans (Below.mono hk3 HM.out.1.size),hk3.blk HM.out.2.2⟩;have hs0:=(hk3.blk HM.out.2.1).cell 0;simp at hs0;have HF:=Hj hfin;clear hfin hk0 hk2 hk3 HS HFI HCM HWQ HM;by_cases hside:cv=side
   ·have d1:(cv == side)=true:=by simpa using hside
    have e1:=HS1.out;have e2:=HS2.out;rw [if_pos hside] at e1;rw [if_pos (Or.inl hside)] at e2;have E1:=Hj e1;have E2:=Hj e2;clear e1 e2 HS1 HS2 hside;go_wp2;go_roundw
    case rel=>exact ⟨k+1,by omega,by go_num,by rw [E1.out],by rw [E2.out],HF.out⟩
    case measure=>simp [intOf];omega
   ·have d1:(cv == side)=false:=beq_false_of_ne hside;have e1:=HS1.out;rw [if_neg hside,Int.add_zero] at e1;have E1:=Hj e1;by_cases hz:cv=0
    ·have d2:(cv == 0)=true:=by simpa using hz
     have e2:=HS2.out;rw [if_pos (Or.inr hz)] at e2;have E2:=Hj e2;clear e1 e2 HS1 HS2 hside hz;go_wp2;go_roundw
     case rel=>exact ⟨k+1,by omega,by go_num,by rw [E1.out],by rw [E2.out],HF.out⟩
     case measure=>simp [intOf];omega
    ·have d2:(cv == 0)=false:=beq_false_of_ne hz;have e2:=HS2.out;rw [if_neg (by rintro (h|h);exact hside h;exact hz h),Int.add_zero] at e2;have E2:=Hj e2;clear e1 e2 HS1 HS2 hside hz;go_wp2;go_roundw
     case rel=>exact ⟨k+1,by omega,by go_num,by rw [E1.out],by rw [E2.out],HF.out⟩
     case measure=>simp [intOf];omega
  ·obtain rfl:k=n:=by omega
   rw [List.take_of_length_le (by rw [HLN.out];exact Nat.le_refl _)];have HF:=Hj hR.out.1;clear hR;go_wp2;go_ret2;exact ⟨rfl,HF.out⟩
theorem supplyAt_any (A:Option Addr) (n c:Nat) (l:List (Int×Int)) (an an':Bool) (aA aA':Option Addr) (ak ac ak' ac':Nat) (q:Rat) (w:World) (h:StAt w A n l) (hq:QArg w an aA ak ac an' aA' ak' ac' q) (hk:chk true l=0) :
  Calls Tryz.prog 150 #[.slice A n c,.agg #[.bool an,.slice aA ak ac,.bool an',.slice aA' ak' ac']] w fun e w'=>e=.returned (.tuple #[.int .i64 (wlL (-1) q l),.int .i64 (wlM (-1) q l),.int .i64 0])∧Below w.heap.size w w':=by
 have hok:=chk_ok hk;have hn:n≤3:=by rw [← h.1];exact hok.2.1
 have HX:=Hj h;have HC:=Hj (fun W (hW:Below w.heap.size w W)=>checkOffer_any A n c l W (h.below hW) (by omega));rw [hk] at HC;have HW:=Hj (fun W (hW:Below w.heap.size w W)=>willing_any (-1) A n c l an an' aA aA' ak ac ak' ac' q W (h.below hW) (hq.below hW) hn hok.2.2.2);clear h hq hk hok;go_enter Tryz.func150,Tryz.ntmps150
 go_wp2_with fail
 have hbx:=Blk.new w 42 #[.bool an,.slice aA ak ac,.bool an',.slice aA' ak' ac'];have hb0:Below w.heap.size w (w.alloc (.cells #[.bool an,.slice aA ak ac,.bool an',.slice aA' ak' ac'] 42)):=(Below.refl _ _).alloc (Nat.le_refl _) _;generalize w.alloc (.cells #[.bool an,.slice aA ak ac,.bool an',.slice aA' ak' ac'] 42)=W0 at *;refine (HC.out W0 hb0).mono ?_;rintro e w1 ⟨rfl,hb1⟩;have hbx1:=hbx.below hb1 hbx.lt;obtain ⟨c0,c1,c2,c3,-,-,-,-⟩:=hbx1.four;have HB1:=Hj (hb0.trans (hb1.mono hb0.size));clear hbx hb0 hb1 HC hbx1
 go_wp2_with fail
 refine (HW.out w1 HB1.out).mono ?_;rintro e w2 ⟨rfl,hb2⟩;have HB2:=Hj (HB1.out.trans (hb2.mono HB1.out.size));clear hb2 HW HB1;go_wp2;refine bodyPost_ret (v:=.tuple #[.int .i64 (wlL (-1) q l),.int .i64 (wlM (-1) q l),.int .i64 0]) ?_ rfl ⟨rfl,HB2.out⟩;simp [results,Tryz.results150,go_sem]
theorem demandAt_any (A:Option Addr) (n c:Nat) (l:List (Int×Int)) (an an':Bool) (aA aA':Option Addr) (ak ac ak' ac':Nat) (q:Rat) (w:World) (h:StAt w A n l) (hq:QArg w an aA ak ac an' aA' ak' ac' q) (hk:chk false l=0) :
  Calls Tryz.prog 151 #[.slice A n c,.agg #[.bool an,.slice aA ak ac,.bool an',.slice aA' ak' ac']] w fun e w'=>e=.returned (.tuple #[.int .i64 (wlL (1) q l),.int .i64 (wlM (1) q l),.int .i64 0])∧Below w.heap.size w w':=by
 have hok:=chk_ok hk;have hn:n≤3:=by rw [← h.1];exact hok.2.1
 have HX:=Hj h;have HC:=Hj (fun W (hW:Below w.heap.size w W)=>checkBid_any A n c l W (h.below hW) (by omega));rw [hk] at HC;have HW:=Hj (fun W (hW:Below w.heap.size w W)=>willing_any (1) A n c l an an' aA aA' ak ac ak' ac' q W (h.below hW) (hq.below hW) hn hok.2.2.2);clear h hq hk hok;go_enter Tryz.func151,Tryz.ntmps151
 go_wp2_with fail
 have hbx:=Blk.new w 42 #[.bool an,.slice aA ak ac,.bool an',.slice aA' ak' ac'];have hb0:Below w.heap.size w (w.alloc (.cells #[.bool an,.slice aA ak ac,.bool an',.slice aA' ak' ac'] 42)):=(Below.refl _ _).alloc (Nat.le_refl _) _;generalize w.alloc (.cells #[.bool an,.slice aA ak ac,.bool an',.slice aA' ak' ac'] 42)=W0 at *;refine (HC.out W0 hb0).mono ?_;rintro e w1 ⟨rfl,hb1⟩;have hbx1:=hbx.below hb1 hbx.lt;obtain ⟨c0,c1,c2,c3,-,-,-,-⟩:=hbx1.four;have HB1:=Hj (hb0.trans (hb1.mono hb0.size));clear hbx hb0 hb1 HC hbx1
 go_wp2_with fail
 refine (HW.out w1 HB1.out).mono ?_;rintro e w2 ⟨rfl,hb2⟩;have HB2:=Hj (HB1.out.trans (hb2.mono HB1.out.size));clear hb2 HW HB1;go_wp2;refine bodyPost_ret (v:=.tuple #[.int .i64 (wlL (1) q l),.int .i64 (wlM (1) q l),.int .i64 0]) ?_ rfl ⟨rfl,HB2.out⟩;simp [results,Tryz.results151,go_sem]
abbrev QE:=Bool×(Option Addr×Nat×Nat)×Bool×(Option Addr×Nat×Nat)
abbrev QE0:QE:=(false,(none,0,0),false,(none,0,0))
def QsAtR (w:World) (A:Option Addr) (m:Nat) (es:List QE):Prop :=
 es.length=m∧(m≠0→∃ b o,A=some ⟨b,o,none⟩∧b<w.heap.size∧∀ j,j<m→w.cell? ⟨b,o+j*4,none⟩=some (.bool (es[j]?.getD QE0).1)∧w.cell? ⟨b,o+j*4+1,none⟩=some (.slice (es[j]?.getD QE0).2.1.1 (es[j]?.getD QE0).2.1.2.1 (es[j]?.getD QE0).2.1.2.2) ∧
  w.cell? ⟨b,o+j*4+2,none⟩=some (.bool (es[j]?.getD QE0).2.2.1)∧w.cell? ⟨b,o+j*4+3,none⟩=some (.slice (es[j]?.getD QE0).2.2.2.1 (es[j]?.getD QE0).2.2.2.2.1 (es[j]?.getD QE0).2.2.2.2.2))
namespace St
end St
theorem sumw_snoc (f:List (Int×Int)→Int) {ls:List (List (Int×Int))} {k:Nat} (hk:k<ls.length):sumI ((ls.take (k+1)).map f)=sumI ((ls.take k).map f)+f (ls[k]?.getD []):=by
 have e:ls.take (k+1)=ls.take k ++ [ls[k]?.getD []]:=by rw [List.take_add_one,List.getElem?_eq_getElem hk];rfl
 rw [e,List.map_append];exact sumI_snoc _ _
theorem sumw_bd (f:List (Int×Int)→Int):∀ (ls:List (List (Int×Int))),(∀ l∈ls,0≤f l∧f l≤3000000)→0≤sumI (ls.map f)∧sumI (ls.map f)≤3000000*(ls.length:Int)
 | [],_=>by simp [sumI]
 | l :: ls,h=>by
  have h1:=h l (List.mem_cons_self ..);have h2:=sumw_bd f ls fun y hy=>h y (List.mem_cons_of_mem _ hy);rw [List.map_cons,sumI,List.length_cons];omega
end Go.Proofs.YtjajigkacccdgaaGreat
namespace Go.Proofs.YtjajigkacccdgaaGreat
open Go.RowKit
open Wd
def MgR (up:Bool) (n:Nat) (ls:List (List (Int×Int))) (w:World) (e:Ending) (w':World):Prop :=
 ∃ (A:Option Addr) (m cap:Nat) (pl:Int) (lv:List St.Lv),e=.returned (.tuple #[.slice A m cap,.int .i64 pl,.int .i64 (ckC up ls).2])∧LvAt w' A m n lv∧((ckC up ls).2=0→St.IsLv up n (St.tri 0 ls) lv∧VL up n lv)∧((ckC up ls).2≠0→m=0)∧Below w.heap.size w w'
theorem merge_offers_any (A:Option Addr) (n c:Nat) (ls:List (List (Int×Int))) (w:World) (h:CsAt w A n ls) (hs:∀ l∈ls,l.length≤1000000000000) :
  Calls Tryz.prog 16 #[.slice A n c] w (MgR true n ls w):=by
 by_cases hc:(ckC true ls).2=0
 ·refine (merge_offers_ok A n c ls w h hs hc).mono ?_;rintro e w' ⟨D,mg,cap,rfl,h1,h2,h3,h4⟩;have hn:=h.1;subst hn;refine ⟨some ⟨mg,0,none⟩,D.length,cap,0,lvOf ls.length (St.tri 0 ls) D,by rw [hc],h3.at,fun _=>⟨lvOf_is h1 h2,lv_valid hc (lvOf_is h1 h2)⟩,fun h0=>absurd hc h0,h4⟩
 ·refine (merge_offers_no A n c ls w h hs hc).mono ?_;rintro e w' ⟨rfl,h4⟩;exact ⟨none,0,0,_,[],rfl,⟨rfl,fun h0=>absurd rfl h0⟩,fun h0=>absurd h0 hc,fun _=>rfl,h4⟩
theorem merge_bids_any (A:Option Addr) (n c:Nat) (ls:List (List (Int×Int))) (w:World) (h:CsAt w A n ls) (hs:∀ l∈ls,l.length≤1000000000000) :
  Calls Tryz.prog 17 #[.slice A n c] w (MgR false n ls w):=by
 by_cases hc:(ckC false ls).2=0
 ·refine (merge_bids_ok A n c ls w h hs hc).mono ?_;rintro e w' ⟨D,mg,cap,rfl,h1,h2,h3,h4⟩;have hn:=h.1;subst hn;refine ⟨some ⟨mg,0,none⟩,D.length,cap,0,lvOf ls.length (St.tri 0 ls) D,by rw [hc],h3.at,fun _=>⟨lvOf_is h1 h2,lv_valid hc (lvOf_is h1 h2)⟩,fun h0=>absurd hc h0,h4⟩
 ·refine (merge_bids_no A n c ls w h hs hc).mono ?_;rintro e w' ⟨rfl,h4⟩;exact ⟨none,0,0,_,[],rfl,⟨rfl,fun h0=>absurd rfl h0⟩,fun h0=>absurd h0 hc,fun _=>rfl,h4⟩
def slv (x:Option Addr×Nat×Nat):Value:=.slice x.1 x.2.1 x.2.2
theorem Own.css {base:Nat} {e:TypeId} {w:World} {A:Option Addr} {n c:Nat} {vs:List (Option Addr×Nat×Nat)} {ls:List (List (Int×Int))} (h:Own base e 1 w A n c (vs.map slv)) (hl:ls.length=n) (hv:∀ j,j<n→StAt w (vs[j]?.getD (none,0,0)).1 (vs[j]?.getD (none,0,0)).2.1 (ls[j]?.getD [])):CsAt w A n ls:=by
 have hvl:vs.length=n:=by have:=h.1;simpa using this
 refine ⟨hl,fun hn=>?_⟩;obtain ⟨g,cap,hv2,hb,hlt⟩:=World.ownsRow.form h (by omega);simp at hv2;obtain ⟨rfl,rfl⟩:=hv2;refine ⟨g,0,rfl,hlt,fun j hj=>⟨_,_,(vs[j]?.getD (none,0,0)).2.2,?_,hv j hj⟩⟩;rw [Nat.zero_add,World.ownsRow.cellAt h j (by simp;omega),List.getElem?_map,List.getElem?_eq_getElem (by omega)]
 rfl
theorem info_steps:(Tryz.prog.info? 29).map (fun i=>(i.zero,i.size,i.bytes))=some (some (.slice none 0 0),1,24):=by kernel_rfl
end Go.Proofs.YtjajigkacccdgaaGreat
