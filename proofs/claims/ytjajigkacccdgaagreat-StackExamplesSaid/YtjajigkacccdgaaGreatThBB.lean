/-
Lemmas of the walk; no further conditions.
-/
import Derived.Test.YtjajigkacccdgaaGreatThBA
import Derived.Shelf.GgSortFunc.Whole
import Derived.WalkMore
set_option linter.unusedVariables false
set_option linter.unusedSimpArgs false
set_option maxRecDepth 100000
set_option maxHeartbeats 16000000
namespace Go.Proofs.YtjajigkacccdgaaGreat
open Go.RowKit
open Wd
theorem merge_offers_lv (A:Option Addr) (n c:Nat) (ls:List (List (Int×Int))) (lv:List St.Lv) (w:World) (h:CsAt w A n ls) (hs:∀ l∈ls,l.length≤1000000000000) (hc:(ckC true ls).2=0) (hl:St.IsLv true n (St.tri 0 ls) lv) :
  Calls Tryz.prog 16 #[.slice A n c] w fun e w'=>∃ mg cap,e=.returned (.tuple #[.slice (some ⟨mg,0,none⟩) lv.length cap,.int .i64 0,.int .i64 0])∧LvAt w' (some ⟨mg,0,none⟩) lv.length n lv∧VL true n lv∧Below w.heap.size w w':=by
 refine (merge_offers_ok A n c ls w h hs hc).mono ?_;rintro e w' ⟨D,mg,cap,rfl,h1,h2,h3,h4⟩;have he:lvOf n (St.tri 0 ls) D=lv:=(lvOf_is h1 h2).only hl;have hlen:lv.length=D.length:=by rw [← he];simp [lvOf]
 refine ⟨mg,cap,by rw [hlen],?_,?_,h4⟩
 ·have:=h3.at
  rw [he] at this
  rwa [hlen]
 ·have hn:=h.1;subst hn;exact lv_valid hc hl
theorem merge_bids_lv (A:Option Addr) (n c:Nat) (ls:List (List (Int×Int))) (lv:List St.Lv) (w:World) (h:CsAt w A n ls) (hs:∀ l∈ls,l.length≤1000000000000) (hc:(ckC false ls).2=0) (hl:St.IsLv false n (St.tri 0 ls) lv) :
  Calls Tryz.prog 17 #[.slice A n c] w fun e w'=>∃ mg cap,e=.returned (.tuple #[.slice (some ⟨mg,0,none⟩) lv.length cap,.int .i64 0,.int .i64 0])∧LvAt w' (some ⟨mg,0,none⟩) lv.length n lv∧VL false n lv∧Below w.heap.size w w':=by
 refine (merge_bids_ok A n c ls w h hs hc).mono ?_;rintro e w' ⟨D,mg,cap,rfl,h1,h2,h3,h4⟩;have he:lvOf n (St.tri 0 ls) D=lv:=(lvOf_is h1 h2).only hl;have hlen:lv.length=D.length:=by rw [← he];simp [lvOf]
 refine ⟨mg,cap,by rw [hlen],?_,?_,h4⟩
 ·have:=h3.at
  rw [he] at this
  rwa [hlen]
 ·have hn:=h.1;subst hn;exact lv_valid hc hl
theorem IsAt.lit {w:World} {g:Nat} {xs:List Int} {n:Nat} {cs:Array Value} (h:Blk w g 2 cs) (hc:cs=(xs.map (Value.int .i64)).toArray) (hl:xs.length=n):IsAt w (some ⟨g,0,none⟩) n xs:=by
 subst hc;exact IRow.at (show IRow w g xs from h) hl
theorem CsAt.two {w:World} {g:Nat} {t:TypeId} {A1 A2:Option Addr} {n1 c1 n2 c2:Nat} {l1 l2:List (Int×Int)} (h:Blk w g t #[.slice A1 n1 c1,.slice A2 n2 c2]) (h1:StAt w A1 n1 l1) (h2:StAt w A2 n2 l2):CsAt w (some ⟨g,0,none⟩) 2 [l1,l2]:=by
 refine ⟨rfl,fun _=>⟨g,0,rfl,h.lt,fun j hj=>?_⟩⟩;obtain rfl|rfl:j=0∨j=1:=by omega
 ·exact ⟨A1,n1,c1,h.cell 0,h1⟩
 ·exact ⟨A2,n2,c2,h.cell 1,h2⟩
theorem LvAt.two {w:World} {g n:Nat} {t:TypeId} {p1 q1 p2 q2:Int} {A1 A2:Option Addr} {c1 c2:Nat} {x1 x2:List Int} (h:Blk w g t #[.int .i64 p1,.int .i64 q1,.slice A1 n c1,.int .i64 p2,.int .i64 q2,.slice A2 n c2]) (h1:IsAt w A1 n x1) (h2:IsAt w A2 n x2) :
  LvAt w (some ⟨g,0,none⟩) 2 n [(p1,q1,x1),(p2,q2,x2)]:=by
 refine ⟨rfl,fun _=>⟨g,0,rfl,h.lt,fun j hj=>?_⟩⟩;obtain rfl|rfl:j=0∨j=1:=by omega
 ·exact ⟨A1,c1,⟨h.cell 0,h.cell 1,h.cell 2⟩,h1⟩
 ·exact ⟨A2,c2,⟨h.cell 3,h.cell 4,h.cell 5⟩,h2⟩
theorem LvAt.three {w:World} {g n:Nat} {t:TypeId} {p1 q1 p2 q2 p3 q3:Int} {A1 A2 A3:Option Addr} {c1 c2 c3:Nat} {x1 x2 x3:List Int} (h:Blk w g t #[.int .i64 p1,.int .i64 q1,.slice A1 n c1,.int .i64 p2,.int .i64 q2,.slice A2 n c2,.int .i64 p3,.int .i64 q3,.slice A3 n c3]) (h1:IsAt w A1 n x1) (h2:IsAt w A2 n x2) (h3:IsAt w A3 n x3) :
  LvAt w (some ⟨g,0,none⟩) 3 n [(p1,q1,x1),(p2,q2,x2),(p3,q3,x3)]:=by
 refine ⟨rfl,fun _=>⟨g,0,rfl,h.lt,fun j hj=>?_⟩⟩;obtain rfl|rfl|rfl:j=0∨j=1∨j=2:=by omega
 ·exact ⟨A1,c1,⟨h.cell 0,h.cell 1,h.cell 2⟩,h1⟩
 ·exact ⟨A2,c2,⟨h.cell 3,h.cell 4,h.cell 5⟩,h2⟩
 ·exact ⟨A3,c3,⟨h.cell 6,h.cell 7,h.cell 8⟩,h3⟩
def exO:List St.Lv:=[(1,5,[5,0]),(2,3,[0,3]),(3,7,[4,3])]
def exB:List St.Lv:=[(9,7,[4,3]),(2,4,[4,0])]
theorem exO_is:St.IsLv true 2 (St.tri 0 [[(5,1),(4,3)],[(3,2),(3,3)]]) exO:=by
 refine ⟨by simp [exO,St.ltU],fun p=>?_,?_⟩
 ·simp [exO,St.tri];omega
 ·intro x hx;simp [exO] at hx;rcases hx with rfl|rfl|rfl<;>decide
theorem exB_is:St.IsLv false 2 (St.tri 0 [[(4,9),(4,2)],[(3,9)]]) exB:=by
 refine ⟨by simp [exB,St.ltU],fun p=>?_,?_⟩
 ·simp [exB,St.tri];omega
 ·intro x hx;simp [exB] at hx;rcases hx with rfl|rfl<;>decide
theorem exO_ck:(ckC true [[(5,1),(4,3)],[(3,2),(3,3)]]).2=0:=by decide
theorem exB_ck:(ckC false [[(4,9),(4,2)],[(3,9)]]).2=0:=by decide
theorem exO_tot:totI exO=15:=by decide
theorem exB_tot:totI exB=11:=by decide
theorem exO_s10:shAll exO 2 10 3=[5,5]:=by decide
theorem exO_s12:shAll exO 2 12 3=[6,6]:=by decide
theorem exB_s5:shAll exB 2 5 2=[2,3]:=by decide
theorem exO_c10:costI (lvQ exO) 10 3=17:=by decide
theorem exO_c12:costI (lvQ exO) 12 3=23:=by decide
theorem exB_c5:costI (lvQ exB) 5 2=45:=by decide
theorem prs_a:prs [5,1,4,3] 2=[(5,1),(4,3)]:=rfl
theorem prs_b:prs [3,2,3,3] 2=[(3,2),(3,3)]:=rfl
theorem prs_c:prs [4,9,4,2] 2=[(4,9),(4,2)]:=rfl
theorem prs_d:prs [3,9] 1=[(3,9)]:=rfl
theorem fits_lit {xs:List Int} (h:∀ x∈xs,-100≤x∧x≤100):∀ i:Nat,Fits (xs[i]?.getD 0):=fun i=>by
 by_cases hi:i<xs.length
 ·have:=h _ (getD_mem (d:=0) hi);unfold Fits;omega
 ·rw [List.getElem?_eq_none (by omega)];unfold Fits;simp
theorem sumI_zero:∀ {xs:List Int},(∀ x∈xs,x=0)→sumI xs=0
 | [],_=>rfl
 | x :: xs,h=>by rw [sumI,h x (List.mem_cons_self ..),sumI_zero fun y hy=>h y (List.mem_cons_of_mem _ hy)];rfl
theorem sumI_map_add {α:Type} (f g:α→Int):∀ l:List α,sumI (l.map fun x=>f x+g x)=sumI (l.map f)+sumI (l.map g)
 | []=>rfl
 | x :: l=>by rw [List.map_cons,sumI,sumI_map_add f g l,List.map_cons,sumI,List.map_cons,sumI];omega
theorem sumI_one {α:Type} (key:α→Int) (q:Int):∀ {l:List α} {p:Int},(l.map key).Nodup→p∈l.map key→sumI (l.map fun x=>if p=key x then q else 0)=q
 | [],_,_,h=>by simp at h
 | x :: l,p,hn,h=>by
  rw [List.map_cons,List.nodup_cons] at hn;rw [List.map_cons,sumI];by_cases e:p=key x
  ·rw [if_pos e,sumI_zero]
   ·omega
   ·intro y hy;obtain ⟨z,hz,rfl⟩:=List.mem_map.1 hy;exact if_neg fun e2=>hn.1 (List.mem_map.2 ⟨z,hz,by rw [← e2,e]⟩)
  ·rw [if_neg e];rw [List.map_cons] at h;rcases List.mem_cons.1 h with h|h
   ·exact absurd h e
   ·rw [sumI_one key q hn.2 h];omega
namespace St
theorem IsLv.nodup {up:Bool} {n:Nat} {T:List Tr} {lv:List Lv} (h:IsLv up n T lv):(lv.map (·.1)).Nodup:=h.1.imp fun {a b} hab e=>by subst e;exact ltU_irr hab
def sumT (T:List Tr):Int:=sumI (T.map fun t=>t.2.1)
theorem sum_prices:∀ {T:List Tr} {ps:List Int},ps.Nodup→(∀ t∈T,t.2.2∈ps)→sumI (ps.map (qty T))=sumT T
 | [],ps,_,_=>by
  unfold sumT;refine (sumI_zero fun y hy=>?_);obtain ⟨x,_,rfl⟩:=List.mem_map.1 hy
  rfl
 | t :: T,ps,hn,h=>by
  have ih:=sum_prices hn fun s hs=>h s (List.mem_cons_of_mem _ hs);have e:ps.map (qty (t :: T))=ps.map fun p=>(if t.2.2=p then t.2.1 else 0)+qty T p:=rfl;rw [e,sumI_map_add (fun p=>if t.2.2=p then t.2.1 else 0) (qty T),ih];have:=sumI_one (fun p:Int=>p) t.2.1 (l:=ps) (p:=t.2.2) (by simpa using hn) (by simpa using h t (List.mem_cons_self ..));rw [this];unfold sumT;rw [List.map_cons,sumI]
theorem tot_is {up:Bool} {n:Nat} {T:List Tr} {lv:List Lv} (h:IsLv up n T lv):totI lv=sumT T:=by
 have e:lv.map (·.2.1)=(lv.map (·.1)).map (qty T):=by
  rw [List.map_map];exact List.map_congr_left fun x hx=>(h.2.2 x hx).1
 unfold totI;rw [e];exact sum_prices h.nodup fun t ht=>(h.2.1 t.2.2).2 ⟨t,ht,rfl⟩
end St
end Go.Proofs.YtjajigkacccdgaaGreat
namespace Go.Proofs.YtjajigkacccdgaaGreat
open Go.RowKit
open Wd
def QArg (w:World) (an:Bool) (aA:Option Addr) (ak ac:Nat) (an':Bool) (aA':Option Addr) (ak' ac':Nat) (q:Rat):Prop:=∃ Nn Nd,QAt Nn Nd w an aA ak ac an' aA' ak' ac' q
theorem QArg.below {w w':World} {an an':Bool} {aA aA':Option Addr} {ak ac ak' ac':Nat} {q:Rat} (h:QArg w an aA ak ac an' aA' ak' ac' q) (hb:Below w.heap.size w w'):QArg w' an aA ak ac an' aA' ak' ac' q:=by
 obtain ⟨Nn,Nd,h⟩:=h;exact ⟨Nn,Nd,h.below hb⟩
theorem QAt.more {Nn Nd Mn Md:Nat} {w:World} {an an':Bool} {aA aA':Option Addr} {ak ac ak' ac':Nat} {q:Rat} (h:QAt Nn Nd w an aA ak ac an' aA' ak' ac' q) (hn:Nn≤Mn) (hd:Nd≤Md):QAt Mn Md w an aA ak ac an' aA' ak' ac' q:=by
 obtain ⟨na,da,h1,h2,h3,h4⟩:=h;exact ⟨na,da,h1,by omega,by omega,h4⟩
theorem qcmp_arg (an an' bn bn':Bool) (aA aA' bA bA':Option Addr) (ak ac ak' ac' bk bc bk' bc':Nat) (qa qb:Rat) (w:World) (ha:QArg w an aA ak ac an' aA' ak' ac' qa) (hb:QArg w bn bA bk bc bn' bA' bk' bc' qb) :
  Calls Tryz.prog 43 #[.agg #[.bool an,.slice aA ak ac,.bool an',.slice aA' ak' ac'],.agg #[.bool bn,.slice bA bk bc,.bool bn',.slice bA' bk' bc']] w fun e w'=>e=.returned (.int .i64 (cmpQ qa qb))∧Below w.heap.size w w':=by
 obtain ⟨N1,D1,h1⟩:=ha;obtain ⟨N2,D2,h2⟩:=hb;exact qcmp_any an an' bn bn' aA aA' bA bA' ak ac ak' ac' bk bc bk' bc' qa qb w (h1.more (Mn:=max N1 N2) (Md:=max D1 D2) (by omega) (by omega)) (h2.more (by omega) (by omega))
theorem WQ.arg {w:World} {z:Int} {A A':Option Addr} {k c k' c':Nat} (h:WQ w (z:Rat) A k c A' k' c') (hz:z.natAbs<1000000000000):QArg w (decide (((z:Int):Rat).num<0)) A k c false A' k' c' (z:Rat) :=
 ⟨_,_,h.at (by rw [Rat.num_intCast];omega) (by rw [Rat.den_intCast];omega)⟩
def wlL (side:Int) (q:Rat) (l:List (Int×Int)):Int:=sumI (l.map fun s=>if cmpQ (s.2:Rat) q=side then s.1 else 0)
def wlM (side:Int) (q:Rat) (l:List (Int×Int)):Int:=sumI (l.map fun s=>if cmpQ (s.2:Rat) q=side∨cmpQ (s.2:Rat) q=0 then s.1 else 0)
namespace St
end St
end Go.Proofs.YtjajigkacccdgaaGreat
namespace Go.Proofs.YtjajigkacccdgaaGreat
open Go.RowKit
open Wd
def slv (x:Option Addr×Nat×Nat):Value:=.slice x.1 x.2.1 x.2.2
theorem Own.css {base:Nat} {e:TypeId} {w:World} {A:Option Addr} {n c:Nat} {vs:List (Option Addr×Nat×Nat)} {ls:List (List (Int×Int))} (h:Own base e 1 w A n c (vs.map slv)) (hl:ls.length=n) (hv:∀ j,j<n→StAt w (vs[j]?.getD (none,0,0)).1 (vs[j]?.getD (none,0,0)).2.1 (ls[j]?.getD [])):CsAt w A n ls:=by
 have hvl:vs.length=n:=by have:=h.1;simpa using this
 refine ⟨hl,fun hn=>?_⟩;obtain ⟨g,cap,hv2,hb,hlt⟩:=World.ownsRow.form h (by omega);simp at hv2;obtain ⟨rfl,rfl⟩:=hv2;refine ⟨g,0,rfl,hlt,fun j hj=>⟨_,_,(vs[j]?.getD (none,0,0)).2.2,?_,hv j hj⟩⟩;rw [Nat.zero_add,World.ownsRow.cellAt h j (by simp;omega),List.getElem?_map,List.getElem?_eq_getElem (by omega)]
 rfl
theorem info_steps:(Tryz.prog.info? 29).map (fun i=>(i.zero,i.size,i.bytes))=some (some (.slice none 0 0),1,24):=by kernel_rfl
def wsL (side:Int) (q:Rat) (ls:List (List (Int×Int))):Int:=sumI (ls.map (wlL side q))
def wsM (side:Int) (q:Rat) (ls:List (List (Int×Int))):Int:=sumI (ls.map (wlM side q))
def balB (os bs:List (List (Int×Int))) (q:Rat):Bool:=decide (wsL (-1) q os≤wsM 1 q bs) && decide (wsL 1 q bs≤wsM (-1) q os)
def uP:List St.Lv→Int→Option Int
 | [],_=>none
 | x :: r,u=>if u<x.2.1 then some x.1 else uP r (u-x.2.1)
def okU (S D:List St.Lv) (u:Int):Prop:=∃ a b,uP S u=some a∧uP D u=some b∧a<b
def TrZ (S D:List St.Lv) (z:Int):Prop:=0≤z∧(∀ u,0≤u→u<z→okU S D u)∧¬ okU S D z
structure TrI (S D:List St.Lv) (i k:Nat) (z s b:Int):Prop where
 s0:0≤s
 b0:0≤b
 si:i<S.length→s<(S[i]?.getD Lv0).2.1
 bi:k<D.length→b<(D[k]?.getD Lv0).2.1
 se:¬ i<S.length→s=0
 be:¬ k<D.length→b=0
 zs:z=totI (S.take i)+s
 zb:z=totI (D.take k)+b
 ok:∀ u,0≤u→u<z→okU S D u
namespace St
end St
end Go.Proofs.YtjajigkacccdgaaGreat
namespace Go.Proofs.YtjajigkacccdgaaGreat
open Go.RowKit
open Wd
theorem awake24_any (w:World):Calls Tryz.prog 13 #[] w fun e w'=>e=.returned (.bool true)∧Below w.heap.size w w':=by
 have HKw:=Hj (Below.refl w.heap.size w);go_enter Tryz.func13,Tryz.ntmps13;have hK:Below w.heap.size w (w.alloc (.cells #[.int .i64 5,.int .i64 1,.int .i64 4,.int .i64 3] 2)):=HKw.out.alloc HKw.out.size _;have HC:=Hj (curve_any (some ⟨w.heap.size,0,none⟩) 2 4 [5,1,4,3] _ (IsAt.lit (Blk.new w 2 #[.int .i64 5,.int .i64 1,.int .i64 4,.int .i64 3]) rfl rfl) (by omega) (fits_lit (by simp)));rw [prs_a] at HC;have HKX:=Hj hK;clear hK
 go_wp2_with fail
 refine HC.out.mono ?_;rintro e w1 ⟨A1,c1,rfl,hS,hb⟩;have HKw1:=Hj (HKX.out.trans (hb.mono HKX.out.size));have HL:=Hj (show Below w.heap.size w w1 from ((Below.refl _ _).alloc (Nat.le_refl _) _).trans (hb.mono (by simp)));have HS1:=Hj hS;clear hS hb HC HKX;clear HL;have hK:Below w.heap.size w (w1.alloc (.cells #[.int .i64 3,.int .i64 2,.int .i64 3,.int .i64 3] 2)):=HKw1.out.alloc HKw1.out.size _;have HC:=Hj (curve_any (some ⟨w1.heap.size,0,none⟩) 2 4 [3,2,3,3] _ (IsAt.lit (Blk.new w1 2 #[.int .i64 3,.int .i64 2,.int .i64 3,.int .i64 3]) rfl rfl) (by omega) (fits_lit (by simp)));rw [prs_b] at HC;have HKX:=Hj hK;clear hK
 go_wp2_with fail
 refine HC.out.mono ?_;rintro e w2 ⟨A2,c2,rfl,hS,hb⟩;have HKw2:=Hj (HKX.out.trans (hb.mono HKX.out.size));have HL:=Hj (show Below w1.heap.size w1 w2 from ((Below.refl _ _).alloc (Nat.le_refl _) _).trans (hb.mono (by simp)));have HS2:=Hj hS;clear hS hb HC HKX;have HS1:=Hj (HS1.out.below HL.out);clear HL;have hK:Below w.heap.size w (w2.alloc (.cells #[.slice A1 2 c1,.slice A2 2 c2] 29)):=HKw2.out.alloc HKw2.out.size _;have kx:=(Kp.refl w2).alloc (.cells #[.slice A1 2 c1,.slice A2 2 c2] 29);have HC:=Hj (merge_offers_lv (some ⟨w2.heap.size,0,none⟩) 2 2 _ exO _ (CsAt.two (Blk.new w2 29 #[.slice A1 2 c1,.slice A2 2 c2]) (HS1.out.below kx) (HS2.out.below kx)) (by simp) exO_ck exO_is);rw [show exO.length=3 from rfl] at HC;have HKX:=Hj hK;clear hK kx HS1 HS2
 go_wp2_with fail
 refine HC.out.mono ?_;rintro e w3 ⟨mg,cap,rfl,hL,hV,hb⟩;have HKw3:=Hj (HKX.out.trans (hb.mono HKX.out.size));have HLO:=Hj hL;have HVO:=Hj hV;clear hb hL hV HC HKX;have hK:Below w.heap.size w (w3.alloc (.cells #[.int .i64 4,.int .i64 9,.int .i64 4,.int .i64 2] 2)):=HKw3.out.alloc HKw3.out.size _;have HC:=Hj (curve_any (some ⟨w3.heap.size,0,none⟩) 2 4 [4,9,4,2] _ (IsAt.lit (Blk.new w3 2 #[.int .i64 4,.int .i64 9,.int .i64 4,.int .i64 2]) rfl rfl) (by omega) (fits_lit (by simp)));rw [prs_c] at HC;have HKX:=Hj hK;clear hK
 go_wp2_with fail
 refine HC.out.mono ?_;rintro e w4 ⟨A3,c3,rfl,hS,hb⟩;have HKw4:=Hj (HKX.out.trans (hb.mono HKX.out.size));have HL:=Hj (show Below w3.heap.size w3 w4 from ((Below.refl _ _).alloc (Nat.le_refl _) _).trans (hb.mono (by simp)));have HS3:=Hj hS;clear hS hb HC HKX;have HLO:=Hj (HLO.out.below HL.out);clear HL;have hK:Below w.heap.size w (w4.alloc (.cells #[.int .i64 3,.int .i64 9] 2)):=HKw4.out.alloc HKw4.out.size _;have HC:=Hj (curve_any (some ⟨w4.heap.size,0,none⟩) 1 2 [3,9] _ (IsAt.lit (Blk.new w4 2 #[.int .i64 3,.int .i64 9]) rfl rfl) (by omega) (fits_lit (by simp)));rw [prs_d] at HC;have HKX:=Hj hK;clear hK
 go_wp2_with fail
 refine HC.out.mono ?_;rintro e w5 ⟨A4,c4,rfl,hS,hb⟩;have HKw5:=Hj (HKX.out.trans (hb.mono HKX.out.size));have HL:=Hj (show Below w4.heap.size w4 w5 from ((Below.refl _ _).alloc (Nat.le_refl _) _).trans (hb.mono (by simp)));have HS4:=Hj hS;clear hS hb HC HKX;have HLO:=Hj (HLO.out.below HL.out);have HS3:=Hj (HS3.out.below HL.out);clear HL;have hK:Below w.heap.size w (w5.alloc (.cells #[.slice A3 2 c3,.slice A4 1 c4] 29)):=HKw5.out.alloc HKw5.out.size _;have kx:=(Kp.refl w5).alloc (.cells #[.slice A3 2 c3,.slice A4 1 c4] 29);have HC:=Hj (merge_bids_lv (some ⟨w5.heap.size,0,none⟩) 2 2 _ exB _ (CsAt.two (Blk.new w5 29 #[.slice A3 2 c3,.slice A4 1 c4]) (HS3.out.below kx) (HS4.out.below kx)) (by simp) exB_ck exB_is);rw [show exB.length=2 from rfl] at HC;have HKX:=Hj hK;have HLO:=Hj (HLO.out.below kx);clear hK kx HS3 HS4
 go_wp2_with fail
 refine HC.out.mono ?_;rintro e w6 ⟨mh,cbp,rfl,hL,hV,hb⟩;have HKw6:=Hj (HKX.out.trans (hb.mono HKX.out.size));have HLO:=Hj (HLO.out.below hb);have HLB:=Hj hL;have HVB:=Hj hV;clear hb hL hV HC HKX
 go_wp2_with fail
 refine (qfromInt64_any 16 w6 (by omega) (by omega)).mono ?_;rintro e w7 ⟨A5,k5,c5,A6,k6,c6,rfl,hk5,hk6,hW5,hW6,-,-,hb⟩;have HKw7:=Hj (HKw6.out.trans (hb.mono HKw6.out.size));have HLO:=Hj (HLO.out.below hb);have HLB:=Hj (HLB.out.below hb);have HC:=Hj (share_over true (some ⟨mg,0,none⟩) 3 2 cap exO 16 A5 A6 k5 c5 k6 c6 w7 HLO.out HVO.out ⟨hk5,hk6,hW5,hW6⟩ (by omega) (by rw [exO_tot];omega) (by omega));clear hb hk5 hk6 hW5 hW6
 go_wp2_with fail
 refine HC.out.mono ?_;rintro e w8 ⟨rfl,hb⟩;have HKw8:=Hj (HKw7.out.trans (hb.mono HKw7.out.size));have HLO:=Hj (HLO.out.below hb);have HLB:=Hj (HLB.out.below hb);clear hb HC;have HC:=Hj (told_any (some ⟨mg,0,none⟩) 3 2 cap exO w8 HLO.out (by omega) (by omega))
 go_wp2_with fail
 refine HC.out.mono ?_;rintro e w9 ⟨T1,t1,rfl,hM,hb⟩;have HL:=Hj (show Below w8.heap.size w8 w9 from hb);have HKw9:=Hj (HKw8.out.trans (HL.out.mono HKw8.out.size));have HT:=Hj hM;clear hM;have HLO:=Hj (HLO.out.below HL.out);have HLB:=Hj (HLB.out.below HL.out);clear hb HC HL;have hI:=IsAt.lit (xs:=[5,0]) (n:=2) (Blk.new w9 2 #[.int .i64 5,.int .i64 0]) rfl rfl;have HC:=Hj (level_any 1 5 (some ⟨w9.heap.size,0,none⟩) 2 2 (w9.alloc (.cells #[.int .i64 5,.int .i64 0] 2)));have HI:=Hj hI;clear hI
 go_wp2_with fail
 refine HC.out.mono ?_;rintro e w10 ⟨rfl,hb⟩;have HL:=Hj (show Below w9.heap.size w9 w10 from ((Below.refl _ _).alloc (Nat.le_refl _) _).trans (hb.mono (by simp)));have HKw10:=Hj (HKw9.out.trans (HL.out.mono HKw9.out.size));have HX1:=Hj (HI.out.below hb);have HLO:=Hj (HLO.out.below HL.out);have HLB:=Hj (HLB.out.below HL.out);have HT:=Hj (HT.out.below HL.out);clear hb HC HL;clear HI;have hI:=IsAt.lit (xs:=[0,3]) (n:=2) (Blk.new w10 2 #[.int .i64 0,.int .i64 3]) rfl rfl;have HC:=Hj (level_any 2 3 (some ⟨w10.heap.size,0,none⟩) 2 2 (w10.alloc (.cells #[.int .i64 0,.int .i64 3] 2)));have HI:=Hj hI;clear hI
 go_wp2_with fail
 refine HC.out.mono ?_;rintro e w11 ⟨rfl,hb⟩;have HL:=Hj (show Below w10.heap.size w10 w11 from ((Below.refl _ _).alloc (Nat.le_refl _) _).trans (hb.mono (by simp)));have HKw11:=Hj (HKw10.out.trans (HL.out.mono HKw10.out.size));have HX2:=Hj (HI.out.below hb);have HLO:=Hj (HLO.out.below HL.out);have HLB:=Hj (HLB.out.below HL.out);have HT:=Hj (HT.out.below HL.out);have HX1:=Hj (HX1.out.below HL.out);clear hb HC HL;clear HI;have hI:=IsAt.lit (xs:=[4,3]) (n:=2) (Blk.new w11 2 #[.int .i64 4,.int .i64 3]) rfl rfl;have HC:=Hj (level_any 3 7 (some ⟨w11.heap.size,0,none⟩) 2 2 (w11.alloc (.cells #[.int .i64 4,.int .i64 3] 2)));have HI:=Hj hI;clear hI
 go_wp2_with fail
 refine HC.out.mono ?_;rintro e w12 ⟨rfl,hb⟩;have HL:=Hj (show Below w11.heap.size w11 w12 from ((Below.refl _ _).alloc (Nat.le_refl _) _).trans (hb.mono (by simp)));have HKw12:=Hj (HKw11.out.trans (HL.out.mono HKw11.out.size));have HX3:=Hj (HI.out.below hb);have HLO:=Hj (HLO.out.below HL.out);have HLB:=Hj (HLB.out.below HL.out);have HT:=Hj (HT.out.below HL.out);have HX1:=Hj (HX1.out.below HL.out);have HX2:=Hj (HX2.out.below HL.out);clear hb HC HL;clear HI;have kx:=(Kp.refl w12).alloc (.cells #[.int .i64 1,.int .i64 5,.slice (some ⟨w9.heap.size,0,none⟩) 2 2,.int .i64 2,.int .i64 3,.slice (some ⟨w10.heap.size,0,none⟩) 2 2,.int .i64 3,.int .i64 7,.slice (some ⟨w11.heap.size,0,none⟩) 2 2] 64);have hJ:=LvAt.three (Blk.new w12 64 #[.int .i64 1,.int .i64 5,.slice (some ⟨w9.heap.size,0,none⟩) 2 2,.int .i64 2,.int .i64 3,.slice (some ⟨w10.heap.size,0,none⟩) 2 2,.int .i64 3,.int .i64 7,.slice (some ⟨w11.heap.size,0,none⟩) 2 2]) (HX1.out.below kx) (HX2.out.below kx) (HX3.out.below kx);have HC:=Hj (told_any (some ⟨w12.heap.size,0,none⟩) 3 2 3 exO (w12.alloc (.cells #[.int .i64 1,.int .i64 5,.slice (some ⟨w9.heap.size,0,none⟩) 2 2,.int .i64 2,.int .i64 3,.slice (some ⟨w10.heap.size,0,none⟩) 2 2,.int .i64 3,.int .i64 7,.slice (some ⟨w11.heap.size,0,none⟩) 2 2] 64)) hJ (by omega) (by omega));clear hJ kx
 go_wp2_with fail
 refine HC.out.mono ?_;rintro e w13 ⟨B9,d9,rfl,hM,hb⟩;have HL:=Hj (show Below w12.heap.size w12 w13 from ((Below.refl _ _).alloc (Nat.le_refl _) _).trans (hb.mono (by simp)));have HKw13:=Hj (HKw12.out.trans (HL.out.mono HKw12.out.size));have HM:=Hj hM;clear hM;have HLO:=Hj (HLO.out.below HL.out);have HLB:=Hj (HLB.out.below HL.out);have HT:=Hj (HT.out.below HL.out);have HX1:=Hj (HX1.out.below HL.out);have HX2:=Hj (HX2.out.below HL.out);have HX3:=Hj (HX3.out.below HL.out);clear hb HC HL;have HC:=Hj (same24_yes T1 B9 3 2 t1 d9 exO w13 HT.out HM.out (by omega) (by omega));clear HM
 go_wp2_with fail
 refine HC.out.mono ?_;rintro e w14 ⟨rfl,hb⟩;have HL:=Hj (show Below w13.heap.size w13 w14 from hb);have HKw14:=Hj (HKw13.out.trans (HL.out.mono HKw13.out.size));have HLO:=Hj (HLO.out.below HL.out);have HLB:=Hj (HLB.out.below HL.out);have HT:=Hj (HT.out.below HL.out);have HX1:=Hj (HX1.out.below HL.out);have HX2:=Hj (HX2.out.below HL.out);have HX3:=Hj (HX3.out.below HL.out);clear hb HC HL;clear HT HX1 HX2 HX3;have hI:=IsAt.lit (xs:=[5,5]) (n:=2) (Blk.new w14 2 #[.int .i64 5,.int .i64 5]) rfl rfl;have HC:=Hj (shares_yes true (some ⟨mg,0,none⟩) (some ⟨w14.heap.size,0,none⟩) 3 2 cap 2 exO 10 17 (w14.alloc (.cells #[.int .i64 5,.int .i64 5] 2)) (HLO.out.below ((Kp.refl w14).alloc _)) HVO.out (by omega) (by rw [exO_tot];omega) (by omega) (by rw [exO_s10];exact hI) exO_c10.symm (by unfold Fits;omega) (by rw [exO_s10];simp [Fits]));clear hI
 go_wp2_with fail
 refine HC.out.mono ?_;rintro e w15 ⟨rfl,hb⟩;have HL:=Hj (show Below w14.heap.size w14 w15 from ((Below.refl _ _).alloc (Nat.le_refl _) _).trans (hb.mono (by simp)));have HKw15:=Hj (HKw14.out.trans (HL.out.mono HKw14.out.size));have HLO:=Hj (HLO.out.below HL.out);have HLB:=Hj (HLB.out.below HL.out);clear hb HC HL;have hI:=IsAt.lit (xs:=[6,6]) (n:=2) (Blk.new w15 2 #[.int .i64 6,.int .i64 6]) rfl rfl;have HC:=Hj (shares_yes true (some ⟨mg,0,none⟩) (some ⟨w15.heap.size,0,none⟩) 3 2 cap 2 exO 12 23 (w15.alloc (.cells #[.int .i64 6,.int .i64 6] 2)) (HLO.out.below ((Kp.refl w15).alloc _)) HVO.out (by omega) (by rw [exO_tot];omega) (by omega) (by rw [exO_s12];exact hI) exO_c12.symm (by unfold Fits;omega) (by rw [exO_s12];simp [Fits]));clear hI
 go_wp2_with fail
 refine HC.out.mono ?_;rintro e w16 ⟨rfl,hb⟩;have HL:=Hj (show Below w15.heap.size w15 w16 from ((Below.refl _ _).alloc (Nat.le_refl _) _).trans (hb.mono (by simp)));have HKw16:=Hj (HKw15.out.trans (HL.out.mono HKw15.out.size));have HLO:=Hj (HLO.out.below HL.out);have HLB:=Hj (HLB.out.below HL.out);clear hb HC HL;have HC:=Hj (told_any (some ⟨mh,0,none⟩) 2 2 cbp exB w16 HLB.out (by omega) (by omega))
 go_wp2_with fail
 refine HC.out.mono ?_;rintro e w17 ⟨T2,t2,rfl,hM,hb⟩;have HL:=Hj (show Below w16.heap.size w16 w17 from hb);have HKw17:=Hj (HKw16.out.trans (HL.out.mono HKw16.out.size));have HT:=Hj hM;clear hM;have HLO:=Hj (HLO.out.below HL.out);have HLB:=Hj (HLB.out.below HL.out);clear hb HC HL;have hI:=IsAt.lit (xs:=[4,3]) (n:=2) (Blk.new w17 2 #[.int .i64 4,.int .i64 3]) rfl rfl;have HC:=Hj (level_any 9 7 (some ⟨w17.heap.size,0,none⟩) 2 2 (w17.alloc (.cells #[.int .i64 4,.int .i64 3] 2)));have HI:=Hj hI;clear hI
 go_wp2_with fail
 refine HC.out.mono ?_;rintro e w18 ⟨rfl,hb⟩;have HL:=Hj (show Below w17.heap.size w17 w18 from ((Below.refl _ _).alloc (Nat.le_refl _) _).trans (hb.mono (by simp)));have HKw18:=Hj (HKw17.out.trans (HL.out.mono HKw17.out.size));have HX1:=Hj (HI.out.below hb);have HLO:=Hj (HLO.out.below HL.out);have HLB:=Hj (HLB.out.below HL.out);have HT:=Hj (HT.out.below HL.out);clear hb HC HL;clear HI;have hI:=IsAt.lit (xs:=[4,0]) (n:=2) (Blk.new w18 2 #[.int .i64 4,.int .i64 0]) rfl rfl;have HC:=Hj (level_any 2 4 (some ⟨w18.heap.size,0,none⟩) 2 2 (w18.alloc (.cells #[.int .i64 4,.int .i64 0] 2)));have HI:=Hj hI;clear hI
 go_wp2_with fail
 refine HC.out.mono ?_;rintro e w19 ⟨rfl,hb⟩;have HL:=Hj (show Below w18.heap.size w18 w19 from ((Below.refl _ _).alloc (Nat.le_refl _) _).trans (hb.mono (by simp)));have HKw19:=Hj (HKw18.out.trans (HL.out.mono HKw18.out.size));have HX2:=Hj (HI.out.below hb);have HLO:=Hj (HLO.out.below HL.out);have HLB:=Hj (HLB.out.below HL.out);have HT:=Hj (HT.out.below HL.out);have HX1:=Hj (HX1.out.below HL.out);clear hb HC HL;clear HI;have kx:=(Kp.refl w19).alloc (.cells #[.int .i64 9,.int .i64 7,.slice (some ⟨w17.heap.size,0,none⟩) 2 2,.int .i64 2,.int .i64 4,.slice (some ⟨w18.heap.size,0,none⟩) 2 2] 64);have hJ:=LvAt.two (Blk.new w19 64 #[.int .i64 9,.int .i64 7,.slice (some ⟨w17.heap.size,0,none⟩) 2 2,.int .i64 2,.int .i64 4,.slice (some ⟨w18.heap.size,0,none⟩) 2 2]) (HX1.out.below kx) (HX2.out.below kx);have HC:=Hj (told_any (some ⟨w19.heap.size,0,none⟩) 2 2 2 exB (w19.alloc (.cells #[.int .i64 9,.int .i64 7,.slice (some ⟨w17.heap.size,0,none⟩) 2 2,.int .i64 2,.int .i64 4,.slice (some ⟨w18.heap.size,0,none⟩) 2 2] 64)) hJ (by omega) (by omega));clear hJ kx
 go_wp2_with fail
 refine HC.out.mono ?_;rintro e w20 ⟨B9,d9,rfl,hM,hb⟩;have HL:=Hj (show Below w19.heap.size w19 w20 from ((Below.refl _ _).alloc (Nat.le_refl _) _).trans (hb.mono (by simp)));have HKw20:=Hj (HKw19.out.trans (HL.out.mono HKw19.out.size));have HM:=Hj hM;clear hM;have HLO:=Hj (HLO.out.below HL.out);have HLB:=Hj (HLB.out.below HL.out);have HT:=Hj (HT.out.below HL.out);have HX1:=Hj (HX1.out.below HL.out);have HX2:=Hj (HX2.out.below HL.out);clear hb HC HL;have HC:=Hj (same24_yes T2 B9 2 2 t2 d9 exB w20 HT.out HM.out (by omega) (by omega));clear HM
 go_wp2_with fail
 refine HC.out.mono ?_;rintro e w21 ⟨rfl,hb⟩;have HL:=Hj (show Below w20.heap.size w20 w21 from hb);have HKw21:=Hj (HKw20.out.trans (HL.out.mono HKw20.out.size));have HLO:=Hj (HLO.out.below HL.out);have HLB:=Hj (HLB.out.below HL.out);have HT:=Hj (HT.out.below HL.out);have HX1:=Hj (HX1.out.below HL.out);have HX2:=Hj (HX2.out.below HL.out);clear hb HC HL;clear HT HX1 HX2;have hI:=IsAt.lit (xs:=[2,3]) (n:=2) (Blk.new w21 2 #[.int .i64 2,.int .i64 3]) rfl rfl;have HC:=Hj (shares_yes false (some ⟨mh,0,none⟩) (some ⟨w21.heap.size,0,none⟩) 2 2 cbp 2 exB 5 45 (w21.alloc (.cells #[.int .i64 2,.int .i64 3] 2)) (HLB.out.below ((Kp.refl w21).alloc _)) HVB.out (by omega) (by rw [exB_tot];omega) (by omega) (by rw [exB_s5];exact hI) exB_c5.symm (by unfold Fits;omega) (by rw [exB_s5];simp [Fits]));clear hI
 go_wp2_with fail
 refine HC.out.mono ?_;rintro e w22 ⟨rfl,hb⟩;have HL:=Hj (show Below w21.heap.size w21 w22 from ((Below.refl _ _).alloc (Nat.le_refl _) _).trans (hb.mono (by simp)));have HKw22:=Hj (HKw21.out.trans (HL.out.mono HKw21.out.size));have HLO:=Hj (HLO.out.below HL.out);have HLB:=Hj (HLB.out.below HL.out);clear hb HC HL;go_wp2;go_ret;exact ⟨rfl,HKw22.out⟩
end Go.Proofs.YtjajigkacccdgaaGreat
namespace Go.Proofs.YtjajigkacccdgaaGreat
open Go.RowKit
open Wd
attribute [local go_sem ↓] Go.wp_at_zero Go.wp_at_succ
theorem wq_zero (w:World):WQ w ((0:Int):Rat) none 0 0 none 0 0:=⟨Nat.le_refl _,Nat.le_refl _,by rw [show ((0:Int):Rat).num.natAbs=0 from rfl,digs_zero];exact Wat.nil,Wat.nil⟩
end Go.Proofs.YtjajigkacccdgaaGreat
namespace Go.Proofs.YtjajigkacccdgaaGreat
open Go.RowKit
open Wd
theorem CQ.wq {base:Nat} {w:World} {q:Rat} {A A':Option Addr} {k c k' c':Nat} (h:CQ base w q A k c A' k' c'):WQ w q A k c A' k' c':=⟨h.1,h.2.1,h.2.2.1,h.2.2.2.1⟩
end Go.Proofs.YtjajigkacccdgaaGreat
namespace Go.Proofs.YtjajigkacccdgaaGreat
open Go.Shelf Go.RowKit Go.Lib Go.Sort
open Wd
end Go.Proofs.YtjajigkacccdgaaGreat
namespace Go.Proofs.YtjajigkacccdgaaGreat
open Go.RowKit
open Go.Sort (Holds)
open Wd
def absI (p:Int):Int:=if p<0 then -p else p
def absL (l:List (Int×Int)):List Int:=l.map fun s=>absI s.2
def absS (ls:List (List (Int×Int))):List Int:=ls.flatMap absL
def dists (os bs:List (List (Int×Int))):List Int:=0 :: (absS os ++ absS bs)
def PrZ (os bs:List (List (Int×Int))) (p:Int):Prop :=
 (absI p∈dists os bs∧balB os bs ((p:Int):Rat)=true∧(∀ d∈dists os bs,d<absI p→balB os bs ((d:Int):Rat)=false∧balB os bs ((-d:Int):Rat)=false)∧(p<0→balB os bs ((-p:Int):Rat)=false)) ∨
  (p=0∧∀ d∈dists os bs,balB os bs ((d:Int):Rat)=false∧balB os bs ((-d:Int):Rat)=false)
structure RunV (os bs:List (List (Int×Int))) (z p wf:Int) (xs ys:List Int) (S D:List St.Lv):Prop where
 isS:St.IsLv true os.length (St.tri 0 os) S
 isD:St.IsLv false bs.length (St.tri 0 bs) D
 vS:VL true os.length S
 vD:VL false bs.length D
 tr:TrZ S D z
 pr:PrZ os bs p
 x:xs=shAll S os.length z S.length
 y:ys=shAll D bs.length z D.length
 w:wf=costI (lvQ D) z D.length-costI (lvQ S) z S.length
def PB (k:Nat):Nat:=4294967296 ^ (7*3 ^ k)
theorem pb_zero:18446744073709551616<PB 0:=by decide
def Lv (k:Nat) (q:Rat):Prop:=q.num.natAbs<PB k∧q.den<PB k
theorem lv_mk {n:Int} {d N:Nat} (hd:d≠0) (h1:n.natAbs<N) (h2:d<N):(mkRat n d).num.natAbs<N∧(mkRat n d).den<N:=by
 rw [mk_num _ _ hd,mk_den _ _ hd,Int.natAbs_tdiv,Int.natAbs_natCast];exact ⟨Nat.lt_of_le_of_lt (Nat.div_le_self _ _) h1,Nat.lt_of_le_of_lt (Nat.div_le_self _ _) h2⟩
theorem Lv.self (q:Rat):q=mkRat q.num ((q.den:Nat):Int).natAbs:=by rw [Int.natAbs_natCast,Rat.mkRat_self]
section
variable {k:Nat} {a b:Rat}
end
def QK (k:Nat) (w:World) (neg:Bool) (A:Option Addr) (n c:Nat) (neg':Bool) (A':Option Addr) (n' c':Nat) (q:Rat):Prop:=QAt (PB k) (PB k) w neg A n c neg' A' n' c' q
section
variable {k j:Nat} {w w':World} {an an' bn bn':Bool} {aA aA' bA bA':Option Addr} {ak ac ak' ac' bk bc bk' bc':Nat} {q qa qb:Rat}
end
def RQ (w:World) (q:Rat) (A:Option Addr) (k c:Nat) (A':Option Addr) (k' c':Nat):Prop:=k≤c∧k'≤c'∧Wat w A k (digs q.num.natAbs)∧Wat w A' k' (denW q.den)
section
variable {w w':World} {q:Rat} {A A':Option Addr} {k c k' c':Nat}
theorem RQ.below (h:RQ w q A k c A' k' c') (hb:Below w.heap.size w w'):RQ w' q A k c A' k' c':=⟨h.1,h.2.1,h.2.2.1.below hb,h.2.2.2.below hb⟩
end
end Go.Proofs.YtjajigkacccdgaaGreat
