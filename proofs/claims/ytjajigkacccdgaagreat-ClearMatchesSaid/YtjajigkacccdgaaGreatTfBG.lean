/-
Lemmas of the walk; no further conditions.
-/
import Derived.Test.YtjajigkacccdgaaGreatTfBF
set_option linter.unusedVariables false
set_option linter.unusedSimpArgs false
set_option maxRecDepth 100000
set_option maxHeartbeats 16000000
namespace Go.Proofs.YtjajigkacccdgaaGreat
open Go.RowKit
open Wd
def OwR (w:World) (cs:Array Value) (g0:Nat) (lo up:Nat→Int) (n:Nat) (more:Int) (k:Nat) (wr:World):Prop :=
 Below w.heap.size w wr∧IRow wr g0 (owP lo up n more k)∧Blk wr w.heap.size 42 cs
theorem wl_le (side:Int) (q:Rat) {up:Bool} {l:List (Int×Int)} (h:chk up l=0):wlL side q l≤wlM side q l:=by
 have hb:∀ s∈l,0≤s.1:=fun s hs=>Int.le_of_lt (chk_pos h s hs);unfold wlL wlM;exact sumI_le fun s hs=>by
  have:=hb s hs;split<;>split<;>first|omega|(exfalso;grind)
theorem rown_o (A:Option Addr) (n c:Nat) (ls:List (List (Int×Int))) (an an':Bool) (aA aA':Option Addr) (ak ac ak' ac':Nat) (q:Rat) (more:Int) (w:World) (h:CsAt w A n ls) (hq:QS 7 w an aA ak ac an' aA' ak' ac' q) (hk:∀ l∈ls,chk true l=0) (hn:n≤1000) (hm:0≤more) (hm2:more≤1000000000) :
  Calls Tryz.prog 101 #[.slice A n c,.agg #[.bool an,.slice aA ak ac,.bool an',.slice aA' ak' ac'],.int .i64 more,.bool false] w fun e w'=>∃ g,e=.returned (.slice (some ⟨g,0,none⟩) n n)∧IRow w' g (owL (fun i=>wlL (-1) q (ls[i]?.getD [])) (fun i=>wlM (-1) q (ls[i]?.getD [])) n more)∧w.heap.size≤g∧Below w.heap.size w w':=by
 have HX:=Hj h;have HQ:=Hj hq;have HK:=Hj hk;have HLN:=Hj h.1;have HN:=Hj hn;obtain ⟨lo,hlo⟩:∃ f:Nat→Int,f=fun i=>wlL (-1) q (ls[i]?.getD []):=⟨_,rfl⟩;obtain ⟨up,hup⟩:∃ f:Nat→Int,f=fun i=>wlM (-1) q (ls[i]?.getD []):=⟨_,rfl⟩;rw [← hlo,← hup];have hlu:∀ i,i<n→0≤lo i∧lo i≤up i∧up i≤3000000:=fun i hi=>by
  have hb:=wl_bd3 (hk _ (getD_mem (d:=[]) (show i<ls.length by have:=h.1;omega))) (-1) q;have hm:=wl_le (-1) q (hk _ (getD_mem (d:=[]) (show i<ls.length by have:=h.1;omega)));rw [hlo,hup];exact ⟨hb.1.1,hm,hb.2.2⟩
 have HLO:=Hj hlo;have HUP:=Hj hup;have HLUA:=Hj hlu;have HRBA:=Hj (fun k (hk:k≤n)=>owR_bd (lo:=lo) (up:=up) (n:=n) (fun i hi=>(hlu i hi).2.1) hm k hk);have HM2:=Hj hm2;have hmk1:=run_make_ints n (by omega) (w.alloc (.cells #[.bool an,.slice aA ak ac,.bool an',.slice aA' ak' ac'] 42));clear h hq hk hlo hup hlu hm hm2;go_enter Tryz.func101,Tryz.ntmps101;have hB0:=(Blk.new w 42 #[.bool an,.slice aA ak ac,.bool an',.slice aA' ak' ac']);have hBW:Below w.heap.size w (w.alloc (.cells #[.bool an,.slice aA ak ac,.bool an',.slice aA' ak' ac'] 42)):=(Below.refl _ _).alloc (Nat.le_refl _) _;have hsz:(w.alloc (.cells #[.bool an,.slice aA ak ac,.bool an',.slice aA' ak' ac'] 42)).heap.size=w.heap.size+1:=by simp
 generalize hWe:w.alloc (.cells #[.bool an,.slice aA ak ac,.bool an',.slice aA' ak' ac'] 42)=W at hB0 hBW hsz;have HST:=Hj (show OwR w #[.bool an,.slice aA ak ac,.bool an',.slice aA' ak' ac'] W.heap.size lo up n more 0 (W.alloc (.cells (Array.replicate n (.int .i64 0)) 2)) from by
  refine ⟨hBW.alloc hBW.size _,?_⟩;rw [owP_zero];exact ⟨IRow.start W n,hB0.alloc _⟩)
 have HG0:=Hj (show w.heap.size≤W.heap.size by omega);have HGN:=Hj (show w.heap.size≠W.heap.size by omega);have x0:IntKind.i64.wrap ((n:Int)-1)=(n:Int)-1:=IntWalk.i64_in _ (by omega);rw [hsz] at HST HG0 HGN;rw [← hWe] at HST;clear hB0 hBW hsz hWe
 go_wp2_with fail
 generalize (w.alloc (.cells #[.bool an,.slice aA ak ac,.bool an',.slice aA' ak' ac'] 42)).alloc (.cells (Array.replicate n (.int .i64 0)) 2)=V at *;generalize w.heap.size+1=g0 at *;clear hmk1
 go_loopw [2,10] (fun th t wr=>∃ (k:Nat) (r ci:Int),k≤n∧th=.int .i64 r∧t=.int .i64 ci∧Hid (ci=(n:Int)-1-(k:Int))∧Hid (r=owR lo up n more k)∧Hid (OwR w #[.bool an,.slice aA ak ac,.bool an',.slice aA' ak' ac'] g0 lo up n more k wr)) (fun _ t _=>(intOf t+1).toNat)
 case atStart=>exact ⟨0,more,(n:Int)-1,Nat.zero_le _,rfl,rfl,by show (n:Int)-1=(n:Int)-1-((0:Nat):Int);omega,rfl,HST.out⟩
 case round =>
  clear HST;obtain ⟨k,r,ci,hkk,rfl,rfl,hci,hre,HR0⟩:=hrel;obtain ⟨wz,rfl⟩:∃ u,u=wr:=⟨_,rfl⟩;by_cases hkn:k<n
  ·obtain ⟨cN,rfl⟩:∃ cN:Nat,ci=(cN:Int):=⟨n-1-k,by have:=hci.out;omega⟩;have HKC:=Hj (show n-1-k=cN by have:=hci.out;omega);have hcn:cN<n:=by have:=hci.out;omega
   have HR:=Hj (show Below w.heap.size w wz∧IRow wz g0 (owP lo up n more k)∧Blk wz w.heap.size 42 #[.bool an,.slice aA ak ac,.bool an',.slice aA' ak' ac'] from ⟨HR0.out.1,HR0.out.2.1,HR0.out.2.2⟩);have HBQ:=Hj HR.out.2.2;obtain ⟨b,o,rfl,hbr,hc1⟩:=(HX.out.below HR.out.1).2 (by omega);obtain ⟨A',n',c',hcl,hst⟩:=hc1 cN hcn;have hkl:=HK.out _ (getD_mem (d:=[]) (show cN<ls.length by have:=HLN.out;omega));have HQW:=Hj (HQ.out.below HR.out.1);have TD:=Hj (fun W (hW:Kp wz W)=>rsupplyAt_any A' n' c' _ an an' aA aA' ak ac ak' ac' q W (hst.below hW) (HQW.out.below hW) hkl);have TS:=Hj (fun W (hW:Kp wz W)=>rsupplyAt_some A' n' c' _ an an' aA aA' ak ac ak' ac' q W (hst.below hW) (HQW.out.below hW));have HLA:=Hj (show lo cN=wlL (-1) q (ls[cN]?.getD []) by rw [HLO.out]);have HUB:=Hj (show up cN=wlM (-1) q (ls[cN]?.getD []) by rw [HUP.out]);have HLU:=Hj (show (0≤wlL (-1) q (ls[cN]?.getD [])∧wlL (-1) q (ls[cN]?.getD [])≤wlM (-1) q (ls[cN]?.getD []))∧wlM (-1) q (ls[cN]?.getD [])≤3000000 from by
    have:=HLUA.out cN hcn;rw [HLA.out,HUB.out] at this;exact ⟨⟨this.1,this.2.1⟩,this.2.2⟩)
   have HRB:=Hj (show 0≤r∧r≤1000000000 from by
    have:=HRBA.out k (by omega);rw [← hre.out] at this;have:=HM2.out;omega)
   have HRE:=Hj (show owR lo up n more k=r from hre.out.symm);have i1:(0:Int)≤(cN:Int):=Int.natCast_nonneg _;have i2:(cN:Int)<(n:Int):=by exact_mod_cast hcn
   generalize wlL (-1) q (ls[cN]?.getD [])=la at *;generalize wlM (-1) q (ls[cN]?.getD [])=ub at *;clear HR0 hci hre hc1 hst hkl
   go_wp2_with fail
   have HS:=Hj (show ∀ w',Kp wz w'→(w'.cell? ⟨b,o+cN,none⟩=some (.slice A' n' c')∧w'.cell? ⟨w.heap.size,0,none⟩=some (.bool an)∧w'.cell? ⟨w.heap.size,1,none⟩=some (.slice aA ak ac)∧w'.cell? ⟨w.heap.size,2,none⟩=some (.bool an')∧w'.cell? ⟨w.heap.size,3,none⟩=some (.slice aA' ak' ac'))∧Kp wz w' from fun w' hk=>⟨⟨(Below.cell hk (p:=⟨b,_,none⟩) hbr).trans hcl,(Kp.blk hk HBQ.out).cell 0,(Kp.blk hk HBQ.out).cell 1,(Kp.blk hk HBQ.out).cell 2,(Kp.blk hk HBQ.out).cell 3⟩,hk⟩);refine wp_region_held_drew (S:=fun w'=>(w'.cell? ⟨b,o+cN,none⟩=some (.slice A' n' c')∧w'.cell? ⟨w.heap.size,0,none⟩=some (.bool an)∧w'.cell? ⟨w.heap.size,1,none⟩=some (.slice aA ak ac)∧w'.cell? ⟨w.heap.size,2,none⟩=some (.bool an')∧w'.cell? ⟨w.heap.size,3,none⟩=some (.slice aA' ak' ac'))∧Kp wz w') (by kernel_rfl) (HS.out _ (Kp.drew (Kp.refl wz))) (fun hHeld=>?_);refine' tkk 0 rfl (by kernel_rfl) (fun _ _ _ h=>h) (.inl ⟨by rfl,?_⟩) (by assumption) ?_;rotate_left
   ·(intro w hSw;(try dsimp only at hSw);(try simp only [p1,p2,p3]);go_simp;first|done|with_reducible rfl)
   (try simp only [Act.put,p1,p2,p3,p4,p5,p6])
   refine' tkk 1 rfl (by kernel_rfl) (fun _ _ _ h=>h) (.inl ⟨by rfl,?_⟩) (by assumption) ?_;rotate_left
   ·(intro w hSw;(try dsimp only at hSw);(try simp only [p1,p2,p3]);go_simp;first|done|with_reducible rfl)
   (try simp only [Act.put,p1,p2,p3,p4,p5,p6])
   refine' tkk 2 rfl (by kernel_rfl) (fun _ _ _ h=>h) (.inl ⟨by rfl,?_⟩) (by assumption) ?_;rotate_left
   ·(intro w hSw;(try dsimp only at hSw);(try simp only [p1,p2,p3]);go_simp;first|done|with_reducible rfl)
   (try simp only [Act.put,p1,p2,p3,p4,p5,p6])
   refine' tkk 3 rfl (by kernel_rfl) (fun _ _ _ h=>h) (.inl ⟨by rfl,?_⟩) (by assumption) ?_;rotate_left
   ·(intro w hSw;(try dsimp only at hSw);(try simp only [p1,p2,p3]);go_simp;first|done|with_reducible rfl)
   (try simp only [Act.put,p1,p2,p3,p4,p5,p6])
   refine' tkk 4 rfl (by kernel_rfl) (fun _ _ _ h=>h) (.inl ⟨by rfl,?_⟩) (by assumption) ?_;rotate_left
   ·(intro w hSw;(try dsimp only at hSw);(try simp only [p1,p2,p3]);go_simp;first|done|with_reducible rfl)
   (try simp only [Act.put,p1,p2,p3,p4,p5,p6])
   refine wpAnyH_ready (rs:=[5]) (by kernel_rfl) (by simp) ?_;refine AllReadyH.cons rfl (fun K hK=>?_) AllReadyH.nil
   (try simp only [p1,p2,p3])
   go_simp;have hk:=And.right ‹_∧Kp wz _›;refine (TD.out _ hk).mono ?_;rintro e v5 ⟨rfl,hbx⟩;have hp:Kp wz v5:=Kp.trans hk hbx;clear hk hbx
   (try (go_wp2_with fail))
   refine hK.out _ _ ?k1 (fun hHeld1=>?n1)
   case k1=>((try dsimp only);with_reducible first|(refine HS.out _ ?_;assumption)|(refine HS.out _ (Kp.drew ?_);assumption)|(refine' HS.out _ (Kp.drew (And.right ?_));rotate_left;assumption))
   clear hK K
   (try simp only [Act.put,p1,p2,p3,p4,p5,p6])
   refine' tkk 6 rfl (by kernel_rfl) (fun _ _ _ h=>h) (.inl ⟨by rfl,?_⟩) (by assumption) ?_;rotate_left
   ·(intro w hSw;(try dsimp only at hSw);(try simp only [p1,p2,p3]);go_simp;first|done|with_reducible rfl)
   (try simp only [Act.put,p1,p2,p3,p4,p5,p6])
   refine' tkk 7 rfl (by kernel_rfl) (fun _ _ _ h=>h) (.inl ⟨by rfl,?_⟩) (by assumption) ?_;rotate_left
   ·(intro w hSw;(try dsimp only at hSw);(try simp only [p1,p2,p3]);go_simp;first|done|with_reducible rfl)
   (try simp only [Act.put,p1,p2,p3,p4,p5,p6])
   refine' tkk 8 rfl (by kernel_rfl) (fun _ _ _ h=>h) (.inl ⟨by rfl,?_⟩) (by assumption) ?_;rotate_left
   ·(intro w hSw;(try dsimp only at hSw);(try simp only [p1,p2,p3]);go_simp;first|done|with_reducible rfl)
   (try simp only [Act.put,p1,p2,p3,p4,p5,p6])
   refine' tkk 9 rfl (by kernel_rfl) (fun _ _ _ h=>h) (.inl ⟨by rfl,?_⟩) (by assumption) ?_;rotate_left
   ·(intro w hSw;(try dsimp only at hSw);(try simp only [p1,p2,p3]);go_simp;first|done|with_reducible rfl)
   (try simp only [Act.put,p1,p2,p3,p4,p5,p6])
   refine' tkk 10 rfl (by kernel_rfl) (fun _ _ _ h=>h) (.inl ⟨by rfl,?_⟩) (by assumption) ?_;rotate_left
   ·(intro w hSw;(try dsimp only at hSw);(try simp only [p1,p2,p3]);go_simp;first|done|with_reducible rfl)
   (try simp only [Act.put,p1,p2,p3,p4,p5,p6])
   refine' tkk 11 rfl (by kernel_rfl) (fun _ _ _ h=>h) (.inl ⟨by rfl,?_⟩) (by assumption) ?_;rotate_left
   ·(intro w hSw;(try dsimp only at hSw);(try simp only [p1,p2,p3]);go_simp;first|done|with_reducible rfl)
   (try simp only [Act.put,p1,p2,p3,p4,p5,p6])
   refine' tkk 12 rfl (by kernel_rfl) (fun _ _ _ h=>h) (.inl ⟨by rfl,?_⟩) (by assumption) ?_;rotate_left
   ·(intro w hSw;(try dsimp only at hSw);(try simp only [p1,p2,p3]);go_simp;first|done|with_reducible rfl)
   (try simp only [Act.put,p1,p2,p3,p4,p5,p6])
   refine wpAnyH_done (by kernel_rfl) ?_ _
   (try clear hHeld1)
   clear HS;have HY:=Hj hp;have hrow:=(HR.out.2.1.below hp);have hrc:=hrow.cell (i:=cN) (by rw [owP_len];exact hcn);have hrf:=hrow.frozen cN;obtain ⟨hz1,hz2⟩:=HLU.out;obtain ⟨hr1,hr2⟩:=HRB.out;obtain ⟨sl,hsl⟩:∃ s,s=ub-la:=⟨_,rfl⟩;have x1:IntKind.i64.wrap (ub-la)=sl:=by rw [IntWalk.i64_in _ (by omega)];exact hsl.symm
   obtain ⟨y,hy⟩:∃ y,y=min r sl:=⟨_,rfl⟩;have m1:min r sl=y:=hy.symm;have m2:(if sl<r then sl else r)=y:=by split<;>omega
   have x2:IntKind.i64.wrap (la+y)=la+y:=IntWalk.i64_in _ (by omega);have x3:IntKind.i64.wrap (r-y)=r-y:=IntWalk.i64_in _ (by omega);have x4:=wrap_dec hcn (show n≤1000000 by have:=HN.out;omega);have i1:(0:Int)≤(cN:Int):=Int.natCast_nonneg _;have i2:(cN:Int)<(n:Int):=by exact_mod_cast hcn
   have HF:=Hj (show OwR w #[.bool an,.slice aA ak ac,.bool an',.slice aA' ak' ac'] g0 lo up n more (k+1) (v5.setCell ⟨g0,cN,none⟩ (.int .i64 (la+y))) from by
    have hs:=owP_step (lo:=lo) (up:=up) (more:=more) hkn HKC.out;have e:owX lo up n more cN=la+y:=by
     have e3:n-1-cN=k:=by have:=HKC.out;omega
     unfold owX;rw [e3,HRE.out,HLA.out,HUB.out,hy,hsl]
    rw [e] at hs;refine ⟨HR.out.1.trans (Below.mono hp HR.out.1.size) |>.setCell (p:=⟨g0,cN,none⟩) HG0.out _,?_⟩;rw [hs];exact ⟨hrow.set cN (la+y),(HBQ.out.below hp HBQ.out.lt).far (by have:=HGN.out;simpa using this) _⟩)
   have HC2:=Hj (dec_step HKC.out hkn);have HRN:=Hj (show owR lo up n more (k+1)=r-y from by
    have hk9:=HKC.out;rw [owR,hk9,HRE.out,HLA.out,HUB.out,hy,hsl])
   clear hp hrow hz1 hz2 hr1 hr2 hy HR hcl hbr hsl;go_wp2;go_roundw
   case rel=>exact ⟨k+1,r-y,(cN:Int)-1,by omega,rfl,rfl,HC2.out,HRN.out.symm,HF.out⟩
   case measure=>simp [intOf]<;>omega
  ·obtain rfl:k=n:=by omega
   have hci2:=hci.out;obtain rfl:ci = -1:=by omega
   have hrw:=HR0.out;unfold OwR at hrw;rw [owP_all] at hrw;have HF:=Hj (And.intro hrw.2.1 (And.intro HG0.out hrw.1));clear HR0 hci hci2 hre hrw;go_wp2;go_ret;exact ⟨g0,rfl,HF.out.1,HF.out.2.1,HF.out.2.2⟩
theorem rown_b (A:Option Addr) (n c:Nat) (ls:List (List (Int×Int))) (an an':Bool) (aA aA':Option Addr) (ak ac ak' ac':Nat) (q:Rat) (more:Int) (w:World) (h:CsAt w A n ls) (hq:QS 7 w an aA ak ac an' aA' ak' ac' q) (hk:∀ l∈ls,chk false l=0) (hn:n≤1000) (hm:0≤more) (hm2:more≤1000000000) :
  Calls Tryz.prog 101 #[.slice A n c,.agg #[.bool an,.slice aA ak ac,.bool an',.slice aA' ak' ac'],.int .i64 more,.bool true] w fun e w'=>∃ g,e=.returned (.slice (some ⟨g,0,none⟩) n n)∧IRow w' g (owL (fun i=>wlL 1 q (ls[i]?.getD [])) (fun i=>wlM 1 q (ls[i]?.getD [])) n more)∧w.heap.size≤g∧Below w.heap.size w w':=by
 have HX:=Hj h;have HQ:=Hj hq;have HK:=Hj hk;have HLN:=Hj h.1;have HN:=Hj hn;obtain ⟨lo,hlo⟩:∃ f:Nat→Int,f=fun i=>wlL 1 q (ls[i]?.getD []):=⟨_,rfl⟩;obtain ⟨up,hup⟩:∃ f:Nat→Int,f=fun i=>wlM 1 q (ls[i]?.getD []):=⟨_,rfl⟩;rw [← hlo,← hup];have hlu:∀ i,i<n→0≤lo i∧lo i≤up i∧up i≤3000000:=fun i hi=>by
  have hb:=wl_bd3 (hk _ (getD_mem (d:=[]) (show i<ls.length by have:=h.1;omega))) 1 q;have hm:=wl_le 1 q (hk _ (getD_mem (d:=[]) (show i<ls.length by have:=h.1;omega)));rw [hlo,hup];exact ⟨hb.1.1,hm,hb.2.2⟩
 have HLO:=Hj hlo;have HUP:=Hj hup;have HLUA:=Hj hlu;have HRBA:=Hj (fun k (hk:k≤n)=>owR_bd (lo:=lo) (up:=up) (n:=n) (fun i hi=>(hlu i hi).2.1) hm k hk);have HM2:=Hj hm2;have hmk1:=run_make_ints n (by omega) (w.alloc (.cells #[.bool an,.slice aA ak ac,.bool an',.slice aA' ak' ac'] 42));clear h hq hk hlo hup hlu hm hm2;go_enter Tryz.func101,Tryz.ntmps101;have hB0:=(Blk.new w 42 #[.bool an,.slice aA ak ac,.bool an',.slice aA' ak' ac']);have hBW:Below w.heap.size w (w.alloc (.cells #[.bool an,.slice aA ak ac,.bool an',.slice aA' ak' ac'] 42)):=(Below.refl _ _).alloc (Nat.le_refl _) _;have hsz:(w.alloc (.cells #[.bool an,.slice aA ak ac,.bool an',.slice aA' ak' ac'] 42)).heap.size=w.heap.size+1:=by simp
 generalize hWe:w.alloc (.cells #[.bool an,.slice aA ak ac,.bool an',.slice aA' ak' ac'] 42)=W at hB0 hBW hsz;have HST:=Hj (show OwR w #[.bool an,.slice aA ak ac,.bool an',.slice aA' ak' ac'] W.heap.size lo up n more 0 (W.alloc (.cells (Array.replicate n (.int .i64 0)) 2)) from by
  refine ⟨hBW.alloc hBW.size _,?_⟩;rw [owP_zero];exact ⟨IRow.start W n,hB0.alloc _⟩)
 have HG0:=Hj (show w.heap.size≤W.heap.size by omega);have HGN:=Hj (show w.heap.size≠W.heap.size by omega);have x0:IntKind.i64.wrap ((n:Int)-1)=(n:Int)-1:=IntWalk.i64_in _ (by omega);rw [hsz] at HST HG0 HGN;rw [← hWe] at HST;clear hB0 hBW hsz hWe
 go_wp2_with fail
 generalize (w.alloc (.cells #[.bool an,.slice aA ak ac,.bool an',.slice aA' ak' ac'] 42)).alloc (.cells (Array.replicate n (.int .i64 0)) 2)=V at *;generalize w.heap.size+1=g0 at *;clear hmk1
 go_loopw [2,10] (fun th t wr=>∃ (k:Nat) (r ci:Int),k≤n∧th=.int .i64 r∧t=.int .i64 ci∧Hid (ci=(n:Int)-1-(k:Int))∧Hid (r=owR lo up n more k)∧Hid (OwR w #[.bool an,.slice aA ak ac,.bool an',.slice aA' ak' ac'] g0 lo up n more k wr)) (fun _ t _=>(intOf t+1).toNat)
 case atStart=>exact ⟨0,more,(n:Int)-1,Nat.zero_le _,rfl,rfl,by show (n:Int)-1=(n:Int)-1-((0:Nat):Int);omega,rfl,HST.out⟩
 case round =>
  clear HST;obtain ⟨k,r,ci,hkk,rfl,rfl,hci,hre,HR0⟩:=hrel;obtain ⟨wz,rfl⟩:∃ u,u=wr:=⟨_,rfl⟩;by_cases hkn:k<n
  ·obtain ⟨cN,rfl⟩:∃ cN:Nat,ci=(cN:Int):=⟨n-1-k,by have:=hci.out;omega⟩;have HKC:=Hj (show n-1-k=cN by have:=hci.out;omega);have hcn:cN<n:=by have:=hci.out;omega
   have HR:=Hj (show Below w.heap.size w wz∧IRow wz g0 (owP lo up n more k)∧Blk wz w.heap.size 42 #[.bool an,.slice aA ak ac,.bool an',.slice aA' ak' ac'] from ⟨HR0.out.1,HR0.out.2.1,HR0.out.2.2⟩);have HBQ:=Hj HR.out.2.2;obtain ⟨b,o,rfl,hbr,hc1⟩:=(HX.out.below HR.out.1).2 (by omega);obtain ⟨A',n',c',hcl,hst⟩:=hc1 cN hcn;have hkl:=HK.out _ (getD_mem (d:=[]) (show cN<ls.length by have:=HLN.out;omega));have HQW:=Hj (HQ.out.below HR.out.1);have TD:=Hj (fun W (hW:Kp wz W)=>rdemandAt_any A' n' c' _ an an' aA aA' ak ac ak' ac' q W (hst.below hW) (HQW.out.below hW) hkl);have TS:=Hj (fun W (hW:Kp wz W)=>rsupplyAt_some A' n' c' _ an an' aA aA' ak ac ak' ac' q W (hst.below hW) (HQW.out.below hW));have HLA:=Hj (show lo cN=wlL 1 q (ls[cN]?.getD []) by rw [HLO.out]);have HUB:=Hj (show up cN=wlM 1 q (ls[cN]?.getD []) by rw [HUP.out]);have HLU:=Hj (show (0≤wlL 1 q (ls[cN]?.getD [])∧wlL 1 q (ls[cN]?.getD [])≤wlM 1 q (ls[cN]?.getD []))∧wlM 1 q (ls[cN]?.getD [])≤3000000 from by
    have:=HLUA.out cN hcn;rw [HLA.out,HUB.out] at this;exact ⟨⟨this.1,this.2.1⟩,this.2.2⟩)
   have HRB:=Hj (show 0≤r∧r≤1000000000 from by
    have:=HRBA.out k (by omega);rw [← hre.out] at this;have:=HM2.out;omega)
   have HRE:=Hj (show owR lo up n more k=r from hre.out.symm);have i1:(0:Int)≤(cN:Int):=Int.natCast_nonneg _;have i2:(cN:Int)<(n:Int):=by exact_mod_cast hcn
   generalize wlL 1 q (ls[cN]?.getD [])=la at *;generalize wlM 1 q (ls[cN]?.getD [])=ub at *;clear HR0 hci hre hc1 hst hkl
   go_wp2_with fail
   have HS:=Hj (show ∀ w',Kp wz w'→(w'.cell? ⟨b,o+cN,none⟩=some (.slice A' n' c')∧w'.cell? ⟨w.heap.size,0,none⟩=some (.bool an)∧w'.cell? ⟨w.heap.size,1,none⟩=some (.slice aA ak ac)∧w'.cell? ⟨w.heap.size,2,none⟩=some (.bool an')∧w'.cell? ⟨w.heap.size,3,none⟩=some (.slice aA' ak' ac'))∧Kp wz w' from fun w' hk=>⟨⟨(Below.cell hk (p:=⟨b,_,none⟩) hbr).trans hcl,(Kp.blk hk HBQ.out).cell 0,(Kp.blk hk HBQ.out).cell 1,(Kp.blk hk HBQ.out).cell 2,(Kp.blk hk HBQ.out).cell 3⟩,hk⟩);refine wp_region_held_drew (S:=fun w'=>(w'.cell? ⟨b,o+cN,none⟩=some (.slice A' n' c')∧w'.cell? ⟨w.heap.size,0,none⟩=some (.bool an)∧w'.cell? ⟨w.heap.size,1,none⟩=some (.slice aA ak ac)∧w'.cell? ⟨w.heap.size,2,none⟩=some (.bool an')∧w'.cell? ⟨w.heap.size,3,none⟩=some (.slice aA' ak' ac'))∧Kp wz w') (by kernel_rfl) (HS.out _ (Kp.drew (Kp.refl wz))) (fun hHeld=>?_);refine' tkk 0 rfl (by kernel_rfl) (fun _ _ _ h=>h) (.inl ⟨by rfl,?_⟩) (by assumption) ?_;rotate_left
   ·(intro w hSw;(try dsimp only at hSw);(try simp only [p1,p2,p3]);go_simp;first|done|with_reducible rfl)
   (try simp only [Act.put,p1,p2,p3,p4,p5,p6])
   refine' tkk 1 rfl (by kernel_rfl) (fun _ _ _ h=>h) (.inl ⟨by rfl,?_⟩) (by assumption) ?_;rotate_left
   ·(intro w hSw;(try dsimp only at hSw);(try simp only [p1,p2,p3]);go_simp;first|done|with_reducible rfl)
   (try simp only [Act.put,p1,p2,p3,p4,p5,p6])
   refine' tkk 2 rfl (by kernel_rfl) (fun _ _ _ h=>h) (.inl ⟨by rfl,?_⟩) (by assumption) ?_;rotate_left
   ·(intro w hSw;(try dsimp only at hSw);(try simp only [p1,p2,p3]);go_simp;first|done|with_reducible rfl)
   (try simp only [Act.put,p1,p2,p3,p4,p5,p6])
   refine' tkk 3 rfl (by kernel_rfl) (fun _ _ _ h=>h) (.inl ⟨by rfl,?_⟩) (by assumption) ?_;rotate_left
   ·(intro w hSw;(try dsimp only at hSw);(try simp only [p1,p2,p3]);go_simp;first|done|with_reducible rfl)
   (try simp only [Act.put,p1,p2,p3,p4,p5,p6])
   refine' tkk 4 rfl (by kernel_rfl) (fun _ _ _ h=>h) (.inl ⟨by rfl,?_⟩) (by assumption) ?_;rotate_left
   ·(intro w hSw;(try dsimp only at hSw);(try simp only [p1,p2,p3]);go_simp;first|done|with_reducible rfl)
   (try simp only [Act.put,p1,p2,p3,p4,p5,p6])
   refine wpAnyH_ready (rs:=[5]) (by kernel_rfl) (by simp) ?_;refine AllReadyH.cons rfl (fun K hK=>?_) AllReadyH.nil
   (try simp only [p1,p2,p3])
   go_simp;have hk:=And.right ‹_∧Kp wz _›;refine (TS.out _ hk).mono ?_;rintro e v4 ⟨a9,b9,x9,rfl,hbx⟩;have hp:Kp wz v4:=Kp.trans hk hbx;clear hk hbx
   (try (go_wp2_with fail))
   refine hK.out _ _ ?k2 (fun hHeld2=>?n2)
   case k2=>((try dsimp only);with_reducible first|(refine HS.out _ ?_;assumption)|(refine HS.out _ (Kp.drew ?_);assumption)|(refine' HS.out _ (Kp.drew (And.right ?_));rotate_left;assumption))
   clear hK K
   (try simp only [Act.put,p1,p2,p3,p4,p5,p6])
   refine' tkk 6 rfl (by kernel_rfl) (fun _ _ _ h=>h) (.inl ⟨by rfl,?_⟩) (by assumption) ?_;rotate_left
   ·(intro w hSw;(try dsimp only at hSw);(try simp only [p1,p2,p3]);go_simp;first|done|with_reducible rfl)
   (try simp only [Act.put,p1,p2,p3,p4,p5,p6])
   refine' tkk 7 rfl (by kernel_rfl) (fun _ _ _ h=>h) (.inl ⟨by rfl,?_⟩) (by assumption) ?_;rotate_left
   ·(intro w hSw;(try dsimp only at hSw);(try simp only [p1,p2,p3]);go_simp;first|done|with_reducible rfl)
   (try simp only [Act.put,p1,p2,p3,p4,p5,p6])
   refine' tkk 8 rfl (by kernel_rfl) (fun _ _ _ h=>h) (.inl ⟨by rfl,?_⟩) (by assumption) ?_;rotate_left
   ·(intro w hSw;(try dsimp only at hSw);(try simp only [p1,p2,p3]);go_simp;first|done|with_reducible rfl)
   (try simp only [Act.put,p1,p2,p3,p4,p5,p6])
   refine' tkk 9 rfl (by kernel_rfl) (fun _ _ _ h=>h) (.inl ⟨by rfl,?_⟩) (by assumption) ?_;rotate_left
   ·(intro w hSw;(try dsimp only at hSw);(try simp only [p1,p2,p3]);go_simp;first|done|with_reducible rfl)
   (try simp only [Act.put,p1,p2,p3,p4,p5,p6])
   refine' tkk 10 rfl (by kernel_rfl) (fun _ _ _ h=>h) (.inl ⟨by rfl,?_⟩) (by assumption) ?_;rotate_left
   ·(intro w hSw;(try dsimp only at hSw);(try simp only [p1,p2,p3]);go_simp;first|done|with_reducible rfl)
   (try simp only [Act.put,p1,p2,p3,p4,p5,p6])
   refine' tkk 11 rfl (by kernel_rfl) (fun _ _ _ h=>h) (.inl ⟨by rfl,?_⟩) (by assumption) ?_;rotate_left
   ·(intro w hSw;(try dsimp only at hSw);(try simp only [p1,p2,p3]);go_simp;first|done|with_reducible rfl)
   (try simp only [Act.put,p1,p2,p3,p4,p5,p6])
   refine' tkk 12 rfl (by kernel_rfl) (fun _ _ _ h=>h) (.inl ⟨by rfl,?_⟩) (by assumption) ?_;rotate_left
   ·(intro w hSw;(try dsimp only at hSw);(try simp only [p1,p2,p3]);go_simp;first|done|with_reducible rfl)
   (try simp only [Act.put,p1,p2,p3,p4,p5,p6])
   refine wpAnyH_done (by kernel_rfl) ?_ _
   (try clear hHeld2)
   clear HS TS;have HBV:=Hj hp;clear hp
   go_wp2_with fail
   have HS:=Hj (show ∀ w',Kp wz w'→(w'.cell? ⟨b,o+cN,none⟩=some (.slice A' n' c')∧w'.cell? ⟨w.heap.size,0,none⟩=some (.bool an)∧w'.cell? ⟨w.heap.size,1,none⟩=some (.slice aA ak ac)∧w'.cell? ⟨w.heap.size,2,none⟩=some (.bool an')∧w'.cell? ⟨w.heap.size,3,none⟩=some (.slice aA' ak' ac'))∧Kp wz w' from fun w' hk=>⟨⟨(Below.cell hk (p:=⟨b,_,none⟩) hbr).trans hcl,(Kp.blk hk HBQ.out).cell 0,(Kp.blk hk HBQ.out).cell 1,(Kp.blk hk HBQ.out).cell 2,(Kp.blk hk HBQ.out).cell 3⟩,hk⟩);refine wp_region_held_drew (S:=fun w'=>(w'.cell? ⟨b,o+cN,none⟩=some (.slice A' n' c')∧w'.cell? ⟨w.heap.size,0,none⟩=some (.bool an)∧w'.cell? ⟨w.heap.size,1,none⟩=some (.slice aA ak ac)∧w'.cell? ⟨w.heap.size,2,none⟩=some (.bool an')∧w'.cell? ⟨w.heap.size,3,none⟩=some (.slice aA' ak' ac'))∧Kp wz w') (by kernel_rfl) (HS.out _ (Kp.drew HBV.out)) (fun hHeld=>?_);refine' tkk 0 rfl (by kernel_rfl) (fun _ _ _ h=>h) (.inl ⟨by rfl,?_⟩) (by assumption) ?_;rotate_left
   ·(intro w hSw;(try dsimp only at hSw);(try simp only [p1,p2,p3]);go_simp;first|done|with_reducible rfl)
   (try simp only [Act.put,p1,p2,p3,p4,p5,p6])
   refine' tkk 1 rfl (by kernel_rfl) (fun _ _ _ h=>h) (.inl ⟨by rfl,?_⟩) (by assumption) ?_;rotate_left
   ·(intro w hSw;(try dsimp only at hSw);(try simp only [p1,p2,p3]);go_simp;first|done|with_reducible rfl)
   (try simp only [Act.put,p1,p2,p3,p4,p5,p6])
   refine' tkk 2 rfl (by kernel_rfl) (fun _ _ _ h=>h) (.inl ⟨by rfl,?_⟩) (by assumption) ?_;rotate_left
   ·(intro w hSw;(try dsimp only at hSw);(try simp only [p1,p2,p3]);go_simp;first|done|with_reducible rfl)
   (try simp only [Act.put,p1,p2,p3,p4,p5,p6])
   refine' tkk 3 rfl (by kernel_rfl) (fun _ _ _ h=>h) (.inl ⟨by rfl,?_⟩) (by assumption) ?_;rotate_left
   ·(intro w hSw;(try dsimp only at hSw);(try simp only [p1,p2,p3]);go_simp;first|done|with_reducible rfl)
   (try simp only [Act.put,p1,p2,p3,p4,p5,p6])
   refine' tkk 4 rfl (by kernel_rfl) (fun _ _ _ h=>h) (.inl ⟨by rfl,?_⟩) (by assumption) ?_;rotate_left
   ·(intro w hSw;(try dsimp only at hSw);(try simp only [p1,p2,p3]);go_simp;first|done|with_reducible rfl)
   (try simp only [Act.put,p1,p2,p3,p4,p5,p6])
   refine wpAnyH_ready (rs:=[5]) (by kernel_rfl) (by simp) ?_;refine AllReadyH.cons rfl (fun K hK=>?_) AllReadyH.nil
   (try simp only [p1,p2,p3])
   go_simp;have hk:=And.right ‹_∧Kp wz _›;refine (TD.out _ hk).mono ?_;rintro e v5 ⟨rfl,hbx⟩;have hp:Kp wz v5:=Kp.trans hk hbx;clear hk hbx
   (try (go_wp2_with fail))
   refine hK.out _ _ ?k3 (fun hHeld3=>?n3)
   case k3=>((try dsimp only);with_reducible first|(refine HS.out _ ?_;assumption)|(refine HS.out _ (Kp.drew ?_);assumption)|(refine' HS.out _ (Kp.drew (And.right ?_));rotate_left;assumption))
   clear hK K
   (try simp only [Act.put,p1,p2,p3,p4,p5,p6])
   refine' tkk 6 rfl (by kernel_rfl) (fun _ _ _ h=>h) (.inl ⟨by rfl,?_⟩) (by assumption) ?_;rotate_left
   ·(intro w hSw;(try dsimp only at hSw);(try simp only [p1,p2,p3]);go_simp;first|done|with_reducible rfl)
   (try simp only [Act.put,p1,p2,p3,p4,p5,p6])
   refine' tkk 7 rfl (by kernel_rfl) (fun _ _ _ h=>h) (.inl ⟨by rfl,?_⟩) (by assumption) ?_;rotate_left
   ·(intro w hSw;(try dsimp only at hSw);(try simp only [p1,p2,p3]);go_simp;first|done|with_reducible rfl)
   (try simp only [Act.put,p1,p2,p3,p4,p5,p6])
   refine' tkk 8 rfl (by kernel_rfl) (fun _ _ _ h=>h) (.inl ⟨by rfl,?_⟩) (by assumption) ?_;rotate_left
   ·(intro w hSw;(try dsimp only at hSw);(try simp only [p1,p2,p3]);go_simp;first|done|with_reducible rfl)
   (try simp only [Act.put,p1,p2,p3,p4,p5,p6])
   refine' tkk 9 rfl (by kernel_rfl) (fun _ _ _ h=>h) (.inl ⟨by rfl,?_⟩) (by assumption) ?_;rotate_left
   ·(intro w hSw;(try dsimp only at hSw);(try simp only [p1,p2,p3]);go_simp;first|done|with_reducible rfl)
   (try simp only [Act.put,p1,p2,p3,p4,p5,p6])
   refine' tkk 10 rfl (by kernel_rfl) (fun _ _ _ h=>h) (.inl ⟨by rfl,?_⟩) (by assumption) ?_;rotate_left
   ·(intro w hSw;(try dsimp only at hSw);(try simp only [p1,p2,p3]);go_simp;first|done|with_reducible rfl)
   (try simp only [Act.put,p1,p2,p3,p4,p5,p6])
   refine' tkk 11 rfl (by kernel_rfl) (fun _ _ _ h=>h) (.inl ⟨by rfl,?_⟩) (by assumption) ?_;rotate_left
   ·(intro w hSw;(try dsimp only at hSw);(try simp only [p1,p2,p3]);go_simp;first|done|with_reducible rfl)
   (try simp only [Act.put,p1,p2,p3,p4,p5,p6])
   refine wpAnyH_done (by kernel_rfl) ?_ _
   (try clear hHeld3)
   clear HS;have HY:=Hj hp;have hrow:=(HR.out.2.1.below hp);have hrc:=hrow.cell (i:=cN) (by rw [owP_len];exact hcn);have hrf:=hrow.frozen cN;obtain ⟨hz1,hz2⟩:=HLU.out;obtain ⟨hr1,hr2⟩:=HRB.out;obtain ⟨sl,hsl⟩:∃ s,s=ub-la:=⟨_,rfl⟩;have x1:IntKind.i64.wrap (ub-la)=sl:=by rw [IntWalk.i64_in _ (by omega)];exact hsl.symm
   obtain ⟨y,hy⟩:∃ y,y=min r sl:=⟨_,rfl⟩;have m1:min r sl=y:=hy.symm;have m2:(if sl<r then sl else r)=y:=by split<;>omega
   have x2:IntKind.i64.wrap (la+y)=la+y:=IntWalk.i64_in _ (by omega);have x3:IntKind.i64.wrap (r-y)=r-y:=IntWalk.i64_in _ (by omega);have x4:=wrap_dec hcn (show n≤1000000 by have:=HN.out;omega);have i1:(0:Int)≤(cN:Int):=Int.natCast_nonneg _;have i2:(cN:Int)<(n:Int):=by exact_mod_cast hcn
   have HF:=Hj (show OwR w #[.bool an,.slice aA ak ac,.bool an',.slice aA' ak' ac'] g0 lo up n more (k+1) (v5.setCell ⟨g0,cN,none⟩ (.int .i64 (la+y))) from by
    have hs:=owP_step (lo:=lo) (up:=up) (more:=more) hkn HKC.out;have e:owX lo up n more cN=la+y:=by
     have e3:n-1-cN=k:=by have:=HKC.out;omega
     unfold owX;rw [e3,HRE.out,HLA.out,HUB.out,hy,hsl]
    rw [e] at hs;refine ⟨HR.out.1.trans (Below.mono hp HR.out.1.size) |>.setCell (p:=⟨g0,cN,none⟩) HG0.out _,?_⟩;rw [hs];exact ⟨hrow.set cN (la+y),(HBQ.out.below hp HBQ.out.lt).far (by have:=HGN.out;simpa using this) _⟩)
   have HC2:=Hj (dec_step HKC.out hkn);have HRN:=Hj (show owR lo up n more (k+1)=r-y from by
    have hk9:=HKC.out;rw [owR,hk9,HRE.out,HLA.out,HUB.out,hy,hsl])
   clear hp hrow hz1 hz2 hr1 hr2 hy HR hcl hbr hsl;go_wp2;go_roundw
   case rel=>exact ⟨k+1,r-y,(cN:Int)-1,by omega,rfl,rfl,HC2.out,HRN.out.symm,HF.out⟩
   case measure=>simp [intOf]<;>omega
  ·obtain rfl:k=n:=by omega
   have hci2:=hci.out;obtain rfl:ci = -1:=by omega
   have hrw:=HR0.out;unfold OwR at hrw;rw [owP_all] at hrw;have HF:=Hj (And.intro hrw.2.1 (And.intro HG0.out hrw.1));clear HR0 hci hci2 hre hrw;go_wp2;go_ret;exact ⟨g0,rfl,HF.out.1,HF.out.2.1,HF.out.2.2⟩
def pR (os bs:List (List (Int×Int))):Int:=(pickV os bs (prA os bs).length).1
def zR (os bs:List (List (Int×Int))):Int:=max (wsL (-1) ((pR os bs:Int):Rat) os) (wsL 1 ((pR os bs:Int):Rat) bs)
def xR (os bs:List (List (Int×Int))):List Int:=owL (loO os (pR os bs)) (upO os (pR os bs)) os.length (zR os bs-wsL (-1) ((pR os bs:Int):Rat) os)
def yR (os bs:List (List (Int×Int))):List Int:=owL (loB bs (pR os bs)) (upB bs (pR os bs)) bs.length (zR os bs-wsL 1 ((pR os bs:Int):Rat) bs)
def wR (os bs:List (List (Int×Int))):Int:=costs bs (yR os bs) bs.length-costs os (xR os bs) os.length
section
variable {os bs:List (List (Int×Int))}
theorem owL_len {lo up:Nat→Int} {n:Nat} {more:Int}:(owL lo up n more).length=n:=by simp [owL]
theorem owL_get {lo up:Nat→Int} {n:Nat} {more:Int} {i:Nat} (hi:i<n):(owL lo up n more)[i]?.getD 0=owX lo up n more i:=by simp [owL,hi]
theorem xR_len:(xR os bs).length=os.length:=owL_len
theorem yR_len:(yR os bs).length=bs.length:=owL_len
theorem prA_bd (ho:PrB os) (hb:PrB bs) {x:Int} (h:x∈prA os bs) : -1000000≤x∧x≤1000000:=by
 rcases List.mem_cons.1 h with rfl|h
 ·omega
 ·rcases List.mem_append.1 h with h|h
  ·obtain ⟨l,hl,hx⟩:=List.mem_flatMap.1 h;obtain ⟨s,hs,rfl⟩:=List.mem_map.1 hx;exact ho l hl s hs
  ·obtain ⟨l,hl,hx⟩:=List.mem_flatMap.1 h;obtain ⟨s,hs,rfl⟩:=List.mem_map.1 hx;exact hb l hl s hs
theorem pR_all (hc:ckB os bs=0):balB os bs ((pR os bs:Int):Rat)=true∧-1000000≤pR os bs∧pR os bs≤1000000:=by
 obtain ⟨_,_,k3,k4⟩:=ckB_iff.1 hc;have ho:=Pos.of k3;have hb:=Pos.of k4;obtain ⟨n,hn⟩:=bal_some ho hb (PrB.of k3) (PrB.of k4);have:∃ d∈prA os bs,balB os bs ((d:Int):Rat)=true:=by
  rcases Int.le_total 0 n with h|h
  ·obtain ⟨d,hd,h1,_⟩:=bal_posA ho hb (q:=((n:Int):Rat)) (by exact_mod_cast h) hn;exact ⟨d,hd,h1⟩
  ·obtain ⟨d,hd,h1,_⟩:=bal_negA ho hb (q:=((n:Int):Rat)) (by exact_mod_cast h) hn;exact ⟨d,hd,h1⟩
 obtain ⟨d,hd,h1⟩:=this;obtain ⟨j,hj,hje⟩:=List.getElem_of_mem hd;have hje':(prA os bs)[j]?.getD 0=d:=by rw [List.getElem?_eq_getElem hj,Option.getD_some,hje]
 obtain ⟨i1,i2⟩:=pick_inv (os:=os) (bs:=bs) _ (Nat.le_refl _);by_cases hf:(pickV os bs (prA os bs).length).2=true
 ·obtain ⟨a1,a2,-⟩:=i2 hf;exact ⟨a1,prA_bd (PrB.of k3) (PrB.of k4) a2⟩
 ·have:=i1 (by simpa using hf) j hj;rw [hje',h1] at this;exact absurd this (by simp)
theorem ws_le (side:Int) (q:Rat) {up:Bool} {ls:List (List (Int×Int))} (h:∀ l∈ls,chk up l=0) {i:Nat} (hi:i<ls.length):0≤wlL side q (ls[i]?.getD [])∧wlL side q (ls[i]?.getD [])≤wlM side q (ls[i]?.getD [])∧wlM side q (ls[i]?.getD [])≤3000000:=by
 have hk:=h _ (getD_mem (d:=[]) hi);have hb:=wl_bd3 hk side q;have hp:∀ s∈ls[i]?.getD [],0≤s.1:=fun s hs=>Int.le_of_lt (chk_pos hk s hs);refine ⟨hb.1.1,?_,hb.2.2⟩;unfold wlL wlM;exact sumI_le fun s hs=>by
  have:=hp s hs;split<;>split<;>first|omega|(exfalso;grind)
theorem wl_qsum (side:Int) (q:Rat) {up:Bool} {l:List (Int×Int)} (h:chk up l=0):wlM side q l≤qsum l:=by
 have hp:∀ s∈l,0≤s.1:=fun s hs=>Int.le_of_lt (chk_pos h s hs);rw [qsum_aT];unfold wlM aT;exact sumI_le fun s hs=>by
  have:=hp s hs;split<;>omega
theorem ref_trade (hc:ckB os bs=0):(wsL (-1) ((pR os bs:Int):Rat) os≤zR os bs∧zR os bs≤wsM (-1) ((pR os bs:Int):Rat) os)∧(wsL 1 ((pR os bs:Int):Rat) bs≤zR os bs∧zR os bs≤wsM 1 ((pR os bs:Int):Rat) bs) ∧
  LF os.length (fun i=>((loO os (pR os bs) i:Int):Rat)) (fun i=>((upO os (pR os bs) i:Int):Rat)) (fun i=>(((xR os bs)[i]?.getD 0:Int):Rat)) ((zR os bs:Int):Rat) ∧
  LF bs.length (fun i=>((loB bs (pR os bs) i:Int):Rat)) (fun i=>((upB bs (pR os bs) i:Int):Rat)) (fun i=>(((yR os bs)[i]?.getD 0:Int):Rat)) ((zR os bs:Int):Rat):=by
 obtain ⟨_,_,k3,k4⟩:=ckB_iff.1 hc;obtain ⟨hb,-,-⟩:=pR_all hc;obtain ⟨hl,hh⟩:=balB_iff.1 hb;unfold LoB at hl;unfold HiB at hh;have lu1:∀ i,i<os.length→loO os (pR os bs) i≤upO os (pR os bs) i:=fun i hi=>(ws_le (-1) _ k3 hi).2.1;have lu2:∀ i,i<bs.length→loB bs (pR os bs) i≤upB bs (pR os bs) i:=fun i hi=>(ws_le 1 _ k4 hi).2.1;have eo1:sZ (loO os (pR os bs)) os.length=wsL (-1) ((pR os bs:Int):Rat) os:=sZ_of (wlL (-1) ((pR os bs:Int):Rat)) os;have eo2:sZ (upO os (pR os bs)) os.length=wsM (-1) ((pR os bs:Int):Rat) os:=sZ_of (wlM (-1) ((pR os bs:Int):Rat)) os;have eb1:sZ (loB bs (pR os bs)) bs.length=wsL 1 ((pR os bs:Int):Rat) bs:=sZ_of (wlL 1 ((pR os bs:Int):Rat)) bs;have eb2:sZ (upB bs (pR os bs)) bs.length=wsM 1 ((pR os bs:Int):Rat) bs:=sZ_of (wlM 1 ((pR os bs:Int):Rat)) bs;have so:=sZ_le lu1;have sb:=sZ_le lu2;rw [eo1,eo2] at so;rw [eb1,eb2] at sb;have hz:zR os bs=max (wsL (-1) ((pR os bs:Int):Rat) os) (wsL 1 ((pR os bs:Int):Rat) bs):=rfl;refine ⟨by omega,by omega,?_,?_⟩
 ·have h1:=own_lf (more:=zR os bs-wsL (-1) ((pR os bs:Int):Rat) os) lu1 (by omega) (by rw [eo1,eo2];omega);rw [eo1,show wsL (-1) ((pR os bs:Int):Rat) os+(zR os bs-wsL (-1) ((pR os bs:Int):Rat) os)=zR os bs by omega] at h1;have e:∀ i,i<os.length→(xR os bs)[i]?.getD 0=owX (loO os (pR os bs)) (upO os (pR os bs)) os.length (zR os bs-wsL (-1) ((pR os bs:Int):Rat) os) i:=fun i hi=>owL_get hi;exact ⟨fun i hi=>by rw [e i hi];exact h1.ge i hi,fun i hi=>by rw [e i hi];exact h1.le i hi,by rw [← h1.sum];exact sumF_eq fun i hi=>by rw [e i hi],fun i hi hlt k hk hik=>by rw [e i hi] at hlt;rw [e k hk];exact h1.last i hi hlt k hk hik⟩
 ·have h1:=own_lf (more:=zR os bs-wsL 1 ((pR os bs:Int):Rat) bs) lu2 (by omega) (by rw [eb1,eb2];omega);rw [eb1,show wsL 1 ((pR os bs:Int):Rat) bs+(zR os bs-wsL 1 ((pR os bs:Int):Rat) bs)=zR os bs by omega] at h1;have e:∀ i,i<bs.length→(yR os bs)[i]?.getD 0=owX (loB bs (pR os bs)) (upB bs (pR os bs)) bs.length (zR os bs-wsL 1 ((pR os bs:Int):Rat) bs) i:=fun i hi=>owL_get hi;exact ⟨fun i hi=>by rw [e i hi];exact h1.ge i hi,fun i hi=>by rw [e i hi];exact h1.le i hi,by rw [← h1.sum];exact sumF_eq fun i hi=>by rw [e i hi],fun i hi hlt k hk hik=>by rw [e i hi] at hlt;rw [e k hk];exact h1.last i hi hlt k hk hik⟩
theorem ref_bds (hc:ckB os bs=0):(∀ i,i<os.length→0≤(xR os bs)[i]?.getD 0∧(xR os bs)[i]?.getD 0≤qsum (os[i]?.getD [])∧(xR os bs)[i]?.getD 0≤3000000)∧(∀ i,i<bs.length→0≤(yR os bs)[i]?.getD 0∧(yR os bs)[i]?.getD 0≤qsum (bs[i]?.getD [])∧(yR os bs)[i]?.getD 0≤3000000)∧(wR os bs).natAbs<1000000000000000:=by
 obtain ⟨l5,l6,k3,k4⟩:=ckB_iff.1 hc;obtain ⟨-,-,f1,f2⟩:=ref_trade hc;have hx:∀ i,i<os.length→0≤(xR os bs)[i]?.getD 0∧(xR os bs)[i]?.getD 0≤qsum (os[i]?.getD [])∧(xR os bs)[i]?.getD 0≤3000000:=fun i hi=>by
  have h1:=ws_le (-1) ((pR os bs:Int):Rat) k3 hi;have h2:=wl_qsum (-1) ((pR os bs:Int):Rat) (k3 _ (getD_mem (d:=[]) hi));have h3:loO os (pR os bs) i≤(xR os bs)[i]?.getD 0:=by exact_mod_cast f1.ge i hi
  have h4:(xR os bs)[i]?.getD 0≤upO os (pR os bs) i:=by exact_mod_cast f1.le i hi
  unfold loO at h3;unfold upO at h4;omega
 have hy:∀ i,i<bs.length→0≤(yR os bs)[i]?.getD 0∧(yR os bs)[i]?.getD 0≤qsum (bs[i]?.getD [])∧(yR os bs)[i]?.getD 0≤3000000:=fun i hi=>by
  have h1:=ws_le 1 ((pR os bs:Int):Rat) k4 hi;have h2:=wl_qsum 1 ((pR os bs:Int):Rat) (k4 _ (getD_mem (d:=[]) hi));have h3:loB bs (pR os bs) i≤(yR os bs)[i]?.getD 0:=by exact_mod_cast f2.ge i hi
  have h4:(yR os bs)[i]?.getD 0≤upB bs (pR os bs) i:=by exact_mod_cast f2.le i hi
  unfold loB at h3;unfold upB at h4;omega
 refine ⟨hx,hy,?_⟩;have c1:=costs_bd k3 (xs:=xR os bs) (fun i hi=>⟨(hx i hi).1,(hx i hi).2.1⟩) os.length (Nat.le_refl _);have c2:=costs_bd k4 (xs:=yR os bs) (fun i hi=>⟨(hy i hi).1,(hy i hi).2.1⟩) bs.length (Nat.le_refl _);unfold wR;omega
theorem ref_wf (hc:ckB os bs=0):wfE os bs (castR (xR os bs)) (castR (yR os bs))=0∧wfV os bs (castR (xR os bs)) (castR (yR os bs))=((wR os bs:Int):Rat):=by
 obtain ⟨-,-,f1,f2⟩:=ref_trade hc;obtain ⟨b1,b2,-⟩:=ref_bds hc;have e1:(castR (xR os bs)).length=os.length:=by rw [castR,List.length_map,xR_len]
 have e2:(castR (yR os bs)).length=bs.length:=by rw [castR,List.length_map,yR_len]
 have g1:goodA os (castR (xR os bs)):=fun i hi=>by
  have:=b1 i hi;rw [castR_get];exact ⟨by exact_mod_cast this.1,by exact_mod_cast this.2.1⟩
 have g2:goodA bs (castR (yR os bs)):=fun i hi=>by
  have:=b2 i hi;rw [castR_get];exact ⟨by exact_mod_cast this.1,by exact_mod_cast this.2.1⟩
 refine ⟨wfE_5 hc e1 e2 g1 g2 ?_,?_⟩
 ·rw [qty_whole,qty_whole,f1.sum,f2.sum]
 ·unfold wfV wR;rw [money_whole,money_whole,Rat.intCast_sub]
theorem ref_run {z p wf:Int} {xs ys:List Int} {S D:List St.Lv} (hc:ckB os bs=0) (h:RunV os bs z p wf xs ys S D):z=zR os bs∧p=pR os bs∧wf=wR os bs∧xs=xR os bs∧ys=yR os bs:=by
 obtain ⟨_,_,k3,k4⟩:=ckB_iff.1 hc;have hp:pR os bs=p:=pick_price h.pr (Pos.of k3) (Pos.of k4) (PrB.of k3) (PrB.of k4);obtain ⟨s1,s2⟩:=h.sides hc;obtain ⟨o1,o2,o3⟩:=run_own hc h;have hz:zR os bs=z:=by unfold zR;rw [hp];exact o1.symm
 have hx:xs=xR os bs:=by
  apply List.ext_getElem?;intro i;by_cases hi:i<os.length
  ·have e1:=o2 i hi;have e2:(xR os bs)[i]?.getD 0=owX (loO os (pR os bs)) (upO os (pR os bs)) os.length (zR os bs-wsL (-1) ((pR os bs:Int):Rat) os) i:=owL_get hi;rw [hp,hz,← e1] at e2;have h1:i<xs.length:=by rw [s1.len];exact hi
   have h2:i<(xR os bs).length:=by rw [xR_len];exact hi
   rw [List.getElem?_eq_getElem h1,List.getElem?_eq_getElem h2,Option.getD_some,Option.getD_some] at e2;rw [List.getElem?_eq_getElem h1,List.getElem?_eq_getElem h2,e2]
  ·rw [List.getElem?_eq_none (by rw [s1.len];omega),List.getElem?_eq_none (by rw [xR_len];omega)]
 have hy:ys=yR os bs:=by
  have hl:ys.length=bs.length:=by rw [s2.len,negs_len]
  apply List.ext_getElem?;intro i;by_cases hi:i<bs.length
  ·have e1:=o3 i hi;have e2:(yR os bs)[i]?.getD 0=owX (loB bs (pR os bs)) (upB bs (pR os bs)) bs.length (zR os bs-wsL 1 ((pR os bs:Int):Rat) bs) i:=owL_get hi;rw [hp,hz,← e1] at e2;have h1:i<ys.length:=by rw [hl];exact hi
   have h2:i<(yR os bs).length:=by rw [yR_len];exact hi
   rw [List.getElem?_eq_getElem h1,List.getElem?_eq_getElem h2,Option.getD_some,Option.getD_some] at e2;rw [List.getElem?_eq_getElem h1,List.getElem?_eq_getElem h2,e2]
  ·rw [List.getElem?_eq_none (by rw [hl];omega),List.getElem?_eq_none (by rw [yR_len];omega)]
 refine ⟨hz.symm,hp.symm,?_,hx,hy⟩;unfold wR;rw [← hx,← hy];exact h.trade hc
end
end Go.Proofs.YtjajigkacccdgaaGreat
