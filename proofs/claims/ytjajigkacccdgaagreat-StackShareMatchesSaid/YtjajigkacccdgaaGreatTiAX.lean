/-
Lemmas of the walk; no further conditions.
-/
import Derived.Test.YtjajigkacccdgaaGreatTiAW
import Derived.Deep.CutRange
import Derived.Deep.DeepCutAuto
import Derived.Deep.DrawnRows
set_option linter.unusedVariables false
set_option linter.unusedSimpArgs false
set_option maxRecDepth 100000
set_option maxHeartbeats 16000000
namespace Go.Proofs.YtjajigkacccdgaaGreat
open Go.RowKit
open Wd
def DRow (w:World) (g:Nat) (xs:List Int):Prop:=Blk w g 3 (xs.map (Value.int .i64)).toArray
theorem DRow.cell {w:World} {g:Nat} {xs:List Int} (h:DRow w g xs) {i:Nat} (hi:i<xs.length):w.cell? ⟨g,i,none⟩=some (.int .i64 (xs[i]?.getD 0)):=by
 rw [Blk.cell h i];simp [hi]
theorem DRow.frozen {w:World} {g:Nat} {xs:List Int} (h:DRow w g xs) (i:Nat):w.frozen? ⟨g,i,none⟩=false:=Blk.frozen h i
theorem DRow.set {w:World} {g:Nat} {xs:List Int} (h:DRow w g xs) (i:Nat) (v:Int):DRow (w.setCell ⟨g,i,none⟩ (.int .i64 v)) g (xs.set i v):=by
 have:=Blk.set h i (.int .i64 v);unfold DRow;simpa [List.map_set] using this
theorem DRow.kp {w w':World} {g:Nat} {xs:List Int} (h:DRow w g xs) (hb:Kp w w'):DRow w' g xs:=Blk.below h hb (Blk.lt h)
theorem DRow.at {w:World} {g:Nat} {xs:List Int} {n:Nat} (h:DRow w g xs) (hl:xs.length=n):IsAt w (some ⟨g,0,none⟩) n xs :=
 ⟨hl,fun _=>⟨g,0,rfl,Blk.lt h,fun j hj=>by rw [Nat.zero_add];exact h.cell (by omega)⟩⟩
theorem DRow.start (w:World) (n:Nat):DRow (w.alloc (.cells (Array.replicate n (.int .i64 0)) 3)) w.heap.size (List.replicate n 0):=by
 unfold DRow;have:=Blk.new w 3 (Array.replicate n (.int .i64 0));simpa using this
theorem run_make_q (k:Nat) (hk:k≤20000000000) (w:World) :
  (Instr.makeSlice 199 (.int .i64 (k:Int)) (.int .i64 (k:Int))).run Tryz.prog w=.ok (.slice (some ⟨w.heap.size,0,none⟩) k k) (w.alloc (.cells ((List.replicate k (0:Int)).map (Value.int .i64)).toArray 3)):=by
 obtain ⟨i0,hi,hz0,hz1,hz2⟩:=info_parts (show (Tryz.prog.info? 3).map (fun i=>(i.zero,i.size,i.bytes))=some (some (.int .i64 0),1,8) by kernel_rfl);have h:=run_make (P:=Tryz.prog) w 199 3 i0 _ Tryz.underlying199 hi hz0 .i64 .i64 k k (by omega) (Int.le_refl _) (by rw [hz2];omega) (by omega);rw [h,hz1];simp only [Int.toNat_natCast,Value.cells,Nat.mul_one];rw [made_ints]
def RetHH (w:World) (q r:Nat) (e:Ending) (w':World):Prop:=∃ A1 n1 c1 A2 n2 c2,e=.returned (.tuple #[.slice A1 n1 c1,.slice A2 n2 c2])∧HA w' A1 n1 c1 q∧HA w' A2 n2 c2 r∧Below w.heap.size w w'
theorem QuoI.ra {v n g:Nat} {hs:List Int} {w:World} (h:QuoI v n 0 hs) (hr:DRow w g hs) (hv:v<65536 ^ n):RA w (some ⟨g,0,none⟩) n n v:=by
 obtain ⟨h1,h2⟩:=h.done hv;exact ⟨hs,hr.at h.1,h1,h2,Nat.le_refl _⟩
theorem HA.lt_of_len {w w':World} {A B:Option Addr} {n c m d a b:Nat} (h:HA w A n c a) (h':HA w' B m d b) (hlt:n<m):a<b:=by
 rcases Nat.lt_or_ge a b with h1|h1
 ·exact h1
 ·have:=hd_len_mono h1;rw [← h.1,← h'.1] at this;omega
theorem lit1 (w:World) (r0:Int):IsAt (w.alloc (.cells #[.int .i64 r0] 3)) (some ⟨w.heap.size,0,none⟩) 1 [r0]:=by
 have hB:=Blk.new w 3 #[.int .i64 r0];refine ⟨rfl,fun _=>⟨w.heap.size,0,rfl,hB.lt,fun j hj=>?_⟩⟩;rw [Nat.zero_add,hB.cell];obtain rfl:j=0:=by omega
 rfl
theorem lit1_ra (w:World) {r:Nat} (h:r<65536):RA (w.alloc (.cells #[.int .i64 (r:Int)] 3)) (some ⟨w.heap.size,0,none⟩) 1 1 r :=
 ⟨[(r:Int)],lit1 w _,Dg.cons (by omega) (by omega) Dg.nil,by simp [vh],Nat.le_refl _⟩
theorem div_small (A B:Option Addr) (n c m d a b:Nat) (w:World) (h:RA w A n c a) (h':RA w B m d b) (hb0:0<b) (hn:n≤3) (hm:m≤3) :
  Calls Tryz.prog 210 #[.slice A n c,.slice B m d] w (RetHH w (a / b) (a % b)):=by
 have ha:a<281474976710656:=Nat.lt_of_lt_of_le h.lt (Nat.pow_le_pow_right (by decide) hn);have hb:b<281474976710656:=Nat.lt_of_lt_of_le h'.lt (Nat.pow_le_pow_right (by decide) hm);have d1:decide ((n:Int)≤3)=true:=decide_eq_true (by omega);have d2:decide ((m:Int)≤3)=true:=decide_eq_true (by omega);have d3:decide (n≤3)=true:=decide_eq_true (by omega);have d4:decide (m≤3)=true:=decide_eq_true (by omega);have S1:=Hj (fun W (hW:Below w.heap.size w W)=>small_ra A n c a W (h.below hW) hn);have S2:=Hj (fun W (hW:Below w.heap.size w W)=>small_ra B m d b W (h'.below hW) hm);have hq:(a:Int).tdiv b=((a / b:Nat):Int):=by rw [Int.tdiv_eq_ediv_of_nonneg (Int.natCast_nonneg _)];simp
 have hq':(a:Int) / b=((a / b:Nat):Int):=by simp
 have hr:(a:Int).tmod b=((a % b:Nat):Int):=by rw [Int.tmod_eq_emod_of_nonneg (Int.natCast_nonneg _)];simp
 have hr':(a:Int) % b=((a % b:Nat):Int):=by simp
 have hxy:a / b≤a:=Nat.div_le_self _ _;have hxm:a % b≤a:=Nat.mod_le _ _;have hyz:((b:Int)=0)=False:=by simp;omega
 have hyn:(b=0)=False:=by simp;omega
 have B1:=Hj (fun W=>back_ra (a / b) W (Nat.lt_of_le_of_lt hxy ha));have B2:=Hj (fun W=>back_ra (a % b) W (Nat.lt_of_le_of_lt hxm ha));obtain ⟨w1,u1⟩:=wr_nat (Nat.le_of_lt (Nat.lt_of_le_of_lt hxy ha));obtain ⟨w2,u2⟩:=wr_nat (Nat.le_of_lt (Nat.lt_of_le_of_lt hxm ha));generalize a / b=q at *;generalize a % b=r at *;have x1:(0:Int)≤(a:Int):=Int.natCast_nonneg _;have y1:(0:Int)<(b:Int):=Int.natCast_pos.2 hb0;have y2:(b:Int)≠0:=by simp at hyz;exact fun e=>hyz (by exact_mod_cast e)
 clear h h' hxy hxm hn hm ha hb;go_enter Tryz.func210,Tryz.ntmps210
 go_wp2_with fail
 refine (S1.out _ (Below.refl _ _)).mono ?_;rintro e w1 ⟨rfl,rfl⟩
 go_wp2_with fail
 refine (S2.out _ (Below.refl _ _)).mono ?_;rintro e w1 ⟨rfl,rfl⟩
 go_wp2_with fail
 refine (B1.out _).mono ?_;rintro e w2 ⟨A1,n1,c1,rfl,h1,hb2⟩;have H1:=Hj h1;have HB2:=Hj hb2;clear h1 hb2
 go_wp2_with fail
 refine (S1.out _ HB2.out).mono ?_;rintro e w3 ⟨rfl,rfl⟩
 go_wp2_with fail
 refine (S2.out _ HB2.out).mono ?_;rintro e w3 ⟨rfl,rfl⟩
 go_wp2_with fail
 refine (B2.out _).mono ?_;rintro e w3 ⟨A2,n2,c2,rfl,h2,hb3⟩;have H2:=Hj h2;have H1:=Hj (H1.out.below hb3);have HB3:=Hj (HB2.out.trans (hb3.mono HB2.out.size));clear h2 hb3;go_wp2;go_ret2;exact ⟨A1,n1,c1,A2,n2,c2,rfl,H1.out,H2.out,HB3.out⟩
theorem div_digit (A B:Option Addr) (n c d a b:Nat) (w:World) (h:RA w A n c a) (h':RA w B 1 d b) (hb0:0<b) (hn3:3<n) (hn:n≤12000000000) :
  Calls Tryz.prog 210 #[.slice A n c,.slice B 1 d] w (RetHH w (a / b) (a % b)):=by
 have hb:b<65536:=by have:=h'.lt;simpa using this
 obtain ⟨bb,ob,hBe,hbb,hcb⟩:=h'.cells (by omega);have cb:=hcb 0 (by omega);have edb:dg b 0=b:=by unfold dg;simp;omega
 rw [edb,Nat.add_zero] at cb;subst hBe;have HX:=Hj h;have HC:=Hj cb;have HBB:=Hj hbb;have HAL:=Hj h.lt;have d1:decide ((n:Int)≤3)=false:=decide_eq_false (by omega);have d2:decide (n≤3)=false:=decide_eq_false (by omega);clear h h' hcb edb cb hbb;have hmk:=fun w=>run_make_q n (by omega) w;go_enter Tryz.func210,Tryz.ntmps210
 go_wp2_with fail
 have hrow:=DRow.start w n;have hbel:Below w.heap.size w (w.alloc (.cells (Array.replicate n (.int .i64 0)) 3)):=(Below.refl _ _).alloc (Nat.le_refl _) _;generalize w.alloc (.cells (Array.replicate n (.int .i64 0)) 3)=W at *;have HROW:=Hj hrow;have HBEL:=Hj hbel;clear hrow hbel hmk d1 d2
 go_loopw [7,8] (fun t7 t8 wr=>∃ (t:Nat) (hs:List Int),t≤n∧t8=.int .i64 ((t:Int)-1)∧t7=.int .i64 ((rst a b t:Nat):Int)∧Hid (Below w.heap.size w wr∧DRow wr w.heap.size hs∧QuoI (a / b) n t hs)) (fun _ t8 _=>(intOf t8+1).toNat)
 case atStart=>exact ⟨n,List.replicate n 0,Nat.le_refl _,by first|rfl|go_num,by rw [rst_top HAL.out];rfl,HBEL.out,HROW.out,QuoI.start _ _⟩
 case round =>
  clear HROW HBEL;obtain ⟨t,hs,ht,rfl,rfl,hR⟩:=hrel;by_cases h0:t=0
  ·subst h0;obtain ⟨hB,hro,hq⟩:=hR.out;have hra:=hq.ra hro (Nat.lt_of_le_of_lt (Nat.div_le_self _ _) HAL.out);rw [rst_zero];have hml:a % b<65536:=Nat.lt_trans (Nat.mod_lt _ hb0) hb;have T:=Hj (trim_ra _ n n (a / b) wr hra (by omega));have k1:=(Kp.refl wr).alloc (.cells #[.int .i64 ((a % b:Nat):Int)] 3);have T2:=Hj (trim_ra _ 1 1 (a % b) _ (lit1_ra wr hml) (by omega));have HB:=Hj (hB.trans (Below.mono k1 hB.size));have HK1:=Hj k1;generalize a % b=r at *;clear hB hra hR hq hro k1 hml
   go_wp2_with fail
   refine T.out.mono ?_;rintro e w1 ⟨A1,n1,rfl,h1,rfl⟩;have H1:=Hj (h1.below HK1.out);clear h1
   go_wp2_with fail
   refine T2.out.mono ?_;rintro e w2 ⟨A2,n2,rfl,h2,rfl⟩;have H2:=Hj h2;clear h2;go_wp2;go_ret2;exact ⟨A1,n1,n,A2,n2,1,rfl,H1.out,H2.out,HB.out⟩
  ·obtain ⟨j,rfl⟩:∃ j,t=j+1:=⟨t-1,by omega⟩;obtain ⟨ba,oa,hAe,hba,hca⟩:=HX.out.cells (by omega);have cj0:=hca j (by omega);subst hAe;have ej:(((j+1:Nat):Int)-1)=(j:Int):=by omega
   simp only [ej];have j1:(0:Int)≤(j:Int):=by omega
   have j2:(j:Int)<(n:Int):=by omega
   obtain ⟨hB,hro,hq⟩:=hR.out;have cj:=(hB.cell (p:=⟨ba,oa+j,none⟩) hba).trans cj0;have cb:=(hB.cell (p:=⟨bb,ob,none⟩) HBB.out).trans HC.out;have cq:=hro.cell (i:=j) (by rw [hq.1];omega);have fq:=hro.frozen j;have hyz:((b:Int)=0)=False:=by simp;omega
   have hyn:(b=0)=False:=by simp;omega
   have y1:(0:Int)<(b:Int):=Int.natCast_pos.2 hb0;have hjn:j<n:=by omega
   have l1:=rst_lt a b (j+1) hb0;have l2:=dg_lt a j;obtain ⟨p,hp⟩:∃ p:Nat,p=rst a b (j+1)*65536:=⟨_,rfl⟩;obtain ⟨u,hu⟩:∃ u:Nat,u=p+dg a j:=⟨_,rfl⟩;have hul:u≤281474976710656:=by omega
   have e1:IntKind.i64.wrap (((rst a b (j+1):Nat):Int)*65536)=(p:Int):=by rw [hp];exact IntWalk.i64_in _ (by omega)
   have f1:wrap64 (((rst a b (j+1):Nat):Int)*65536)=(p:Int):=by rw [w64_in _ (by omega)];omega
   have e2:IntKind.i64.wrap ((p:Int)+((dg a j:Nat):Int))=(u:Int):=by rw [IntWalk.i64_in _ (by omega)];omega
   have f2:wrap64 ((p:Int)+((dg a j:Nat):Int))=(u:Int):=by rw [w64_in _ (by omega)];omega
   obtain ⟨hs1,hs2⟩:=rst_step a b j hb0;rw [← hp,← hu] at hs1 hs2;have g1:(u:Int).tdiv b=((dg (a / b) j:Nat):Int):=by rw [Int.tdiv_eq_ediv_of_nonneg (Int.natCast_nonneg _),← hs1];simp
   have g1':(u:Int) / b=((dg (a / b) j:Nat):Int):=by rw [← hs1];simp
   have g2:(u:Int).tmod b=((rst a b j:Nat):Int):=by rw [Int.tmod_eq_emod_of_nonneg (Int.natCast_nonneg _),← hs2];simp
   have g2':(u:Int) % b=((rst a b j:Nat):Int):=by rw [← hs2];simp
   obtain ⟨w1,u1⟩:=wr_nat (Nat.le_trans (Nat.le_of_lt (dg_lt (a / b) j)) (by decide));obtain ⟨w2,u2⟩:=wr_nat (Nat.le_trans (Nat.le_of_lt (rst_lt a b j hb0)) (Nat.le_trans (Nat.le_of_lt hb) (by decide)));have x1:(0:Int)≤(u:Int):=Int.natCast_nonneg _;have HF:=Hj (show Below w.heap.size w (wr.setCell ⟨w.heap.size,j,none⟩ (.int .i64 ((dg (a / b) j:Nat):Int)))∧DRow (wr.setCell ⟨w.heap.size,j,none⟩ (.int .i64 ((dg (a / b) j:Nat):Int))) w.heap.size (hs.set j ((dg (a / b) j:Nat):Int))∧QuoI (a / b) n j (hs.set j ((dg (a / b) j:Nat):Int)) from ⟨hB.setCell (p:=⟨w.heap.size,j,none⟩) (Nat.le_refl _) _,hro.set j _,hq.step hjn rfl⟩);generalize dg a j=da at *;generalize dg (a / b) j=qd at *;generalize rst a b (j+1)=r0 at *;generalize hr1:rst a b j=r1 at *;have HR1:=Hj hr1;clear hr1;generalize hs[j]?.getD 0=old at *;clear hs1 hs2 hu hp hca cj0 hB hro hq hR l1 l2 hul HX HC;have hne:bb≠w.heap.size:=Nat.ne_of_lt HBB.out;have cb2:=(World.cell?_setCell_other wr ⟨w.heap.size,j,none⟩ ⟨bb,ob,none⟩ (.int .i64 (qd:Int)) (fun e=>hne (by first|exact congrArg Addr.block e|exact (congrArg Addr.block e).symm))).trans cb;go_wp2
   go_region_with (fail)
   all_goals
    go_wp2;go_roundw
    case rel=>exact ⟨j,_,by omega,by first|rfl|go_num,by rw [HR1.out],by first|exact Hj HF.out|exact Hj ⟨HF.out.1.drew,HF.out.2.1,HF.out.2.2⟩⟩
    case measure=>simp [intOf]
theorem HA.setAway {w:World} {A:Option Addr} {n c v B:Nat} (h:HA w A n c v) (hf:n≠0→∃ b o,A=some ⟨b,o,none⟩∧B≤b) {p:Addr} (hp:p.block<B) (u:Value):HA (w.setCell p u) A n c v:=by
 refine ⟨h.1,⟨h.2.1.1,fun h0=>?_⟩,h.2.2⟩;obtain ⟨b,o,e,hlt,hc⟩:=h.2.1.2 h0;obtain ⟨b',o',e',hb'⟩:=hf h0;rw [e] at e';cases e';refine ⟨b,o,e,by simpa [World.setCell] using hlt,fun j hj=>?_⟩;rw [World.cell?_setCell_other _ _ _ _ (fun e=>by subst e;simp at hp;omega)];exact hc j hj
theorem div_long (A B:Option Addr) (n c m d a b:Nat) (w:World) (h:HA w A n c a) (h':HA w B m d b) (hb0:0<b) (hn:n≤12000000000) (hm:m≤12000000000) (hm1:m≠1) (h3:3<n∨(n≤3∧3<m)) :
  Calls Tryz.prog 210 #[.slice A n c,.slice B m d] w (RetHH w (a / b) (a % b)):=by
 have HX:=Hj h.ra;have HRB:=Hj h';have HB0:=Hj hb0;have HAL:=Hj h.ra.lt;have HBL:=Hj h'.ra.lt;obtain ⟨ii,hii,hz0,hz1,hz2⟩:=info_parts info_int;have HI:=Hj hii;have HZ0:=Hj hz0;have HZ1:=Hj hz1;have HZ2:=Hj hz2;have d1:((m:Int) == 1)=false:=by simp;omega
 have d2:(m == 1)=false:=by simp;omega
 have hd:(decide ((n:Int)≤3)=false∧decide (n≤3)=false)∨(decide ((n:Int)≤3)=true∧decide (n≤3)=true∧decide ((m:Int)≤3)=false∧decide (m≤3)=false):=by
  rcases h3 with h3|⟨h3,h4⟩
  ·exact Or.inl ⟨decide_eq_false (by omega),decide_eq_false (by omega)⟩
  ·exact Or.inr ⟨decide_eq_true (by omega),decide_eq_true (by omega),decide_eq_false (by omega),decide_eq_false (by omega)⟩
 have hmk:=fun w=>run_make_q n (by omega) w;clear h h' h3 hm1 hii hz0 hz1 hz2;rcases hd with ⟨d3,d4⟩|⟨d3,d4,d5,d6⟩
 all_goals
  go_enter Tryz.func210,Tryz.ntmps210
  go_wp2_with fail
  clear d1 d2 d3 d4 hmk
  (try clear d5 d6)
  have hrow:=DRow.start w n;have hbel:Below w.heap.size w (w.alloc (.cells (Array.replicate n (.int .i64 0)) 3)):=(Below.refl _ _).alloc (Nat.le_refl _) _;generalize w.alloc (.cells (Array.replicate n (.int .i64 0)) 3)=W at *;have HROW:=Hj hrow;have HBEL:=Hj hbel;clear hrow hbel
  go_loopw [9,10] (fun t9 t10 wr=>∃ (t:Nat) (hs:List Int) (Ar:Option Addr) (nr cr:Nat),t≤n∧t10=.int .i64 ((t:Int)-1)∧t9=.slice Ar nr cr∧Hid (Below w.heap.size w wr∧DRow wr w.heap.size hs∧QuoI (a / b) n t hs∧HA wr Ar nr cr (rst a b t))) (fun _ t10 _=>(intOf t10+1).toNat)
  case atStart=>exact ⟨n,List.replicate n 0,none,0,0,Nat.le_refl _,by first|rfl|go_num,rfl,HBEL.out,HROW.out,QuoI.start _ _,by rw [rst_top HAL.out];exact ⟨by rw [hd_zero];rfl,by rw [hd_zero];exact ⟨rfl,fun h=>absurd rfl h⟩,Nat.le_refl _⟩⟩
  case round =>
   clear HROW HBEL;obtain ⟨t,hs,Ar,nr,cr,ht,rfl,rfl,hR⟩:=hrel;by_cases h0:t=0
   ·subst h0;obtain ⟨hB,hro,hq,hr⟩:=hR.out;have hra:=hq.ra hro (Nat.lt_of_le_of_lt (Nat.div_le_self _ _) HAL.out);rw [rst_zero] at hr;have T:=Hj (trim_ra _ n n (a / b) wr hra (by omega));have HB:=Hj hB;have HR:=Hj hr;clear hB hra hR hq hro hr
    go_wp2_with fail
    refine T.out.mono ?_;rintro e w1 ⟨A1,n1,rfl,h1,hw1⟩;rw [hw1] at h1 ⊢;have H1:=Hj h1;clear h1 hw1;go_wp2;go_ret2;exact ⟨A1,n1,n,Ar,nr,cr,rfl,H1.out,HR.out,HB.out⟩
   ·obtain ⟨j,rfl⟩:∃ j,t=j+1:=⟨t-1,by omega⟩;obtain ⟨ba,oa,hAe,hba,hca⟩:=HX.out.cells (by omega);have cj0:=hca j (by omega);have ej:(((j+1:Nat):Int)-1)=(j:Int):=by omega
    simp only [ej];have j1:(0:Int)≤(j:Int):=by omega
    have j2:(j:Int)<(n:Int):=by omega
    obtain ⟨hB,hro,hq,hr⟩:=hR.out;have cj:=(hB.cell (p:=⟨ba,oa+j,none⟩) hba).trans cj0;obtain ⟨ds,hsr,hsd,hsv,hsl⟩:=hr.ra.srcOf;have l1:=rst_lt a b (j+1) HB0.out;have hnr:=hr.len (Nat.lt_trans l1 HBL.out);have l2:=dg_lt a j;have k1:=(Kp.refl wr).alloc (.cells #[.int .i64 ((dg a j:Nat):Int)] 3);have o1:=Own.lit (base:=wr.heap.size) wr ((dg a j:Nat):Int) 3 (Nat.le_refl _);have m1:=hsr.below k1;have HSD:=Hj hsd;have HSV:=Hj hsv;have HL2:=Hj l2;have HR0:=Hj (And.intro hB (And.intro hro hq));obtain ⟨x,hx⟩:∃ x,x=dg a j+65536*rst a b (j+1):=⟨_,rfl⟩;have hxs:=rst_step a b j HB0.out;rw [show rst a b (j+1)*65536+dg a j=x by rw [hx];omega] at hxs;have HX1:=Hj hxs.1;have HX2:=Hj hxs.2;have hxb:x<65536*b:=by omega
    have HXB:=Hj hxb;have HXM:=Hj (show x<65536 ^ (m+1) by
     rw [Nat.pow_succ,Nat.mul_comm];exact Nat.lt_trans hxb (Nat.mul_lt_mul_of_pos_left HBL.out (by decide)))
    have HHX:=Hj hx;clear hca hR hB hro hq hr hsr hsd hsv hsl l1 l2 hxs hx hxb cj0;rw [hAe];generalize rst a b (j+1)=r0 at *
    go_wp2_with (first
     | (at_builtin;refine wpList_append_my rfl (base:=wr.heap.size) (e:=3) (size:=1) (bytes:=8) (.tmp 83) (.tmp 84) 199 rfl Tryz.underlying199 HI.out HZ0.out HZ1.out HZ2.out rfl (by decide) (xs:=[.int .i64 ((dg a j:Nat):Int)]) (news:=ds.map (Value.int .i64)) rfl (by exact o1) rfl (by exact m1) (by simp only [maxLen];omega) (by omega) (by exact k1.size) ?_
        intro B1 cb1 w4 hO1 hb1 hk1;have g1:Kp wr w4:=Below.trans k1 hb1;clear hb1 hk1))
    have hra4:=Own.front (x:=dg a j) hO1 HSD.out HSV.out HL2.out;rw [← HHX.out] at hra4;have T:=Hj (trim_ra B1 (1+nr) cb1 x w4 hra4 (by omega));have hR3:=Hj (And.intro (HR0.out.1.trans (g1.mono HR0.out.1.size)) (And.intro (HR0.out.2.1.kp g1) HR0.out.2.2));clear hO1 hra4 g1 k1 o1 m1 HSD HSV HL2 HR0 HHX;refine T.out.mono ?_;rintro e w5 ⟨A2,n2,rfl,h2,hw5⟩;rw [← hw5] at hR3;have hR4:=And.intro hR3.out.1 (And.intro hR3.out.2.1 (And.intro hR3.out.2.2 h2));have hn2:=h2.len HXM.out;clear hR3 hw5 T;by_cases hlm:n2<m
    ·have d1:decide ((n2:Int)<(m:Int))=true:=decide_eq_true (by omega);have d2:decide (n2<m)=true:=decide_eq_true hlm;have HHI:=Hj (show x<1*b by rw [Nat.one_mul];exact h2.lt_of_len HRB.out hlm);clear h2 hlm
     go_wp2_with fail
     have HR4:=Hj hR4;clear hR4;obtain ⟨wv,hwv⟩:∃ v,v=w5:=⟨_,rfl⟩;rw [← hwv] at HR4 ⊢;clear hwv
     go_loopw [11,12] (fun t11 t12 wr=>∃ (lo hi:Nat),t11=.int .i64 (lo:Int)∧t12=.int .i64 (hi:Int)∧lo<hi∧hi≤65536∧Hid (Kp wv wr∧lo*b≤x∧x<hi*b)) (fun t11 t12 _=>(intOf t12).toNat-(intOf t11).toNat)
     case atStart=>exact ⟨0,1,rfl,rfl,by decide,by decide,Kp.refl _,by omega,HHI.out⟩
     case round =>
      clear HHI;obtain ⟨lo,hi,rfl,rfl,hlh,hhi,hQ⟩:=hrel;have W1:=Hj (w_of (z:=(hi:Int)-(lo:Int)) (k:=hi-lo) (by omega) (by omega));by_cases hgt:1<hi-lo
      ·obtain ⟨mid,hmid⟩:∃ mid,mid=(lo+hi) / 2:=⟨_,rfl⟩;have hm1:lo<mid:=by omega
       have hm2:mid<hi:=by omega
       have d1:decide ((1:Int)<((hi-lo:Nat):Int))=true:=decide_eq_true (by omega);have d2:decide (1<hi-lo)=true:=decide_eq_true hgt;have hme:mid-lo<hi-lo∧hi-mid<hi-lo:=by omega
       have W2:=Hj (w_of (z:=(lo:Int)+(hi:Int)) (k:=lo+hi) (by omega) (by omega));have W3:=Hj (wr_nat (x:=mid) (by omega));have hbm:b*mid<65536 ^ (m+1):=by rw [Nat.pow_succ];exact Nat.mul_lt_mul_of_lt_of_le HBL.out (by omega) (by decide)
       have T1:=Hj (times_ra B m d b mid wr (((HRB.out.below HR4.out.1).below hQ.out.1).ra) (by omega) (by omega));have T2:=Hj (fun (W:World) (hW:Kp wr W) (A1:Option Addr) (n1 c1:Nat) (h1:RA W A1 n1 c1 (b*mid)) (hn1:n1≤1000000000000)=>cmp_ra A1 A2 n1 c1 n2 cb1 (b*mid) x W h1 ((HR4.out.2.2.2.ra.below hQ.out.1).below hW) hn1 (by omega));have HME:=Hj hme;have HBM:=Hj hbm;have HMM:=Hj (And.intro hm1 hm2);have f3:((lo+hi:Nat):Int).tdiv 2=(mid:Int):=by rw [Int.tdiv_eq_ediv_of_nonneg (Int.natCast_nonneg _),hmid];simp
       have f4:((lo+hi:Nat):Int) / 2=(mid:Int):=by rw [hmid];simp
       have p1:(0:Int)≤((lo+hi:Nat):Int):=Int.natCast_nonneg _;have HHI:=Hj hhi;have HF34:=Hj (And.intro f3 (And.intro f4 (And.intro W1.out (And.intro W2.out W3.out))));clear hme hbm hm1 hm2 hmid hgt f3 f4 hhi W1 W2 W3;by_cases hle:b*mid≤x
       ·have hv:decide (cmpN (b*mid) x≤0)=true:=decide_eq_true (by unfold cmpN;split<;>(try split)<;>omega);have HQ2:=Hj (show mid*b≤x∧x<hi*b from ⟨by rw [Nat.mul_comm];exact hle,hQ.out.2.2⟩);have HKQ:=Hj hQ.out.1;generalize cmpN (b*mid) x=cv at *;obtain ⟨f3,f4,⟨e1,f1⟩,⟨e2,f2⟩,w1,u1⟩:=HF34.out;generalize ((lo+hi:Nat):Int)=sm at *;generalize ((hi-lo:Nat):Int)=df at *;clear hle hQ HF34
        go_wp2_with fail
        refine T1.out.mono ?_;rintro e w5 ⟨A5,n5,c5,rfl,h5,hb5⟩;have hn5:=h5.len HBM.out;have T3:=Hj (T2.out w5 hb5 A5 n5 c5 h5.ra (by omega));have HK5:=Hj hb5;clear h5 hb5 T1 T2
        go_wp2_with fail
        refine T3.out.mono ?_;rintro e w6 ⟨rfl,hw6⟩;rw [hw6];clear T3 hw6;have HFK:=Hj (show Kp wv w5∧mid*b≤x∧x<hi*b from ⟨HKQ.out.trans HK5.out,HQ2.out⟩);clear HKQ HQ2 HK5;go_wp2;go_roundw
        case rel=>exact ⟨mid,hi,rfl,rfl,HMM.out.2,HHI.out,HFK.out⟩
        case measure =>
         have:=HME.out.2;simp only [intOf,Int.toNat_natCast];exact this
       ·have hv:decide (cmpN (b*mid) x≤0)=false:=decide_eq_false (by rw [cmp_gt (by omega)];decide);have HQ2:=Hj (show lo*b≤x∧x<mid*b from ⟨hQ.out.2.1,by rw [Nat.mul_comm];omega⟩);have HKQ:=Hj hQ.out.1;generalize cmpN (b*mid) x=cv at *;obtain ⟨f3,f4,⟨e1,f1⟩,⟨e2,f2⟩,w1,u1⟩:=HF34.out;generalize ((lo+hi:Nat):Int)=sm at *;generalize ((hi-lo:Nat):Int)=df at *;clear hle hQ HF34
        go_wp2_with fail
        refine T1.out.mono ?_;rintro e w5 ⟨A5,n5,c5,rfl,h5,hb5⟩;have hn5:=h5.len HBM.out;have T3:=Hj (T2.out w5 hb5 A5 n5 c5 h5.ra (by omega));have HK5:=Hj hb5;clear h5 hb5 T1 T2
        go_wp2_with fail
        refine T3.out.mono ?_;rintro e w6 ⟨rfl,hw6⟩;rw [hw6];clear T3 hw6;have HFK:=Hj (show Kp wv w5∧lo*b≤x∧x<mid*b from ⟨HKQ.out.trans HK5.out,HQ2.out⟩);clear HKQ HQ2 HK5;go_wp2;go_roundw
        case rel=>exact ⟨lo,mid,rfl,rfl,HMM.out.1,Nat.le_trans (Nat.le_of_lt HMM.out.2) HHI.out,HFK.out⟩
        case measure =>
         have:=HME.out.1;simp only [intOf,Int.toNat_natCast];exact this
      ·have d1:decide ((1:Int)<((hi-lo:Nat):Int))=false:=decide_eq_false (by omega);have d2:decide (1<hi-lo)=false:=decide_eq_false hgt;obtain ⟨hs1,hs2⟩:=seek_done HB0.out hQ.out.2.1 hQ.out.2.2 (by omega);have hlx:b*lo≤x:=by rw [Nat.mul_comm];exact hQ.out.2.1
       have T1:=Hj (times_ra B m d b lo wr (((HRB.out.below HR4.out.1).below hQ.out.1).ra) (by omega) (by omega));have T2:=Hj (fun (W:World) (hW:Kp wr W) (A1:Option Addr) (n1 c1:Nat) (h1:RA W A1 n1 c1 (b*lo))=>sub_ra A2 A1 n2 cb1 n1 c1 x (b*lo) W ((HR4.out.2.2.2.ra.below hQ.out.1).below hW) h1 (by omega) hlx);have HKQ:=Hj hQ.out.1;have HS1:=Hj (hs1.trans HX1.out);have HS2:=Hj (hs2.trans HX2.out);obtain ⟨e1,f1⟩:=W1.out;generalize ((hi-lo:Nat):Int)=df at *;clear hs1 hs2 hlx hQ hgt W1
       go_wp2_with fail
       refine T1.out.mono ?_;rintro e w6 ⟨A5,n5,c5,rfl,h5,hb5⟩;have T3:=Hj (T2.out w6 hb5 A5 n5 c5 h5.ra);have HK5:=Hj hb5;clear h5 hb5 T1 T2
       go_wp2_with fail
       refine T3.out.mono ?_;rintro e w7 ⟨A6,n6,c6,rfl,h6,hb6,hf6⟩;rw [HS2.out] at h6;have hk6:Kp wv w7:=(HKQ.out.trans HK5.out).trans hb6;have hro:=HR4.out.2.1.kp hk6;have hqi:=HR4.out.2.2.1;have cq:=hro.cell (i:=j) (by rw [hqi.1];omega);have fq:=hro.frozen j;have hgv:w.heap.size<wv.heap.size:=HR4.out.2.1.lt;have hgw:w.heap.size<w6.heap.size:=Nat.lt_of_lt_of_le hgv (HKQ.out.trans HK5.out).size;have HF:=Hj (show Below w.heap.size w (w7.setCell ⟨w.heap.size,j,none⟩ (.int .i64 (lo:Int)))∧DRow (w7.setCell ⟨w.heap.size,j,none⟩ (.int .i64 (lo:Int))) w.heap.size (hs.set j (lo:Int))∧QuoI (a / b) n j (hs.set j (lo:Int))∧HA (w7.setCell ⟨w.heap.size,j,none⟩ (.int .i64 (lo:Int))) A6 n6 c6 (rst a b j) from
        ⟨(HR4.out.1.trans (hk6.mono HR4.out.1.size)).setCell (p:=⟨w.heap.size,j,none⟩) (Nat.le_refl _) _,hro.set j _,hqi.step (by omega) HS1.out,h6.setAway hf6 (by show w.heap.size<_;exact hgw) _⟩)
       generalize hs[j]?.getD 0=old at *;clear hro hqi h6 hb6 hf6 hk6 T3 HK5 HKQ HS1 HS2 hgv hgw;go_wp2;go_roundw
       case rel=>exact ⟨j,_,A6,n6,c6,by omega,by first|rfl|go_num,rfl,HF.out⟩
       case measure=>simp [intOf]
    ·have d1:decide ((n2:Int)<(m:Int))=false:=decide_eq_false (by omega);have d2:decide (n2<m)=false:=decide_eq_false hlm;have HHI:=Hj HXB.out;clear h2 hlm
     go_wp2_with fail
     have HR4:=Hj hR4;clear hR4;obtain ⟨wv,hwv⟩:∃ v,v=w5:=⟨_,rfl⟩;rw [← hwv] at HR4 ⊢;clear hwv
     go_loopw [11,12] (fun t11 t12 wr=>∃ (lo hi:Nat),t11=.int .i64 (lo:Int)∧t12=.int .i64 (hi:Int)∧lo<hi∧hi≤65536∧Hid (Kp wv wr∧lo*b≤x∧x<hi*b)) (fun t11 t12 _=>(intOf t12).toNat-(intOf t11).toNat)
     case atStart=>exact ⟨0,65536,rfl,rfl,by decide,by decide,Kp.refl _,by omega,HHI.out⟩
     case round =>
      clear HHI;obtain ⟨lo,hi,rfl,rfl,hlh,hhi,hQ⟩:=hrel;have W1:=Hj (w_of (z:=(hi:Int)-(lo:Int)) (k:=hi-lo) (by omega) (by omega));by_cases hgt:1<hi-lo
      ·obtain ⟨mid,hmid⟩:∃ mid,mid=(lo+hi) / 2:=⟨_,rfl⟩;have hm1:lo<mid:=by omega
       have hm2:mid<hi:=by omega
       have d1:decide ((1:Int)<((hi-lo:Nat):Int))=true:=decide_eq_true (by omega);have d2:decide (1<hi-lo)=true:=decide_eq_true hgt;have hme:mid-lo<hi-lo∧hi-mid<hi-lo:=by omega
       have W2:=Hj (w_of (z:=(lo:Int)+(hi:Int)) (k:=lo+hi) (by omega) (by omega));have W3:=Hj (wr_nat (x:=mid) (by omega));have hbm:b*mid<65536 ^ (m+1):=by rw [Nat.pow_succ];exact Nat.mul_lt_mul_of_lt_of_le HBL.out (by omega) (by decide)
       have T1:=Hj (times_ra B m d b mid wr (((HRB.out.below HR4.out.1).below hQ.out.1).ra) (by omega) (by omega));have T2:=Hj (fun (W:World) (hW:Kp wr W) (A1:Option Addr) (n1 c1:Nat) (h1:RA W A1 n1 c1 (b*mid)) (hn1:n1≤1000000000000)=>cmp_ra A1 A2 n1 c1 n2 cb1 (b*mid) x W h1 ((HR4.out.2.2.2.ra.below hQ.out.1).below hW) hn1 (by omega));have HME:=Hj hme;have HBM:=Hj hbm;have HMM:=Hj (And.intro hm1 hm2);have f3:((lo+hi:Nat):Int).tdiv 2=(mid:Int):=by rw [Int.tdiv_eq_ediv_of_nonneg (Int.natCast_nonneg _),hmid];simp
       have f4:((lo+hi:Nat):Int) / 2=(mid:Int):=by rw [hmid];simp
       have p1:(0:Int)≤((lo+hi:Nat):Int):=Int.natCast_nonneg _;have HHI:=Hj hhi;have HF34:=Hj (And.intro f3 (And.intro f4 (And.intro W1.out (And.intro W2.out W3.out))));clear hme hbm hm1 hm2 hmid hgt f3 f4 hhi W1 W2 W3;by_cases hle:b*mid≤x
       ·have hv:decide (cmpN (b*mid) x≤0)=true:=decide_eq_true (by unfold cmpN;split<;>(try split)<;>omega);have HQ2:=Hj (show mid*b≤x∧x<hi*b from ⟨by rw [Nat.mul_comm];exact hle,hQ.out.2.2⟩);have HKQ:=Hj hQ.out.1;generalize cmpN (b*mid) x=cv at *;obtain ⟨f3,f4,⟨e1,f1⟩,⟨e2,f2⟩,w1,u1⟩:=HF34.out;generalize ((lo+hi:Nat):Int)=sm at *;generalize ((hi-lo:Nat):Int)=df at *;clear hle hQ HF34
        go_wp2_with fail
        refine T1.out.mono ?_;rintro e w5 ⟨A5,n5,c5,rfl,h5,hb5⟩;have hn5:=h5.len HBM.out;have T3:=Hj (T2.out w5 hb5 A5 n5 c5 h5.ra (by omega));have HK5:=Hj hb5;clear h5 hb5 T1 T2
        go_wp2_with fail
        refine T3.out.mono ?_;rintro e w6 ⟨rfl,hw6⟩;rw [hw6];clear T3 hw6;have HFK:=Hj (show Kp wv w5∧mid*b≤x∧x<hi*b from ⟨HKQ.out.trans HK5.out,HQ2.out⟩);clear HKQ HQ2 HK5;go_wp2;go_roundw
        case rel=>exact ⟨mid,hi,rfl,rfl,HMM.out.2,HHI.out,HFK.out⟩
        case measure =>
         have:=HME.out.2;simp only [intOf,Int.toNat_natCast];exact this
       ·have hv:decide (cmpN (b*mid) x≤0)=false:=decide_eq_false (by rw [cmp_gt (by omega)];decide);have HQ2:=Hj (show lo*b≤x∧x<mid*b from ⟨hQ.out.2.1,by rw [Nat.mul_comm];omega⟩);have HKQ:=Hj hQ.out.1;generalize cmpN (b*mid) x=cv at *;obtain ⟨f3,f4,⟨e1,f1⟩,⟨e2,f2⟩,w1,u1⟩:=HF34.out;generalize ((lo+hi:Nat):Int)=sm at *;generalize ((hi-lo:Nat):Int)=df at *;clear hle hQ HF34
        go_wp2_with fail
        refine T1.out.mono ?_;rintro e w5 ⟨A5,n5,c5,rfl,h5,hb5⟩;have hn5:=h5.len HBM.out;have T3:=Hj (T2.out w5 hb5 A5 n5 c5 h5.ra (by omega));have HK5:=Hj hb5;clear h5 hb5 T1 T2
        go_wp2_with fail
        refine T3.out.mono ?_;rintro e w6 ⟨rfl,hw6⟩;rw [hw6];clear T3 hw6;have HFK:=Hj (show Kp wv w5∧lo*b≤x∧x<mid*b from ⟨HKQ.out.trans HK5.out,HQ2.out⟩);clear HKQ HQ2 HK5;go_wp2;go_roundw
        case rel=>exact ⟨lo,mid,rfl,rfl,HMM.out.1,Nat.le_trans (Nat.le_of_lt HMM.out.2) HHI.out,HFK.out⟩
        case measure =>
         have:=HME.out.1;simp only [intOf,Int.toNat_natCast];exact this
      ·have d1:decide ((1:Int)<((hi-lo:Nat):Int))=false:=decide_eq_false (by omega);have d2:decide (1<hi-lo)=false:=decide_eq_false hgt;obtain ⟨hs1,hs2⟩:=seek_done HB0.out hQ.out.2.1 hQ.out.2.2 (by omega);have hlx:b*lo≤x:=by rw [Nat.mul_comm];exact hQ.out.2.1
       have T1:=Hj (times_ra B m d b lo wr (((HRB.out.below HR4.out.1).below hQ.out.1).ra) (by omega) (by omega));have T2:=Hj (fun (W:World) (hW:Kp wr W) (A1:Option Addr) (n1 c1:Nat) (h1:RA W A1 n1 c1 (b*lo))=>sub_ra A2 A1 n2 cb1 n1 c1 x (b*lo) W ((HR4.out.2.2.2.ra.below hQ.out.1).below hW) h1 (by omega) hlx);have HKQ:=Hj hQ.out.1;have HS1:=Hj (hs1.trans HX1.out);have HS2:=Hj (hs2.trans HX2.out);obtain ⟨e1,f1⟩:=W1.out;generalize ((hi-lo:Nat):Int)=df at *;clear hs1 hs2 hlx hQ hgt W1
       go_wp2_with fail
       refine T1.out.mono ?_;rintro e w6 ⟨A5,n5,c5,rfl,h5,hb5⟩;have T3:=Hj (T2.out w6 hb5 A5 n5 c5 h5.ra);have HK5:=Hj hb5;clear h5 hb5 T1 T2
       go_wp2_with fail
       refine T3.out.mono ?_;rintro e w7 ⟨A6,n6,c6,rfl,h6,hb6,hf6⟩;rw [HS2.out] at h6;have hk6:Kp wv w7:=(HKQ.out.trans HK5.out).trans hb6;have hro:=HR4.out.2.1.kp hk6;have hqi:=HR4.out.2.2.1;have cq:=hro.cell (i:=j) (by rw [hqi.1];omega);have fq:=hro.frozen j;have hgv:w.heap.size<wv.heap.size:=HR4.out.2.1.lt;have hgw:w.heap.size<w6.heap.size:=Nat.lt_of_lt_of_le hgv (HKQ.out.trans HK5.out).size;have HF:=Hj (show Below w.heap.size w (w7.setCell ⟨w.heap.size,j,none⟩ (.int .i64 (lo:Int)))∧DRow (w7.setCell ⟨w.heap.size,j,none⟩ (.int .i64 (lo:Int))) w.heap.size (hs.set j (lo:Int))∧QuoI (a / b) n j (hs.set j (lo:Int))∧HA (w7.setCell ⟨w.heap.size,j,none⟩ (.int .i64 (lo:Int))) A6 n6 c6 (rst a b j) from
        ⟨(HR4.out.1.trans (hk6.mono HR4.out.1.size)).setCell (p:=⟨w.heap.size,j,none⟩) (Nat.le_refl _) _,hro.set j _,hqi.step (by omega) HS1.out,h6.setAway hf6 (by show w.heap.size<_;exact hgw) _⟩)
       generalize hs[j]?.getD 0=old at *;clear hro hqi h6 hb6 hf6 hk6 T3 HK5 HKQ HS1 HS2 hgv hgw;go_wp2;go_roundw
       case rel=>exact ⟨j,_,A6,n6,c6,by omega,by first|rfl|go_num,rfl,HF.out⟩
       case measure=>simp [intOf]
theorem div_ra (A B:Option Addr) (n c m d a b:Nat) (w:World) (h:HA w A n c a) (h':HA w B m d b) (hb0:0<b) (hn:n≤12000000000) (hm:m≤12000000000) :
  Calls Tryz.prog 210 #[.slice A n c,.slice B m d] w (RetHH w (a / b) (a % b)):=by
 by_cases h1:n≤3
 ·by_cases h2:m≤3
  ·exact div_small A B n c m d a b w h.ra h'.ra hb0 h1 h2
  ·exact div_long A B n c m d a b w h h' hb0 hn hm (by omega) (Or.inr ⟨h1,by omega⟩)
 ·by_cases h2:m=1
  ·subst h2;exact div_digit A B n c d a b w h.ra h'.ra hb0 (by omega) hn
  ·exact div_long A B n c m d a b w h h' hb0 hn hm h2 (Or.inl (by omega))
def ZK (w:World) (an:Bool) (A:Option Addr) (n:Nat) (z:Int):Prop:=∃ l,Wat w A n l∧n≤10000000000∧sg an (val l)=z∧(hd z.natAbs).length≤6000000000
section
variable {w w':World} {an:Bool} {A:Option Addr} {n c:Nat} {z:Int}
theorem ZK.below (h:ZK w an A n z) (hb:Below w.heap.size w w'):ZK w' an A n z:=by
 obtain ⟨l,h1,h2⟩:=h;exact ⟨l,h1.below hb,h2⟩
theorem ZK.len (h:ZK w an A n z):(hd z.natAbs).length≤6000000000:=h.choose_spec.2.2.2
theorem ZK.neg (h:ZK w an A n z) (h0:z≠0):an=decide (z<0):=by
 obtain ⟨l,h1,h2,h3,h4⟩:=h;subst h3;by_cases hv:val l=0
 ·rw [hv,sg_zero] at h0;exact absurd rfl h0
 ·rw [sg_neg hv]
theorem ZK.sg (h:ZK w an A n z):sg an z.natAbs=z:=by
 obtain ⟨l,h1,h2,h3,h4⟩:=h;rw [← h3,sg_natAbs]
theorem ZK.halves (h:ZK w an A n z):Calls Tryz.prog 186 #[.slice A n c] w (RetH w z.natAbs):=by
 obtain ⟨l,h1,h2,h3,h4⟩:=h;have:=halves_any A n c l w h1 (by omega);rw [← h3,sg_natAbs];exact this
theorem digs_half {v K:Nat} (h:(hd v).length≤2*K):(digs v).length≤K:=by
 have h2:=hd_len_le.1 h;rw [Nat.pow_mul] at h2;exact digs_len_le.2 h2
theorem zk_of (h:Wat w A n (digs z.natAbs)) (hz:(hd z.natAbs).length≤6000000000):ZK w (decide (z<0)) A n z:=by
 refine ⟨_,h,?_,by rw [val_digs,sg_self],hz⟩;have:=digs_half (v:=z.natAbs) (K:=3000000000) (by omega);have h1:=h.1;omega
end
theorem sg_flip (b:Bool) (v:Nat):sg (!b) v = -(sg b v):=by unfold sg;cases b<;>simp
theorem rsign_z (an:Bool) (A:Option Addr) (n c:Nat) (z:Int) (w:World) (h:ZK w an A n z) :
  Calls Tryz.prog 156 #[.agg #[.bool an,.slice A n c]] w fun e w'=>e=.returned (.int .i64 (cmpI z 0))∧Below w.heap.size w w':=by
 have T:=Hj (fun W (hW:Below w.heap.size w W)=>ZK.halves (c:=c) (h.below hW));have HG:=Hj (fun h0=>h.neg h0);clear h;go_enter Tryz.func156,Tryz.ntmps156
 go_wp2_with fail
 obtain ⟨hB0,hBW,hsz⟩:=pre1 w 40 #[.bool an,.slice A n c];generalize w.alloc (.cells #[.bool an,.slice A n c] 40)=W at *;have HSZ:=Hj hsz;clear hsz;obtain ⟨c0,c1,-,-⟩:=hB0.two;refine (T.out _ hBW).mono ?_;rintro e w1 ⟨A1,n1,c2,rfl,hI,hb1⟩;have hz:=hI.zero;have hB0:=hB0.below hb1 hB0.lt;have HF:=Hj (hBW.trans (hb1.mono hBW.size));obtain ⟨c0,c1,-,-⟩:=hB0.two;clear hBW hb1 hB0 HSZ T hI;by_cases h0:n1=0
 ·subst h0;have hv:z=0:=by have:=hz.1 rfl;omega
  have HN:=Hj (show cmpI z 0=0 by rw [hv];rfl);clear hz hv HG;go_wp2;go_ret;exact ⟨by rw [HN.out];rfl,HF.out⟩
 ·have hv:z≠0:=fun h=>h0 (hz.2 (by rw [h];rfl));have hb:=HG.out hv;have d1:((n1:Int) == 0)=false:=by simp;omega
  have d2:(n1 == 0)=false:=by simp;omega
  by_cases hs:z<0
  ·rw [decide_eq_true hs] at hb;subst hb;have HN:=Hj (cmpI_lt hs);clear hz hv HG hs h0;go_wp2;go_ret;exact ⟨by rw [HN.out];rfl,HF.out⟩
  ·rw [decide_eq_false hs] at hb;subst hb;have HN:=Hj (cmpI_gt (show 0<z by omega));clear hz hv HG hs h0;go_wp2;go_ret;exact ⟨by rw [HN.out];rfl,HF.out⟩
theorem rneg_z' (an:Bool) (A:Option Addr) (n c:Nat) (z y:Int) (w:World) (h:ZK w an A n z) (hy:sg (!an) z.natAbs=y) :
  Calls Tryz.prog 182 #[.agg #[.bool an,.slice A n c]] w (RetZ w y):=by
 have hl:=h.len;have TO:=Hj (fun (W:World) (A1:Option Addr) (n1 c1:Nat) (h1:HA W A1 n1 c1 z.natAbs)=>of_any (!an) A1 n1 c1 z.natAbs W h1.ra (by rw [h1.1];omega));rw [hy] at TO;clear hy;go_enter Tryz.func182,Tryz.ntmps182
 go_wp2_with fail
 obtain ⟨hB0,hB1,hBW,hsz⟩:=pre2 w 40 #[.bool an,.slice A n c] 40 #[.bool false,.slice none 0 0];generalize (w.alloc (.cells #[.bool an,.slice A n c] 40)).alloc (.cells #[.bool false,.slice none 0 0] 40)=W at *;have HSZ:=Hj hsz;clear hsz;have T:=Hj (fun W' (hW:Below (w.heap.size+1) W W')=>ZK.halves (c:=c) (h.below (hBW.trans (hW.mono (by omega)))));have s5:=RS.start hB1;clear h hl;have hS:∀ w',RS (w.heap.size+1) 40 W w'→(w'.cell? ⟨w.heap.size,0,none⟩=some (.bool an)∧w'.cell? ⟨w.heap.size,1,none⟩=some (.slice A n c))∧RS (w.heap.size+1) 40 W w':=fun w' hk=>⟨⟨(hk.blk hB0 (by omega)).cell 0,(hk.blk hB0 (by omega)).cell 1⟩,hk⟩;have HS:=Hj hS;clear hS
 go_region_held3 (fun w'=>(w'.cell? ⟨w.heap.size,0,none⟩=some (.bool an)∧w'.cell? ⟨w.heap.size,1,none⟩=some (.slice A n c))∧RS (w.heap.size+1) 40 W w')
  (with_reducible first|(refine HS.out _ ?_;assumption)|(refine HS.out _ (RS.drew ?_);assumption)|(refine' HS.out _ (RS.drew (And.right ?_));rotate_left;assumption)|(refine' HS.out _ (RS.set (And.right ?_) _ _);rotate_left;assumption))
  (first
   | (go_at_call 186;have hk:=And.right ‹_∧RS (w.heap.size+1) 40 W _›;refine (T.out _ hk.1).mono ?_;rintro e w1 ⟨A1,n1,c1,rfl,hI1,hb1⟩;have hr1:=hk.call hb1)
   | (go_at_call 184;have hk:=And.right ‹_∧RS (w.heap.size+1) 40 W _›;refine (TO.out _ A1 n1 c1 hI1).mono ?_;rintro e w3 ⟨A3,k3,c3,rfl,hk3,hW3,hF3,hb3⟩;have hr3:=hr1.call hb3;obtain ⟨_,_,c0,c1,f0,f1⟩:=hr3.two))
 have hfin:=retZ_close hBW (by omega) (by have:=HSZ.out;have h9:=(RS.two hr1);obtain ⟨_,_,_,hx9⟩:=hr1;have h9:=hx9.lt;omega) hr3 hk3 hW3 hF3;obtain ⟨d0,d1,-,-⟩:=(hr3.done (.bool (decide (y<0))) (.slice A3 k3 c3)).two;have HF:=Hj hfin;clear hfin TO hI1 hb1 hb3;go_wp2;refine bodyPost_ret (v:=.agg #[.bool (decide (y<0)),.slice A3 k3 c3]) ?_ rfl HF.out;simp [results,Tryz.results182,go_sem,d0,d1]
theorem rneg_z (an:Bool) (A:Option Addr) (n c:Nat) (z:Int) (w:World) (h:ZK w an A n z) :
  Calls Tryz.prog 182 #[.agg #[.bool an,.slice A n c]] w (RetZ w (-z)):=rneg_z' an A n c z _ w h (by rw [sg_flip,h.sg])
theorem rabs_z (an:Bool) (A:Option Addr) (n c:Nat) (z:Int) (w:World) (h:ZK w an A n z) :
  Calls Tryz.prog 183 #[.agg #[.bool an,.slice A n c]] w (RetZ w (z.natAbs:Int)):=by
 have hl:=h.len;have T:=Hj (fun W (hW:Below w.heap.size w W)=>ZK.halves (c:=c) (h.below hW));have TO:=Hj (fun (W:World) (A1:Option Addr) (n1 c1:Nat) (h1:HA W A1 n1 c1 z.natAbs)=>of_any false A1 n1 c1 z.natAbs W h1.ra (by rw [h1.1];omega));simp only [show ∀ v:Nat,sg false v=(v:Int) from fun _=>rfl] at TO;generalize hv:z.natAbs=v at *;clear h hl hv;go_enter Tryz.func183,Tryz.ntmps183
 go_wp2_with fail
 obtain ⟨hB0,hB1,hBW,hsz⟩:=pre2 w 40 #[.bool an,.slice A n c] 40 #[.bool false,.slice none 0 0];generalize (w.alloc (.cells #[.bool an,.slice A n c] 40)).alloc (.cells #[.bool false,.slice none 0 0] 40)=W at *;have HSZ:=Hj hsz;clear hsz;refine (T.out _ hBW).mono ?_;rintro e w1 ⟨A1,n1,c2,rfl,hI,hb1⟩;have hr1:=(RS.start hB1).call hb1;have HI:=Hj hI;clear hI T hB0 hB1
 go_wp2_with fail
 refine (TO.out _ _ _ _ HI.out).mono ?_;rintro e w3 ⟨A3,k3,c3,rfl,hk3,hW3,hF3,hb3⟩;have hr3:=hr1.call hb3;obtain ⟨_,_,c0,c1,f0,f1⟩:=hr3.two;have hfin:=retZ_close hBW (by omega) (by have:=HSZ.out;have h9:=hb1.size;omega) hr3 hk3 hW3 hF3;obtain ⟨d0,d1,-,-⟩:=(hr3.done (.bool (decide ((v:Int)<0))) (.slice A3 k3 c3)).two;have HF:=Hj hfin;clear hfin TO HI hb1 hb3;go_wp2;refine bodyPost_ret (v:=.agg #[.bool (decide ((v:Int)<0)),.slice A3 k3 c3]) ?_ rfl HF.out;simp [results,Tryz.results183,go_sem,d0,d1]
theorem rleast_z' (an:Bool) (A:Option Addr) (n c:Nat) (z y:Int) (w:World) (h:ZK w an A n z) (hy:sg (an) z.natAbs=y) :
  Calls Tryz.prog 134 #[.agg #[.bool an,.slice A n c]] w (RetZ w y):=by
 have hl:=h.len;have TO:=Hj (fun (W:World) (A1:Option Addr) (n1 c1:Nat) (h1:HA W A1 n1 c1 z.natAbs)=>of_any (an) A1 n1 c1 z.natAbs W h1.ra (by rw [h1.1];omega));rw [hy] at TO;clear hy;go_enter Tryz.func134,Tryz.ntmps134
 go_wp2_with fail
 obtain ⟨hB0,hB1,hBW,hsz⟩:=pre2 w 40 #[.bool an,.slice A n c] 40 #[.bool false,.slice none 0 0];generalize (w.alloc (.cells #[.bool an,.slice A n c] 40)).alloc (.cells #[.bool false,.slice none 0 0] 40)=W at *;have HSZ:=Hj hsz;clear hsz;have T:=Hj (fun W' (hW:Below (w.heap.size+1) W W')=>ZK.halves (c:=c) (h.below (hBW.trans (hW.mono (by omega)))));have s5:=RS.start hB1;clear h hl;have hS:∀ w',RS (w.heap.size+1) 40 W w'→(w'.cell? ⟨w.heap.size,0,none⟩=some (.bool an)∧w'.cell? ⟨w.heap.size,1,none⟩=some (.slice A n c))∧RS (w.heap.size+1) 40 W w':=fun w' hk=>⟨⟨(hk.blk hB0 (by omega)).cell 0,(hk.blk hB0 (by omega)).cell 1⟩,hk⟩;have HS:=Hj hS;clear hS
 go_region_held3 (fun w'=>(w'.cell? ⟨w.heap.size,0,none⟩=some (.bool an)∧w'.cell? ⟨w.heap.size,1,none⟩=some (.slice A n c))∧RS (w.heap.size+1) 40 W w')
  (with_reducible first|(refine HS.out _ ?_;assumption)|(refine HS.out _ (RS.drew ?_);assumption)|(refine' HS.out _ (RS.drew (And.right ?_));rotate_left;assumption)|(refine' HS.out _ (RS.set (And.right ?_) _ _);rotate_left;assumption))
  (first
   | (go_at_call 186;have hk:=And.right ‹_∧RS (w.heap.size+1) 40 W _›;refine (T.out _ hk.1).mono ?_;rintro e w1 ⟨A1,n1,c1,rfl,hI1,hb1⟩;have hr1:=hk.call hb1)
   | (go_at_call 184;have hk:=And.right ‹_∧RS (w.heap.size+1) 40 W _›;refine (TO.out _ A1 n1 c1 hI1).mono ?_;rintro e w3 ⟨A3,k3,c3,rfl,hk3,hW3,hF3,hb3⟩;have hr3:=hr1.call hb3;obtain ⟨_,_,c0,c1,f0,f1⟩:=hr3.two))
 have hfin:=retZ_close hBW (by omega) (by have:=HSZ.out;have h9:=(RS.two hr1);obtain ⟨_,_,_,hx9⟩:=hr1;have h9:=hx9.lt;omega) hr3 hk3 hW3 hF3;obtain ⟨d0,d1,-,-⟩:=(hr3.done (.bool (decide (y<0))) (.slice A3 k3 c3)).two;have HF:=Hj hfin;clear hfin TO hI1 hb1 hb3;go_wp2;refine bodyPost_ret (v:=.agg #[.bool (decide (y<0)),.slice A3 k3 c3]) ?_ rfl HF.out;simp [results,Tryz.results134,go_sem,d0,d1]
theorem rleast_z (an:Bool) (A:Option Addr) (n c:Nat) (z:Int) (w:World) (h:ZK w an A n z) :
  Calls Tryz.prog 134 #[.agg #[.bool an,.slice A n c]] w (RetZ w (z)):=rleast_z' an A n c z _ w h (h.sg)
def RetN (w:World) (v:Nat) (e:Ending) (w':World):Prop:=∃ A k c,e=.returned (.agg #[.bool false,.slice A k c])∧k≤c∧Wat w' A k (digs v)∧Fresh w.heap.size w' A k∧Below w.heap.size w w'
theorem RetZ.toN {w:World} {v:Nat} {e:Ending} {w':World} (h:RetZ w (v:Int) e w'):RetN w v e w':=by
 obtain ⟨A,k,c,h1,h2,h3,h4⟩:=h;have:decide ((v:Int)<0)=false:=by simp
 rw [this] at h1;exact ⟨A,k,c,h1,h2,h3,h4⟩
def readV (w:World) (t:Value):Nat:=match t with
 | .slice (some p) n _=>vh ((List.range n).map fun j=>match w.cell? ⟨p.block,p.off+j,none⟩ with|some (.int _ z)=>z|_=>0)
 | _=>0
theorem HA.read {w:World} {A:Option Addr} {n c v:Nat} (h:HA w A n c v):readV w (.slice A n c)=v:=by
 by_cases h0:n=0
 ·have hv:=h.zero.1 h0;subst h0;subst hv;cases A<;>rfl
 ·obtain ⟨b,o,rfl,hb,hc⟩:=h.ra.cells h0;have hl:=vh_list v n;rw [Nat.mod_eq_of_lt h.ra.lt] at hl;refine Eq.trans ?_ hl;show vh _=vh _
  congr 1
  apply List.map_congr_left;intro j hj;have:=hc j (List.mem_range.1 hj);simp only [this]
theorem ZK.ta {w W:World} {an:Bool} {A:Option Addr} {n c:Nat} {z:Int} (h:ZK w an A n z) (hBW:Below w.heap.size w W):∀ W',Kp W W'→Calls Tryz.prog 186 #[.slice A n c] W' (RetH W' z.natAbs):=fun W' hW=>ZK.halves (h.below (hBW.trans (Below.mono hW hBW.size)))
theorem gcd_z (an bn:Bool) (A B:Option Addr) (n c m d:Nat) (za zb:Int) (w:World) (h:ZK w an A n za) (h':ZK w bn B m zb) :
  Calls Tryz.prog 178 #[.agg #[.bool an,.slice A n c],.agg #[.bool bn,.slice B m d]] w (RetN w (Nat.gcd za.natAbs zb.natAbs)):=by
 have HAB:=Hj (And.intro h.len h'.len);go_enter Tryz.func178,Tryz.ntmps178
 go_wp2_with fail
 obtain ⟨hB0,hB1,hB2,hBW,hsz⟩:=pre3 w 40 #[.bool an,.slice A n c] 40 #[.bool bn,.slice B m d] 40 #[.bool false,.slice none 0 0];generalize ((w.alloc (.cells #[.bool an,.slice A n c] 40)).alloc (.cells #[.bool bn,.slice B m d] 40)).alloc (.cells #[.bool false,.slice none 0 0] 40)=W at *;have HSZ:=Hj hsz;clear hsz;have TA:=Hj (h.ta (c:=c) hBW);have TB:=Hj (h'.ta (c:=d) hBW);generalize za.natAbs=a at *;generalize zb.natAbs=b at *;clear h h'
 go_upto_region 1 with fail
 have hS:∀ w',Kp W w'→(w'.cell? ⟨w.heap.size,1,none⟩=some (.slice A n c)∧w'.cell? ⟨w.heap.size+1,1,none⟩=some (.slice B m d))∧Kp W w':=fun w' hk=>⟨⟨(hk.blk hB0).cell 1,(hk.blk hB1).cell 1⟩,hk⟩;have HS:=Hj hS;have s5:=Kp.refl W;clear hS
 go_cut [5,6] (fun s t wx=>∃ A1 n1 c1 A2 n2 c2,s=.slice A1 n1 c1∧t=.slice A2 n2 c2∧Hid (Kp W wx∧HA wx A1 n1 c1 a∧HA wx A2 n2 c2 b))
 case first =>
  go_region_held3 (fun w'=>(w'.cell? ⟨w.heap.size,1,none⟩=some (.slice A n c)∧w'.cell? ⟨w.heap.size+1,1,none⟩=some (.slice B m d))∧Kp W w')
   (with_reducible first|(refine HS.out _ ?_;assumption)|(refine HS.out _ (Kp.drew ?_);assumption)|(refine' HS.out _ (Kp.drew (And.right ?_));rotate_left;assumption))
   (first
    | (go_at_call_of 186 (Value.slice A n c);have hk:=And.right ‹_∧Kp W _›;refine (TA.out _ hk).mono ?_;rintro e v4 ⟨A4,n4,c4,rfl,hI4,hb4⟩;have hp4:=Kp.trans hk hb4;(try have hI5:=hI5.below hb4);clear hk)
    | (go_at_call_of 186 (Value.slice B m d);have hk:=And.right ‹_∧Kp W _›;refine (TB.out _ hk).mono ?_;rintro e v5 ⟨A5,n5,c5,rfl,hI5,hb5⟩;have hp5:=Kp.trans hk hb5;(try have hI4:=hI4.below hb5);clear hk))
  all_goals
   (try go_wp2_with fail)
   go_meet
   first
    | exact ⟨A4,n4,c4,A5,n5,c5,rfl,rfl,Hj ⟨hp5,hI4,hI5⟩⟩
    | exact ⟨A4,n4,c4,A5,n5,c5,rfl,rfl,Hj ⟨hp4,hI4,hI5⟩⟩
 case rest =>
  obtain ⟨A1,n1,c1,A2,n2,c2,rfl,rfl,HV⟩:=hcut;generalize wc=V at *;have HB2:=Hj hB2;have HBW:=Hj hBW;clear TA TB HS s5 hB0 hB1 hB2 hBW
  go_wp2_with fail
  go_loopw [5,6] (fun t5 t6 wr=>∃ A1 n1 c1 A2 n2 c2 x y,t5=.slice A1 n1 c1∧t6=.slice A2 n2 c2∧Hid (Kp W wr∧HA wr A1 n1 c1 x∧HA wr A2 n2 c2 y∧Nat.gcd x y=Nat.gcd a b∧(hd x).length≤6000000000∧(hd y).length≤6000000000)) (fun _ t6 wr=>readV wr t6)
  case atStart=>exact ⟨A1,n1,c1,A2,n2,c2,a,b,rfl,rfl,Hj ⟨HV.out.1,HV.out.2.1,HV.out.2.2,rfl,HAB.out.1,HAB.out.2⟩⟩
  case round =>
   clear HV;obtain ⟨A1,n1,c1,A2,n2,c2,x,y,rfl,rfl,HX⟩:=hrel;have hbx:n1≤6000000000:=by rw [HX.out.2.1.1];exact HX.out.2.2.2.2.1
   have hby:n2≤6000000000:=by rw [HX.out.2.2.1.1];exact HX.out.2.2.2.2.2
   by_cases hy0:y=0
   ·subst hy0;have hn2:n2=0:=HX.out.2.2.1.zero.2 rfl;subst hn2;have hg:x=Nat.gcd a b:=by rw [← HX.out.2.2.2.1];exact (Nat.gcd_zero_right x).symm
    have TO:=Hj (of_any false A1 n1 c1 x wr HX.out.2.1.ra (by omega));rw [hg] at TO;simp only [show ∀ v:Nat,sg false v=(v:Int) from fun _=>rfl] at TO;have hr1:=(RS.start HB2.out).call HX.out.1;have hb1:Below W.heap.size W wr:=HX.out.1;have hBW:=HBW.out;clear hg HX hby
    go_wp2_with fail
    refine TO.out.mono ?_;rintro e w3 ⟨A3,k3,c3,rfl,hk3,hW3,hF3,hb3⟩;have hr3:=hr1.call hb3;obtain ⟨_,_,d0,d1,f0,f1⟩:=hr3.two;have hfin:=(retZ_close hBW (by omega) (by have:=HSZ.out;have h9:=hb1.size;omega) hr3 hk3 hW3 hF3).toN;simp only [show decide (((Nat.gcd a b:Nat):Int)<0)=false by simp] at *;obtain ⟨d0,d1,-,-⟩:=(hr3.done (.bool false) (.slice A3 k3 c3)).two;have HF:=Hj hfin;clear hfin hb1 hb3 hW3 hF3 hr1 hr3 TO;go_wp2;refine bodyPost_ret (v:=.agg #[.bool false,.slice A3 k3 c3]) ?_ rfl HF.out;simp [results,Tryz.results178,go_sem,d0,d1]
   ·have hn2:n2≠0:=fun h=>hy0 (HX.out.2.2.1.zero.1 h);have e1:decide ((0:Int)<(n2:Int))=true:=decide_eq_true (by omega);have e2:decide (0<n2)=true:=decide_eq_true (by omega);have HR:=Hj HX.out.2.2.1.read;have TD:=Hj (div_ra A1 A2 n1 c1 n2 c2 x y wr HX.out.2.1 HX.out.2.2.1 (Nat.pos_of_ne_zero hy0) (by omega) (by omega));have HY:=Hj hy0;clear hy0 hn2 hbx hby
    go_wp2_with fail
    refine TD.out.mono ?_;rintro e v7 ⟨A6,n6,c6,A7,n7,c7,rfl,h6,h7,hb7⟩;have hyp:=Nat.mod_lt x (Nat.pos_of_ne_zero HY.out);have HN:=Hj (show Kp W v7∧HA v7 A2 n2 c2 y∧HA v7 A7 n7 c7 (x % y)∧Nat.gcd y (x % y)=Nat.gcd a b∧(hd y).length≤6000000000∧(hd (x % y)).length≤6000000000 from ⟨Kp.trans HX.out.1 hb7,HX.out.2.2.1.below hb7,h7,by rw [← HX.out.2.2.2.1,Nat.gcd_comm y,← Nat.gcd_rec,Nat.gcd_comm],HX.out.2.2.2.2.2,Nat.le_trans (hd_len_mono (Nat.le_of_lt hyp)) HX.out.2.2.2.2.2⟩);have HM:=Hj (show readV v7 (.slice A7 n7 c7)<readV wr (.slice A2 n2 c2) by rw [h7.read,HR.out];exact hyp);clear h6 h7 hb7 hyp TD HR HX;go_wp2;go_roundw
    case rel=>exact ⟨A2,n2,c2,A7,n7,c7,y,x % y,rfl,rfl,HN.out⟩
    case measure=>exact HM.out
end Go.Proofs.YtjajigkacccdgaaGreat
