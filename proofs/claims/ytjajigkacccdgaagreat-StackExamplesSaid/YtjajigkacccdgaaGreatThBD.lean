/-
Lemmas of the walk; no further conditions.
-/
import Derived.Test.YtjajigkacccdgaaGreatThBC
set_option linter.unusedVariables false
set_option linter.unusedSimpArgs false
set_option maxRecDepth 100000
set_option maxHeartbeats 16000000
namespace Go.Proofs.YtjajigkacccdgaaGreat
open Go.RowKit
open Wd
def tp (a k:Nat):Nat:=a / 65536 ^ k
theorem tp_step (a j:Nat):tp a j=tp a (j+1)*65536+dg a j:=by
 have:=div_step a j;unfold tp dg;omega
theorem tp_top {a n:Nat} (h:a<65536 ^ n):tp a n=0:=Nat.div_eq_of_lt h
theorem tp_zero (a:Nat):tp a 0=a:=by unfold tp;rw [Nat.pow_zero,Nat.div_one]
theorem tp_le (a k:Nat):tp a k≤a:=Nat.div_le_self _ _
theorem RA.cells {w:World} {A:Option Addr} {n c v:Nat} (h:RA w A n c v) (hn:n≠0):∃ b o,A=some ⟨b,o,none⟩∧b<w.heap.size∧∀ j,j<n→w.cell? ⟨b,o+j,none⟩=some (.int .i64 ((dg v j:Nat):Int)):=by
 obtain ⟨hs,h1,h2,h3,h4⟩:=h;obtain ⟨b,o,e,hb,hc⟩:=h1.2 hn;refine ⟨b,o,e,hb,fun j hj=>?_⟩;rw [hc j hj,vh_get h2,h3]
 rfl
theorem small_ra (A:Option Addr) (n c a:Nat) (w:World) (h:RA w A n c a) (hn:n≤3) :
  Calls Tryz.prog 214 #[.slice A n c] w fun e w'=>e=.returned (.int .i64 (a:Int))∧w'=w:=by
 have HX:=Hj h;have ha:a<281474976710656:=Nat.lt_of_lt_of_le h.lt (Nat.pow_le_pow_right (by decide) hn);clear h;go_enter Tryz.func214,Tryz.ntmps214
 go_wp2_with fail
 go_loopw [3,4] (fun t3 t4 wr=>∃ k:Nat,k≤n∧t4=.int .i64 ((k:Int)-1)∧t3=.int .i64 ((tp a k:Nat):Int)∧Hid (wr=w)) (fun _ t4 _=>(intOf t4+1).toNat)
 case atStart=>exact ⟨n,Nat.le_refl _,by first|rfl|go_num,by rw [tp_top HX.out.lt];rfl,by first|exact Hj rfl|exact Hj trivial⟩
 case round =>
  obtain ⟨k,hk,rfl,rfl,hW⟩:=hrel;obtain rfl:=hW.out;by_cases h0:k=0
  ·subst h0;rw [tp_zero];go_wp2;go_ret;exact ⟨rfl,rfl⟩
  ·obtain ⟨j,rfl⟩:∃ j,k=j+1:=⟨k-1,by omega⟩;obtain ⟨b,o,rfl,hb,hc⟩:=HX.out.cells (by omega);have cj:=hc j (by omega);have hs:=tp_step a j;have l1:=dg_lt a j;have l2:=tp_le a j;have ej:(((j+1:Nat):Int)-1)=(j:Int):=by omega
   simp only [ej];generalize tp a (j+1)=x at *;generalize dg a j=y at *;generalize hz:tp a j=z at *;have HZ:=Hj hz;clear hz;obtain ⟨p,hp⟩:∃ p:Nat,p=x*65536:=⟨_,rfl⟩;have e1:IntKind.i64.wrap ((x:Int)*65536)=(p:Int):=by rw [hp];exact IntWalk.i64_in _ (by omega)
   have f1:wrap64 ((x:Int)*65536)=(p:Int):=by rw [w64_in _ (by omega)];omega
   have e2:IntKind.i64.wrap ((p:Int)+(y:Int))=(z:Int):=by rw [IntWalk.i64_in _ (by omega)];omega
   have f2:wrap64 ((p:Int)+(y:Int))=(z:Int):=by rw [w64_in _ (by omega)];omega
   have j1:(0:Int)≤(j:Int):=by omega
   have j2:(j:Int)<(n:Int):=by omega
   clear hc hs hp;go_wp2;go_roundw
   case rel=>exact ⟨j,by omega,by first|rfl|go_num,by rw [HZ.out],by first|exact Hj rfl|exact Hj trivial⟩
   case measure=>simp [intOf]
theorem w_of {z:Int} {k:Nat} (hz:z=k) (hk:k≤281474976710656):IntKind.i64.wrap z=(k:Int)∧wrap64 z=(k:Int):=by
 subst hz;exact ⟨IntWalk.i64_in _ (by omega),w64_in _ (by omega)⟩
theorem lit3 (w:World) (r0 r1 r2:Int):IsAt (w.alloc (.cells #[.int .i64 r0,.int .i64 r1,.int .i64 r2] 3)) (some ⟨w.heap.size,0,none⟩) 3 [r0,r1,r2]:=by
 have hB:=Blk.new w 3 #[.int .i64 r0,.int .i64 r1,.int .i64 r2];refine ⟨rfl,fun _=>⟨w.heap.size,0,rfl,hB.lt,fun j hj=>?_⟩⟩;rw [Nat.zero_add,hB.cell];obtain rfl|rfl|rfl:j=0∨j=1∨j=2:=by omega
 all_goals rfl
theorem wr_nat {x:Nat} (h:x≤281474976710656):IntKind.i64.wrap (x:Int)=(x:Int)∧wrap64 (x:Int)=(x:Int):=⟨IntWalk.i64_in _ (by omega),w64_in _ (by omega)⟩
theorem back_ra (v:Nat) (w:World) (hv:v<281474976710656) :
  Calls Tryz.prog 213 #[.int .i64 (v:Int)] w (RetH w v):=by
 have hq:v / 65536<4294967296:=by omega
 have e1:=tmod_dg v;have e2:=tdiv_dg v;have e1':(v:Int) % 65536=((v % 65536:Nat):Int):=by simp
 have e2':(v:Int) / 65536=((v / 65536:Nat):Int):=by simp
 have hR:vh [((v % 65536:Nat):Int),((v / 65536 % 65536:Nat):Int),((v / 65536 / 65536:Nat):Int)]=v∧Dg [((v % 65536:Nat):Int),((v / 65536 % 65536:Nat):Int),((v / 65536 / 65536:Nat):Int)] :=
  ⟨by simp only [vh,Int.toNat_natCast];omega,Dg.cons (by omega) (by omega) (Dg.cons (by omega) (by omega) (Dg.cons (by omega) (by omega) Dg.nil))⟩
 have e3:=tmod_dg (v / 65536);have e4:=tdiv_dg (v / 65536);have e3':((v / 65536:Nat):Int) % 65536=((v / 65536 % 65536:Nat):Int):=by simp
 have e4':((v / 65536:Nat):Int) / 65536=((v / 65536 / 65536:Nat):Int):=by simp
 obtain ⟨w1,u1⟩:=wr_nat (Nat.le_trans (Nat.mod_le v 65536) (Nat.le_of_lt hv));obtain ⟨w2,u2⟩:=wr_nat (Nat.le_trans (Nat.div_le_self v 65536) (Nat.le_of_lt hv));obtain ⟨w3,u3⟩:=wr_nat (Nat.le_trans (Nat.mod_le (v / 65536) 65536) (Nat.le_trans (Nat.div_le_self v 65536) (Nat.le_of_lt hv)));obtain ⟨w4,u4⟩:=wr_nat (Nat.le_trans (Nat.div_le_self (v / 65536) 65536) (Nat.le_trans (Nat.div_le_self v 65536) (Nat.le_of_lt hv)));generalize v % 65536=r0 at *;generalize v / 65536 % 65536=r1 at *;generalize v / 65536 / 65536=r2 at *;generalize v / 65536=q1 at *;have hI:RA (w.alloc (.cells #[.int .i64 (r0:Int),.int .i64 (r1:Int),.int .i64 (r2:Int)] 3)) (some ⟨w.heap.size,0,none⟩) 3 3 v:=⟨[(r0:Int),(r1:Int),(r2:Int)],lit3 w _ _ _,hR.2,hR.1,Nat.le_refl _⟩;have T:=Hj (trim_ra (some ⟨w.heap.size,0,none⟩) 3 3 v _ hI (by omega));have HB:=Hj ((Below.refl w.heap.size w).alloc (Nat.le_refl _) (.cells #[.int .i64 (r0:Int),.int .i64 (r1:Int),.int .i64 (r2:Int)] 3));have hv1:(0:Int)≤(v:Int):=Int.natCast_nonneg _;have hq1:(0:Int)≤(q1:Int):=Int.natCast_nonneg _;clear hI hR hv hq;go_enter Tryz.func213,Tryz.ntmps213
 go_wp2_with fail
 refine T.out.mono ?_;rintro e w1 ⟨A1,n1,rfl,hI1,rfl⟩;have HI:=Hj hI1;clear hI1;go_wp2;go_ret;exact ⟨A1,n1,3,rfl,HI.out,HB.out⟩
theorem Own.lit {base:Nat} (w:World) (x:Int) (e:TypeId) (hb:base≤w.heap.size):Own base e 1 (w.alloc (.cells #[.int .i64 x] e)) (some ⟨w.heap.size,0,none⟩) 1 1 [.int .i64 x] :=
 ⟨rfl,Or.inr ⟨w.heap.size,1,#[.int .i64 x],rfl,hb,heap_alloc_new w _,Nat.le_refl _,by decide,rfl,rfl⟩⟩
theorem RA.srcOf {w:World} {A:Option Addr} {n c v:Nat} (h:RA w A n c v):∃ hs,SrcAt w A n 1 (hs.map (Value.int .i64))∧Dg hs∧vh hs=v∧hs.length=n:=by
 obtain ⟨hs,h1,h2,h3,h4⟩:=h;exact ⟨hs,h1.src,h2,h3,h1.1⟩
theorem Own.front {base:Nat} {e:TypeId} {w:World} {A:Option Addr} {n c x v:Nat} {hs:List Int} (h:Own base e 1 w A (1+n) c ([.int .i64 (x:Int)] ++ hs.map (Value.int .i64))) (hd:Dg hs) (hv:vh hs=v) (hx:x<65536):RA w A (1+n) c (x+65536*v):=by
 have h2:Own base e 1 w A (1+n) c (((x:Int) :: hs).map (Value.int .i64)):=h;have:=h2.ra (Dg.cons (by omega) (by omega) hd)
 rwa [vh_cons,Int.toNat_natCast,hv] at this
def DRow (w:World) (g:Nat) (xs:List Int):Prop:=Blk w g 3 (xs.map (Value.int .i64)).toArray
theorem DRow.cell {w:World} {g:Nat} {xs:List Int} (h:DRow w g xs) {i:Nat} (hi:i<xs.length):w.cell? ⟨g,i,none⟩=some (.int .i64 (xs[i]?.getD 0)):=by
 rw [Blk.cell h i];simp [hi]
theorem DRow.frozen {w:World} {g:Nat} {xs:List Int} (h:DRow w g xs) (i:Nat):w.frozen? ⟨g,i,none⟩=false:=Blk.frozen h i
theorem DRow.set {w:World} {g:Nat} {xs:List Int} (h:DRow w g xs) (i:Nat) (v:Int):DRow (w.setCell ⟨g,i,none⟩ (.int .i64 v)) g (xs.set i v):=by
 have:=Blk.set h i (.int .i64 v);unfold DRow;simpa [List.map_set] using this
theorem DRow.kp {w w':World} {g:Nat} {xs:List Int} (h:DRow w g xs) (hb:Kp w w'):DRow w' g xs:=Blk.below h hb (Blk.lt h)
theorem DRow.at {w:World} {g:Nat} {xs:List Int} {n:Nat} (h:DRow w g xs) (hl:xs.length=n):IsAt w (some ⟨g,0,none⟩) n xs :=
 ⟨hl,fun _=>⟨g,0,rfl,Blk.lt h,fun j hj=>by rw [Nat.zero_add];exact h.cell (by omega)⟩⟩
theorem DRow.start (w:World) (n:Nat):DRow (w.alloc (.cells (Array.replicate n (.int .i64 0)) 3)) w.heap.size (List.replicate n 0):=by
 unfold DRow;have:=Blk.new w 3 (Array.replicate n (.int .i64 0));simpa using this
theorem run_make_q (k:Nat) (hk:k≤20000000000) (w:World) :
  (Instr.makeSlice 199 (.int .i64 (k:Int)) (.int .i64 (k:Int))).run Tryz.prog w=.ok (.slice (some ⟨w.heap.size,0,none⟩) k k) (w.alloc (.cells ((List.replicate k (0:Int)).map (Value.int .i64)).toArray 3)):=by
 obtain ⟨i0,hi,hz0,hz1,hz2⟩:=info_parts (show (Tryz.prog.info? 3).map (fun i=>(i.zero,i.size,i.bytes))=some (some (.int .i64 0),1,8) by kernel_rfl);have h:=run_make (P:=Tryz.prog) w 199 3 i0 _ Tryz.underlying199 hi hz0 .i64 .i64 k k (by omega) (Int.le_refl _) (by rw [hz2];omega) (by omega);rw [h,hz1];simp only [Int.toNat_natCast,Value.cells,Nat.mul_one];rw [made_ints]
def RetHH (w:World) (q r:Nat) (e:Ending) (w':World):Prop:=∃ A1 n1 c1 A2 n2 c2,e=.returned (.tuple #[.slice A1 n1 c1,.slice A2 n2 c2])∧HA w' A1 n1 c1 q∧HA w' A2 n2 c2 r∧Below w.heap.size w w'
theorem QuoI.ra {v n g:Nat} {hs:List Int} {w:World} (h:QuoI v n 0 hs) (hr:DRow w g hs) (hv:v<65536 ^ n):RA w (some ⟨g,0,none⟩) n n v:=by
 obtain ⟨h1,h2⟩:=h.done hv;exact ⟨hs,hr.at h.1,h1,h2,Nat.le_refl _⟩
theorem HA.lt_of_len {w w':World} {A B:Option Addr} {n c m d a b:Nat} (h:HA w A n c a) (h':HA w' B m d b) (hlt:n<m):a<b:=by
 rcases Nat.lt_or_ge a b with h1|h1
 ·exact h1
 ·have:=hd_len_mono h1;rw [← h.1,← h'.1] at this;omega
theorem lit1 (w:World) (r0:Int):IsAt (w.alloc (.cells #[.int .i64 r0] 3)) (some ⟨w.heap.size,0,none⟩) 1 [r0]:=by
 have hB:=Blk.new w 3 #[.int .i64 r0];refine ⟨rfl,fun _=>⟨w.heap.size,0,rfl,hB.lt,fun j hj=>?_⟩⟩;rw [Nat.zero_add,hB.cell];obtain rfl:j=0:=by omega
 rfl
theorem lit1_ra (w:World) {r:Nat} (h:r<65536):RA (w.alloc (.cells #[.int .i64 (r:Int)] 3)) (some ⟨w.heap.size,0,none⟩) 1 1 r :=
 ⟨[(r:Int)],lit1 w _,Dg.cons (by omega) (by omega) Dg.nil,by simp [vh],Nat.le_refl _⟩
theorem div_small (A B:Option Addr) (n c m d a b:Nat) (w:World) (h:RA w A n c a) (h':RA w B m d b) (hb0:0<b) (hn:n≤3) (hm:m≤3) :
  Calls Tryz.prog 210 #[.slice A n c,.slice B m d] w (RetHH w (a / b) (a % b)):=by
 have ha:a<281474976710656:=Nat.lt_of_lt_of_le h.lt (Nat.pow_le_pow_right (by decide) hn);have hb:b<281474976710656:=Nat.lt_of_lt_of_le h'.lt (Nat.pow_le_pow_right (by decide) hm);have d1:decide ((n:Int)≤3)=true:=decide_eq_true (by omega);have d2:decide ((m:Int)≤3)=true:=decide_eq_true (by omega);have d3:decide (n≤3)=true:=decide_eq_true (by omega);have d4:decide (m≤3)=true:=decide_eq_true (by omega);have S1:=Hj (fun W (hW:Below w.heap.size w W)=>small_ra A n c a W (h.below hW) hn);have S2:=Hj (fun W (hW:Below w.heap.size w W)=>small_ra B m d b W (h'.below hW) hm);have hq:(a:Int).tdiv b=((a / b:Nat):Int):=by rw [Int.tdiv_eq_ediv_of_nonneg (Int.natCast_nonneg _)];simp
 have hq':(a:Int) / b=((a / b:Nat):Int):=by simp
 have hr:(a:Int).tmod b=((a % b:Nat):Int):=by rw [Int.tmod_eq_emod_of_nonneg (Int.natCast_nonneg _)];simp
 have hr':(a:Int) % b=((a % b:Nat):Int):=by simp
 have hxy:a / b≤a:=Nat.div_le_self _ _;have hxm:a % b≤a:=Nat.mod_le _ _;have hyz:((b:Int)=0)=False:=by simp;omega
 have hyn:(b=0)=False:=by simp;omega
 have B1:=Hj (fun W=>back_ra (a / b) W (Nat.lt_of_le_of_lt hxy ha));have B2:=Hj (fun W=>back_ra (a % b) W (Nat.lt_of_le_of_lt hxm ha));obtain ⟨w1,u1⟩:=wr_nat (Nat.le_of_lt (Nat.lt_of_le_of_lt hxy ha));obtain ⟨w2,u2⟩:=wr_nat (Nat.le_of_lt (Nat.lt_of_le_of_lt hxm ha));generalize a / b=q at *;generalize a % b=r at *;have x1:(0:Int)≤(a:Int):=Int.natCast_nonneg _;have y1:(0:Int)<(b:Int):=Int.natCast_pos.2 hb0;have y2:(b:Int)≠0:=by simp at hyz;exact fun e=>hyz (by exact_mod_cast e)
 clear h h' hxy hxm hn hm ha hb;go_enter Tryz.func210,Tryz.ntmps210
 go_wp2_with fail
 refine (S1.out _ (Below.refl _ _)).mono ?_;rintro e w1 ⟨rfl,rfl⟩
 go_wp2_with fail
 refine (S2.out _ (Below.refl _ _)).mono ?_;rintro e w1 ⟨rfl,rfl⟩
 go_wp2_with fail
 refine (B1.out _).mono ?_;rintro e w2 ⟨A1,n1,c1,rfl,h1,hb2⟩;have H1:=Hj h1;have HB2:=Hj hb2;clear h1 hb2
 go_wp2_with fail
 refine (S1.out _ HB2.out).mono ?_;rintro e w3 ⟨rfl,rfl⟩
 go_wp2_with fail
 refine (S2.out _ HB2.out).mono ?_;rintro e w3 ⟨rfl,rfl⟩
 go_wp2_with fail
 refine (B2.out _).mono ?_;rintro e w3 ⟨A2,n2,c2,rfl,h2,hb3⟩;have H2:=Hj h2;have H1:=Hj (H1.out.below hb3);have HB3:=Hj (HB2.out.trans (hb3.mono HB2.out.size));clear h2 hb3;go_wp2;go_ret2;exact ⟨A1,n1,c1,A2,n2,c2,rfl,H1.out,H2.out,HB3.out⟩
theorem div_digit (A B:Option Addr) (n c d a b:Nat) (w:World) (h:RA w A n c a) (h':RA w B 1 d b) (hb0:0<b) (hn3:3<n) (hn:n≤12000000000) :
  Calls Tryz.prog 210 #[.slice A n c,.slice B 1 d] w (RetHH w (a / b) (a % b)):=by
 have hb:b<65536:=by have:=h'.lt;simpa using this
 obtain ⟨bb,ob,hBe,hbb,hcb⟩:=h'.cells (by omega);have cb:=hcb 0 (by omega);have edb:dg b 0=b:=by unfold dg;simp;omega
 rw [edb,Nat.add_zero] at cb;subst hBe;have HX:=Hj h;have HC:=Hj cb;have HBB:=Hj hbb;have HAL:=Hj h.lt;have d1:decide ((n:Int)≤3)=false:=decide_eq_false (by omega);have d2:decide (n≤3)=false:=decide_eq_false (by omega);clear h h' hcb edb cb hbb;have hmk:=fun w=>run_make_q n (by omega) w;go_enter Tryz.func210,Tryz.ntmps210
 go_wp2_with fail
 have hrow:=DRow.start w n;have hbel:Below w.heap.size w (w.alloc (.cells (Array.replicate n (.int .i64 0)) 3)):=(Below.refl _ _).alloc (Nat.le_refl _) _;generalize w.alloc (.cells (Array.replicate n (.int .i64 0)) 3)=W at *;have HROW:=Hj hrow;have HBEL:=Hj hbel;clear hrow hbel hmk d1 d2
 go_loopw [7,8] (fun t7 t8 wr=>∃ (t:Nat) (hs:List Int),t≤n∧t8=.int .i64 ((t:Int)-1)∧t7=.int .i64 ((rst a b t:Nat):Int)∧Hid (Below w.heap.size w wr∧DRow wr w.heap.size hs∧QuoI (a / b) n t hs)) (fun _ t8 _=>(intOf t8+1).toNat)
 case atStart=>exact ⟨n,List.replicate n 0,Nat.le_refl _,by first|rfl|go_num,by rw [rst_top HAL.out];rfl,HBEL.out,HROW.out,QuoI.start _ _⟩
 case round =>
  clear HROW HBEL;obtain ⟨t,hs,ht,rfl,rfl,hR⟩:=hrel;by_cases h0:t=0
  ·subst h0;obtain ⟨hB,hro,hq⟩:=hR.out;have hra:=hq.ra hro (Nat.lt_of_le_of_lt (Nat.div_le_self _ _) HAL.out);rw [rst_zero];have hml:a % b<65536:=Nat.lt_trans (Nat.mod_lt _ hb0) hb;have T:=Hj (trim_ra _ n n (a / b) wr hra (by omega));have k1:=(Kp.refl wr).alloc (.cells #[.int .i64 ((a % b:Nat):Int)] 3);have T2:=Hj (trim_ra _ 1 1 (a % b) _ (lit1_ra wr hml) (by omega));have HB:=Hj (hB.trans (Below.mono k1 hB.size));have HK1:=Hj k1;generalize a % b=r at *;clear hB hra hR hq hro k1 hml
   go_wp2_with fail
   refine T.out.mono ?_;rintro e w1 ⟨A1,n1,rfl,h1,rfl⟩;have H1:=Hj (h1.below HK1.out);clear h1
   go_wp2_with fail
   refine T2.out.mono ?_;rintro e w2 ⟨A2,n2,rfl,h2,rfl⟩;have H2:=Hj h2;clear h2;go_wp2;go_ret2;exact ⟨A1,n1,n,A2,n2,1,rfl,H1.out,H2.out,HB.out⟩
  ·obtain ⟨j,rfl⟩:∃ j,t=j+1:=⟨t-1,by omega⟩;obtain ⟨ba,oa,hAe,hba,hca⟩:=HX.out.cells (by omega);have cj0:=hca j (by omega);subst hAe;have ej:(((j+1:Nat):Int)-1)=(j:Int):=by omega
   simp only [ej];have j1:(0:Int)≤(j:Int):=by omega
   have j2:(j:Int)<(n:Int):=by omega
   obtain ⟨hB,hro,hq⟩:=hR.out;have cj:=(hB.cell (p:=⟨ba,oa+j,none⟩) hba).trans cj0;have cb:=(hB.cell (p:=⟨bb,ob,none⟩) HBB.out).trans HC.out;have cq:=hro.cell (i:=j) (by rw [hq.1];omega);have fq:=hro.frozen j;have hyz:((b:Int)=0)=False:=by simp;omega
   have hyn:(b=0)=False:=by simp;omega
   have y1:(0:Int)<(b:Int):=Int.natCast_pos.2 hb0;have hjn:j<n:=by omega
   have l1:=rst_lt a b (j+1) hb0;have l2:=dg_lt a j;obtain ⟨p,hp⟩:∃ p:Nat,p=rst a b (j+1)*65536:=⟨_,rfl⟩;obtain ⟨u,hu⟩:∃ u:Nat,u=p+dg a j:=⟨_,rfl⟩;have hul:u≤281474976710656:=by omega
   have e1:IntKind.i64.wrap (((rst a b (j+1):Nat):Int)*65536)=(p:Int):=by rw [hp];exact IntWalk.i64_in _ (by omega)
   have f1:wrap64 (((rst a b (j+1):Nat):Int)*65536)=(p:Int):=by rw [w64_in _ (by omega)];omega
   have e2:IntKind.i64.wrap ((p:Int)+((dg a j:Nat):Int))=(u:Int):=by rw [IntWalk.i64_in _ (by omega)];omega
   have f2:wrap64 ((p:Int)+((dg a j:Nat):Int))=(u:Int):=by rw [w64_in _ (by omega)];omega
   obtain ⟨hs1,hs2⟩:=rst_step a b j hb0;rw [← hp,← hu] at hs1 hs2;have g1:(u:Int).tdiv b=((dg (a / b) j:Nat):Int):=by rw [Int.tdiv_eq_ediv_of_nonneg (Int.natCast_nonneg _),← hs1];simp
   have g1':(u:Int) / b=((dg (a / b) j:Nat):Int):=by rw [← hs1];simp
   have g2:(u:Int).tmod b=((rst a b j:Nat):Int):=by rw [Int.tmod_eq_emod_of_nonneg (Int.natCast_nonneg _),← hs2];simp
   have g2':(u:Int) % b=((rst a b j:Nat):Int):=by rw [← hs2];simp
   obtain ⟨w1,u1⟩:=wr_nat (Nat.le_trans (Nat.le_of_lt (dg_lt (a / b) j)) (by decide));obtain ⟨w2,u2⟩:=wr_nat (Nat.le_trans (Nat.le_of_lt (rst_lt a b j hb0)) (Nat.le_trans (Nat.le_of_lt hb) (by decide)));have x1:(0:Int)≤(u:Int):=Int.natCast_nonneg _;have HF:=Hj (show Below w.heap.size w (wr.setCell ⟨w.heap.size,j,none⟩ (.int .i64 ((dg (a / b) j:Nat):Int)))∧DRow (wr.setCell ⟨w.heap.size,j,none⟩ (.int .i64 ((dg (a / b) j:Nat):Int))) w.heap.size (hs.set j ((dg (a / b) j:Nat):Int))∧QuoI (a / b) n j (hs.set j ((dg (a / b) j:Nat):Int)) from ⟨hB.setCell (p:=⟨w.heap.size,j,none⟩) (Nat.le_refl _) _,hro.set j _,hq.step hjn rfl⟩);generalize dg a j=da at *;generalize dg (a / b) j=qd at *;generalize rst a b (j+1)=r0 at *;generalize hr1:rst a b j=r1 at *;have HR1:=Hj hr1;clear hr1;generalize hs[j]?.getD 0=old at *;clear hs1 hs2 hu hp hca cj0 hB hro hq hR l1 l2 hul HX HC;have hne:bb≠w.heap.size:=Nat.ne_of_lt HBB.out;have cb2:=(World.cell?_setCell_other wr ⟨w.heap.size,j,none⟩ ⟨bb,ob,none⟩ (.int .i64 (qd:Int)) (fun e=>hne (by first|exact congrArg Addr.block e|exact (congrArg Addr.block e).symm))).trans cb;go_wp2
   go_region_with (fail)
   all_goals
    go_wp2;go_roundw
    case rel=>exact ⟨j,_,by omega,by first|rfl|go_num,by rw [HR1.out],by first|exact Hj HF.out|exact Hj ⟨HF.out.1.drew,HF.out.2.1,HF.out.2.2⟩⟩
    case measure=>simp [intOf]
theorem HA.setAway {w:World} {A:Option Addr} {n c v B:Nat} (h:HA w A n c v) (hf:n≠0→∃ b o,A=some ⟨b,o,none⟩∧B≤b) {p:Addr} (hp:p.block<B) (u:Value):HA (w.setCell p u) A n c v:=by
 refine ⟨h.1,⟨h.2.1.1,fun h0=>?_⟩,h.2.2⟩;obtain ⟨b,o,e,hlt,hc⟩:=h.2.1.2 h0;obtain ⟨b',o',e',hb'⟩:=hf h0;rw [e] at e';cases e';refine ⟨b,o,e,by simpa [World.setCell] using hlt,fun j hj=>?_⟩;rw [World.cell?_setCell_other _ _ _ _ (fun e=>by subst e;simp at hp;omega)];exact hc j hj
theorem div_long (A B:Option Addr) (n c m d a b:Nat) (w:World) (h:HA w A n c a) (h':HA w B m d b) (hb0:0<b) (hn:n≤12000000000) (hm:m≤12000000000) (hm1:m≠1) (h3:3<n∨(n≤3∧3<m)) :
  Calls Tryz.prog 210 #[.slice A n c,.slice B m d] w (RetHH w (a / b) (a % b)):=by
 have HX:=Hj h.ra;have HRB:=Hj h';have HB0:=Hj hb0;have HAL:=Hj h.ra.lt;have HBL:=Hj h'.ra.lt;obtain ⟨ii,hii,hz0,hz1,hz2⟩:=info_parts info_int;have HI:=Hj hii;have HZ0:=Hj hz0;have HZ1:=Hj hz1;have HZ2:=Hj hz2;have d1:((m:Int) == 1)=false:=by simp;omega
 have d2:(m == 1)=false:=by simp;omega
 have hd:(decide ((n:Int)≤3)=false∧decide (n≤3)=false)∨(decide ((n:Int)≤3)=true∧decide (n≤3)=true∧decide ((m:Int)≤3)=false∧decide (m≤3)=false):=by
  rcases h3 with h3|⟨h3,h4⟩
  ·exact Or.inl ⟨decide_eq_false (by omega),decide_eq_false (by omega)⟩
  ·exact Or.inr ⟨decide_eq_true (by omega),decide_eq_true (by omega),decide_eq_false (by omega),decide_eq_false (by omega)⟩
 have hmk:=fun w=>run_make_q n (by omega) w;clear h h' h3 hm1 hii hz0 hz1 hz2;rcases hd with ⟨d3,d4⟩|⟨d3,d4,d5,d6⟩
 all_goals
  go_enter Tryz.func210,Tryz.ntmps210
  go_wp2_with fail
  clear d1 d2 d3 d4 hmk
  (try clear d5 d6)
  have hrow:=DRow.start w n;have hbel:Below w.heap.size w (w.alloc (.cells (Array.replicate n (.int .i64 0)) 3)):=(Below.refl _ _).alloc (Nat.le_refl _) _;generalize w.alloc (.cells (Array.replicate n (.int .i64 0)) 3)=W at *;have HROW:=Hj hrow;have HBEL:=Hj hbel;clear hrow hbel
  go_loopw [9,10] (fun t9 t10 wr=>∃ (t:Nat) (hs:List Int) (Ar:Option Addr) (nr cr:Nat),t≤n∧t10=.int .i64 ((t:Int)-1)∧t9=.slice Ar nr cr∧Hid (Below w.heap.size w wr∧DRow wr w.heap.size hs∧QuoI (a / b) n t hs∧HA wr Ar nr cr (rst a b t))) (fun _ t10 _=>(intOf t10+1).toNat)
  case atStart=>exact ⟨n,List.replicate n 0,none,0,0,Nat.le_refl _,by first|rfl|go_num,rfl,HBEL.out,HROW.out,QuoI.start _ _,by rw [rst_top HAL.out];exact ⟨by rw [hd_zero];rfl,by rw [hd_zero];exact ⟨rfl,fun h=>absurd rfl h⟩,Nat.le_refl _⟩⟩
  case round =>
   clear HROW HBEL;obtain ⟨t,hs,Ar,nr,cr,ht,rfl,rfl,hR⟩:=hrel;by_cases h0:t=0
   ·subst h0;obtain ⟨hB,hro,hq,hr⟩:=hR.out;have hra:=hq.ra hro (Nat.lt_of_le_of_lt (Nat.div_le_self _ _) HAL.out);rw [rst_zero] at hr;have T:=Hj (trim_ra _ n n (a / b) wr hra (by omega));have HB:=Hj hB;have HR:=Hj hr;clear hB hra hR hq hro hr
    go_wp2_with fail
    refine T.out.mono ?_;rintro e w1 ⟨A1,n1,rfl,h1,hw1⟩;rw [hw1] at h1 ⊢;have H1:=Hj h1;clear h1 hw1;go_wp2;go_ret2;exact ⟨A1,n1,n,Ar,nr,cr,rfl,H1.out,HR.out,HB.out⟩
   ·obtain ⟨j,rfl⟩:∃ j,t=j+1:=⟨t-1,by omega⟩;obtain ⟨ba,oa,hAe,hba,hca⟩:=HX.out.cells (by omega);have cj0:=hca j (by omega);have ej:(((j+1:Nat):Int)-1)=(j:Int):=by omega
    simp only [ej];have j1:(0:Int)≤(j:Int):=by omega
    have j2:(j:Int)<(n:Int):=by omega
    obtain ⟨hB,hro,hq,hr⟩:=hR.out;have cj:=(hB.cell (p:=⟨ba,oa+j,none⟩) hba).trans cj0;obtain ⟨ds,hsr,hsd,hsv,hsl⟩:=hr.ra.srcOf;have l1:=rst_lt a b (j+1) HB0.out;have hnr:=hr.len (Nat.lt_trans l1 HBL.out);have l2:=dg_lt a j;have k1:=(Kp.refl wr).alloc (.cells #[.int .i64 ((dg a j:Nat):Int)] 3);have o1:=Own.lit (base:=wr.heap.size) wr ((dg a j:Nat):Int) 3 (Nat.le_refl _);have m1:=hsr.below k1;have HSD:=Hj hsd;have HSV:=Hj hsv;have HL2:=Hj l2;have HR0:=Hj (And.intro hB (And.intro hro hq));obtain ⟨x,hx⟩:∃ x,x=dg a j+65536*rst a b (j+1):=⟨_,rfl⟩;have hxs:=rst_step a b j HB0.out;rw [show rst a b (j+1)*65536+dg a j=x by rw [hx];omega] at hxs;have HX1:=Hj hxs.1;have HX2:=Hj hxs.2;have hxb:x<65536*b:=by omega
    have HXB:=Hj hxb;have HXM:=Hj (show x<65536 ^ (m+1) by
     rw [Nat.pow_succ,Nat.mul_comm];exact Nat.lt_trans hxb (Nat.mul_lt_mul_of_pos_left HBL.out (by decide)))
    have HHX:=Hj hx;clear hca hR hB hro hq hr hsr hsd hsv hsl l1 l2 hxs hx hxb cj0;rw [hAe];generalize rst a b (j+1)=r0 at *
    go_wp2_with (first
     | (at_builtin;refine wpList_append_my rfl (base:=wr.heap.size) (e:=3) (size:=1) (bytes:=8) (.tmp 83) (.tmp 84) 199 rfl Tryz.underlying199 HI.out HZ0.out HZ1.out HZ2.out rfl (by decide) (xs:=[.int .i64 ((dg a j:Nat):Int)]) (news:=ds.map (Value.int .i64)) rfl (by exact o1) rfl (by exact m1) (by simp only [maxLen];omega) (by omega) (by exact k1.size) ?_
        intro B1 cb1 w4 hO1 hb1 hk1;have g1:Kp wr w4:=Below.trans k1 hb1;clear hb1 hk1))
    have hra4:=Own.front (x:=dg a j) hO1 HSD.out HSV.out HL2.out;rw [← HHX.out] at hra4;have T:=Hj (trim_ra B1 (1+nr) cb1 x w4 hra4 (by omega));have hR3:=Hj (And.intro (HR0.out.1.trans (g1.mono HR0.out.1.size)) (And.intro (HR0.out.2.1.kp g1) HR0.out.2.2));clear hO1 hra4 g1 k1 o1 m1 HSD HSV HL2 HR0 HHX;refine T.out.mono ?_;rintro e w5 ⟨A2,n2,rfl,h2,hw5⟩;rw [← hw5] at hR3;have hR4:=And.intro hR3.out.1 (And.intro hR3.out.2.1 (And.intro hR3.out.2.2 h2));have hn2:=h2.len HXM.out;clear hR3 hw5 T;by_cases hlm:n2<m
    ·have d1:decide ((n2:Int)<(m:Int))=true:=decide_eq_true (by omega);have d2:decide (n2<m)=true:=decide_eq_true hlm;have HHI:=Hj (show x<1*b by rw [Nat.one_mul];exact h2.lt_of_len HRB.out hlm);clear h2 hlm
     go_wp2_with fail
     have HR4:=Hj hR4;clear hR4;obtain ⟨wv,hwv⟩:∃ v,v=w5:=⟨_,rfl⟩;rw [← hwv] at HR4 ⊢;clear hwv
     go_loopw [11,12] (fun t11 t12 wr=>∃ (lo hi:Nat),t11=.int .i64 (lo:Int)∧t12=.int .i64 (hi:Int)∧lo<hi∧hi≤65536∧Hid (Kp wv wr∧lo*b≤x∧x<hi*b)) (fun t11 t12 _=>(intOf t12).toNat-(intOf t11).toNat)
     case atStart=>exact ⟨0,1,rfl,rfl,by decide,by decide,Kp.refl _,by omega,HHI.out⟩
     case round =>
      clear HHI;obtain ⟨lo,hi,rfl,rfl,hlh,hhi,hQ⟩:=hrel;have W1:=Hj (w_of (z:=(hi:Int)-(lo:Int)) (k:=hi-lo) (by omega) (by omega));by_cases hgt:1<hi-lo
      ·obtain ⟨mid,hmid⟩:∃ mid,mid=(lo+hi) / 2:=⟨_,rfl⟩;have hm1:lo<mid:=by omega
       have hm2:mid<hi:=by omega
       have d1:decide ((1:Int)<((hi-lo:Nat):Int))=true:=decide_eq_true (by omega);have d2:decide (1<hi-lo)=true:=decide_eq_true hgt;have hme:mid-lo<hi-lo∧hi-mid<hi-lo:=by omega
       have W2:=Hj (w_of (z:=(lo:Int)+(hi:Int)) (k:=lo+hi) (by omega) (by omega));have W3:=Hj (wr_nat (x:=mid) (by omega));have hbm:b*mid<65536 ^ (m+1):=by rw [Nat.pow_succ];exact Nat.mul_lt_mul_of_lt_of_le HBL.out (by omega) (by decide)
       have T1:=Hj (times_ra B m d b mid wr (((HRB.out.below HR4.out.1).below hQ.out.1).ra) (by omega) (by omega));have T2:=Hj (fun (W:World) (hW:Kp wr W) (A1:Option Addr) (n1 c1:Nat) (h1:RA W A1 n1 c1 (b*mid)) (hn1:n1≤1000000000000)=>cmp_ra A1 A2 n1 c1 n2 cb1 (b*mid) x W h1 ((HR4.out.2.2.2.ra.below hQ.out.1).below hW) hn1 (by omega));have HME:=Hj hme;have HBM:=Hj hbm;have HMM:=Hj (And.intro hm1 hm2);have f3:((lo+hi:Nat):Int).tdiv 2=(mid:Int):=by rw [Int.tdiv_eq_ediv_of_nonneg (Int.natCast_nonneg _),hmid];simp
       have f4:((lo+hi:Nat):Int) / 2=(mid:Int):=by rw [hmid];simp
       have p1:(0:Int)≤((lo+hi:Nat):Int):=Int.natCast_nonneg _;have HHI:=Hj hhi;have HF34:=Hj (And.intro f3 (And.intro f4 (And.intro W1.out (And.intro W2.out W3.out))));clear hme hbm hm1 hm2 hmid hgt f3 f4 hhi W1 W2 W3;by_cases hle:b*mid≤x
       ·have hv:decide (cmpN (b*mid) x≤0)=true:=decide_eq_true (by unfold cmpN;split<;>(try split)<;>omega);have HQ2:=Hj (show mid*b≤x∧x<hi*b from ⟨by rw [Nat.mul_comm];exact hle,hQ.out.2.2⟩);have HKQ:=Hj hQ.out.1;generalize cmpN (b*mid) x=cv at *;obtain ⟨f3,f4,⟨e1,f1⟩,⟨e2,f2⟩,w1,u1⟩:=HF34.out;generalize ((lo+hi:Nat):Int)=sm at *;generalize ((hi-lo:Nat):Int)=df at *;clear hle hQ HF34
        go_wp2_with fail
        refine T1.out.mono ?_;rintro e w5 ⟨A5,n5,c5,rfl,h5,hb5⟩;have hn5:=h5.len HBM.out;have T3:=Hj (T2.out w5 hb5 A5 n5 c5 h5.ra (by omega));have HK5:=Hj hb5;clear h5 hb5 T1 T2
        go_wp2_with fail
        refine T3.out.mono ?_;rintro e w6 ⟨rfl,hw6⟩;rw [hw6];clear T3 hw6;have HFK:=Hj (show Kp wv w5∧mid*b≤x∧x<hi*b from ⟨HKQ.out.trans HK5.out,HQ2.out⟩);clear HKQ HQ2 HK5;go_wp2;go_roundw
        case rel=>exact ⟨mid,hi,rfl,rfl,HMM.out.2,HHI.out,HFK.out⟩
        case measure =>
         have:=HME.out.2;simp only [intOf,Int.toNat_natCast];exact this
       ·have hv:decide (cmpN (b*mid) x≤0)=false:=decide_eq_false (by rw [cmp_gt (by omega)];decide);have HQ2:=Hj (show lo*b≤x∧x<mid*b from ⟨hQ.out.2.1,by rw [Nat.mul_comm];omega⟩);have HKQ:=Hj hQ.out.1;generalize cmpN (b*mid) x=cv at *;obtain ⟨f3,f4,⟨e1,f1⟩,⟨e2,f2⟩,w1,u1⟩:=HF34.out;generalize ((lo+hi:Nat):Int)=sm at *;generalize ((hi-lo:Nat):Int)=df at *;clear hle hQ HF34
        go_wp2_with fail
        refine T1.out.mono ?_;rintro e w5 ⟨A5,n5,c5,rfl,h5,hb5⟩;have hn5:=h5.len HBM.out;have T3:=Hj (T2.out w5 hb5 A5 n5 c5 h5.ra (by omega));have HK5:=Hj hb5;clear h5 hb5 T1 T2
        go_wp2_with fail
        refine T3.out.mono ?_;rintro e w6 ⟨rfl,hw6⟩;rw [hw6];clear T3 hw6;have HFK:=Hj (show Kp wv w5∧lo*b≤x∧x<mid*b from ⟨HKQ.out.trans HK5.out,HQ2.out⟩);clear HKQ HQ2 HK5;go_wp2;go_roundw
        case rel=>exact ⟨lo,mid,rfl,rfl,HMM.out.1,Nat.le_trans (Nat.le_of_lt HMM.out.2) HHI.out,HFK.out⟩
        case measure =>
         have:=HME.out.1;simp only [intOf,Int.toNat_natCast];exact this
      ·have d1:decide ((1:Int)<((hi-lo:Nat):Int))=false:=decide_eq_false (by omega);have d2:decide (1<hi-lo)=false:=decide_eq_false hgt;obtain ⟨hs1,hs2⟩:=seek_done HB0.out hQ.out.2.1 hQ.out.2.2 (by omega);have hlx:b*lo≤x:=by rw [Nat.mul_comm];exact hQ.out.2.1
       have T1:=Hj (times_ra B m d b lo wr (((HRB.out.below HR4.out.1).below hQ.out.1).ra) (by omega) (by omega));have T2:=Hj (fun (W:World) (hW:Kp wr W) (A1:Option Addr) (n1 c1:Nat) (h1:RA W A1 n1 c1 (b*lo))=>sub_ra A2 A1 n2 cb1 n1 c1 x (b*lo) W ((HR4.out.2.2.2.ra.below hQ.out.1).below hW) h1 (by omega) hlx);have HKQ:=Hj hQ.out.1;have HS1:=Hj (hs1.trans HX1.out);have HS2:=Hj (hs2.trans HX2.out);obtain ⟨e1,f1⟩:=W1.out;generalize ((hi-lo:Nat):Int)=df at *;clear hs1 hs2 hlx hQ hgt W1
       go_wp2_with fail
       refine T1.out.mono ?_;rintro e w6 ⟨A5,n5,c5,rfl,h5,hb5⟩;have T3:=Hj (T2.out w6 hb5 A5 n5 c5 h5.ra);have HK5:=Hj hb5;clear h5 hb5 T1 T2
       go_wp2_with fail
       refine T3.out.mono ?_;rintro e w7 ⟨A6,n6,c6,rfl,h6,hb6,hf6⟩;rw [HS2.out] at h6;have hk6:Kp wv w7:=(HKQ.out.trans HK5.out).trans hb6;have hro:=HR4.out.2.1.kp hk6;have hqi:=HR4.out.2.2.1;have cq:=hro.cell (i:=j) (by rw [hqi.1];omega);have fq:=hro.frozen j;have hgv:w.heap.size<wv.heap.size:=HR4.out.2.1.lt;have hgw:w.heap.size<w6.heap.size:=Nat.lt_of_lt_of_le hgv (HKQ.out.trans HK5.out).size;have HF:=Hj (show Below w.heap.size w (w7.setCell ⟨w.heap.size,j,none⟩ (.int .i64 (lo:Int)))∧DRow (w7.setCell ⟨w.heap.size,j,none⟩ (.int .i64 (lo:Int))) w.heap.size (hs.set j (lo:Int))∧QuoI (a / b) n j (hs.set j (lo:Int))∧HA (w7.setCell ⟨w.heap.size,j,none⟩ (.int .i64 (lo:Int))) A6 n6 c6 (rst a b j) from
        ⟨(HR4.out.1.trans (hk6.mono HR4.out.1.size)).setCell (p:=⟨w.heap.size,j,none⟩) (Nat.le_refl _) _,hro.set j _,hqi.step (by omega) HS1.out,h6.setAway hf6 (by show w.heap.size<_;exact hgw) _⟩)
       generalize hs[j]?.getD 0=old at *;clear hro hqi h6 hb6 hf6 hk6 T3 HK5 HKQ HS1 HS2 hgv hgw;go_wp2;go_roundw
       case rel=>exact ⟨j,_,A6,n6,c6,by omega,by first|rfl|go_num,rfl,HF.out⟩
       case measure=>simp [intOf]
    ·have d1:decide ((n2:Int)<(m:Int))=false:=decide_eq_false (by omega);have d2:decide (n2<m)=false:=decide_eq_false hlm;have HHI:=Hj HXB.out;clear h2 hlm
     go_wp2_with fail
     have HR4:=Hj hR4;clear hR4;obtain ⟨wv,hwv⟩:∃ v,v=w5:=⟨_,rfl⟩;rw [← hwv] at HR4 ⊢;clear hwv
     go_loopw [11,12] (fun t11 t12 wr=>∃ (lo hi:Nat),t11=.int .i64 (lo:Int)∧t12=.int .i64 (hi:Int)∧lo<hi∧hi≤65536∧Hid (Kp wv wr∧lo*b≤x∧x<hi*b)) (fun t11 t12 _=>(intOf t12).toNat-(intOf t11).toNat)
     case atStart=>exact ⟨0,65536,rfl,rfl,by decide,by decide,Kp.refl _,by omega,HHI.out⟩
     case round =>
      clear HHI;obtain ⟨lo,hi,rfl,rfl,hlh,hhi,hQ⟩:=hrel;have W1:=Hj (w_of (z:=(hi:Int)-(lo:Int)) (k:=hi-lo) (by omega) (by omega));by_cases hgt:1<hi-lo
      ·obtain ⟨mid,hmid⟩:∃ mid,mid=(lo+hi) / 2:=⟨_,rfl⟩;have hm1:lo<mid:=by omega
       have hm2:mid<hi:=by omega
       have d1:decide ((1:Int)<((hi-lo:Nat):Int))=true:=decide_eq_true (by omega);have d2:decide (1<hi-lo)=true:=decide_eq_true hgt;have hme:mid-lo<hi-lo∧hi-mid<hi-lo:=by omega
       have W2:=Hj (w_of (z:=(lo:Int)+(hi:Int)) (k:=lo+hi) (by omega) (by omega));have W3:=Hj (wr_nat (x:=mid) (by omega));have hbm:b*mid<65536 ^ (m+1):=by rw [Nat.pow_succ];exact Nat.mul_lt_mul_of_lt_of_le HBL.out (by omega) (by decide)
       have T1:=Hj (times_ra B m d b mid wr (((HRB.out.below HR4.out.1).below hQ.out.1).ra) (by omega) (by omega));have T2:=Hj (fun (W:World) (hW:Kp wr W) (A1:Option Addr) (n1 c1:Nat) (h1:RA W A1 n1 c1 (b*mid)) (hn1:n1≤1000000000000)=>cmp_ra A1 A2 n1 c1 n2 cb1 (b*mid) x W h1 ((HR4.out.2.2.2.ra.below hQ.out.1).below hW) hn1 (by omega));have HME:=Hj hme;have HBM:=Hj hbm;have HMM:=Hj (And.intro hm1 hm2);have f3:((lo+hi:Nat):Int).tdiv 2=(mid:Int):=by rw [Int.tdiv_eq_ediv_of_nonneg (Int.natCast_nonneg _),hmid];simp
       have f4:((lo+hi:Nat):Int) / 2=(mid:Int):=by rw [hmid];simp
       have p1:(0:Int)≤((lo+hi:Nat):Int):=Int.natCast_nonneg _;have HHI:=Hj hhi;have HF34:=Hj (And.intro f3 (And.intro f4 (And.intro W1.out (And.intro W2.out W3.out))));clear hme hbm hm1 hm2 hmid hgt f3 f4 hhi W1 W2 W3;by_cases hle:b*mid≤x
       ·have hv:decide (cmpN (b*mid) x≤0)=true:=decide_eq_true (by unfold cmpN;split<;>(try split)<;>omega);have HQ2:=Hj (show mid*b≤x∧x<hi*b from ⟨by rw [Nat.mul_comm];exact hle,hQ.out.2.2⟩);have HKQ:=Hj hQ.out.1;generalize cmpN (b*mid) x=cv at *;obtain ⟨f3,f4,⟨e1,f1⟩,⟨e2,f2⟩,w1,u1⟩:=HF34.out;generalize ((lo+hi:Nat):Int)=sm at *;generalize ((hi-lo:Nat):Int)=df at *;clear hle hQ HF34
        go_wp2_with fail
        refine T1.out.mono ?_;rintro e w5 ⟨A5,n5,c5,rfl,h5,hb5⟩;have hn5:=h5.len HBM.out;have T3:=Hj (T2.out w5 hb5 A5 n5 c5 h5.ra (by omega));have HK5:=Hj hb5;clear h5 hb5 T1 T2
        go_wp2_with fail
        refine T3.out.mono ?_;rintro e w6 ⟨rfl,hw6⟩;rw [hw6];clear T3 hw6;have HFK:=Hj (show Kp wv w5∧mid*b≤x∧x<hi*b from ⟨HKQ.out.trans HK5.out,HQ2.out⟩);clear HKQ HQ2 HK5;go_wp2;go_roundw
        case rel=>exact ⟨mid,hi,rfl,rfl,HMM.out.2,HHI.out,HFK.out⟩
        case measure =>
         have:=HME.out.2;simp only [intOf,Int.toNat_natCast];exact this
       ·have hv:decide (cmpN (b*mid) x≤0)=false:=decide_eq_false (by rw [cmp_gt (by omega)];decide);have HQ2:=Hj (show lo*b≤x∧x<mid*b from ⟨hQ.out.2.1,by rw [Nat.mul_comm];omega⟩);have HKQ:=Hj hQ.out.1;generalize cmpN (b*mid) x=cv at *;obtain ⟨f3,f4,⟨e1,f1⟩,⟨e2,f2⟩,w1,u1⟩:=HF34.out;generalize ((lo+hi:Nat):Int)=sm at *;generalize ((hi-lo:Nat):Int)=df at *;clear hle hQ HF34
        go_wp2_with fail
        refine T1.out.mono ?_;rintro e w5 ⟨A5,n5,c5,rfl,h5,hb5⟩;have hn5:=h5.len HBM.out;have T3:=Hj (T2.out w5 hb5 A5 n5 c5 h5.ra (by omega));have HK5:=Hj hb5;clear h5 hb5 T1 T2
        go_wp2_with fail
        refine T3.out.mono ?_;rintro e w6 ⟨rfl,hw6⟩;rw [hw6];clear T3 hw6;have HFK:=Hj (show Kp wv w5∧lo*b≤x∧x<mid*b from ⟨HKQ.out.trans HK5.out,HQ2.out⟩);clear HKQ HQ2 HK5;go_wp2;go_roundw
        case rel=>exact ⟨lo,mid,rfl,rfl,HMM.out.1,Nat.le_trans (Nat.le_of_lt HMM.out.2) HHI.out,HFK.out⟩
        case measure =>
         have:=HME.out.1;simp only [intOf,Int.toNat_natCast];exact this
      ·have d1:decide ((1:Int)<((hi-lo:Nat):Int))=false:=decide_eq_false (by omega);have d2:decide (1<hi-lo)=false:=decide_eq_false hgt;obtain ⟨hs1,hs2⟩:=seek_done HB0.out hQ.out.2.1 hQ.out.2.2 (by omega);have hlx:b*lo≤x:=by rw [Nat.mul_comm];exact hQ.out.2.1
       have T1:=Hj (times_ra B m d b lo wr (((HRB.out.below HR4.out.1).below hQ.out.1).ra) (by omega) (by omega));have T2:=Hj (fun (W:World) (hW:Kp wr W) (A1:Option Addr) (n1 c1:Nat) (h1:RA W A1 n1 c1 (b*lo))=>sub_ra A2 A1 n2 cb1 n1 c1 x (b*lo) W ((HR4.out.2.2.2.ra.below hQ.out.1).below hW) h1 (by omega) hlx);have HKQ:=Hj hQ.out.1;have HS1:=Hj (hs1.trans HX1.out);have HS2:=Hj (hs2.trans HX2.out);obtain ⟨e1,f1⟩:=W1.out;generalize ((hi-lo:Nat):Int)=df at *;clear hs1 hs2 hlx hQ hgt W1
       go_wp2_with fail
       refine T1.out.mono ?_;rintro e w6 ⟨A5,n5,c5,rfl,h5,hb5⟩;have T3:=Hj (T2.out w6 hb5 A5 n5 c5 h5.ra);have HK5:=Hj hb5;clear h5 hb5 T1 T2
       go_wp2_with fail
       refine T3.out.mono ?_;rintro e w7 ⟨A6,n6,c6,rfl,h6,hb6,hf6⟩;rw [HS2.out] at h6;have hk6:Kp wv w7:=(HKQ.out.trans HK5.out).trans hb6;have hro:=HR4.out.2.1.kp hk6;have hqi:=HR4.out.2.2.1;have cq:=hro.cell (i:=j) (by rw [hqi.1];omega);have fq:=hro.frozen j;have hgv:w.heap.size<wv.heap.size:=HR4.out.2.1.lt;have hgw:w.heap.size<w6.heap.size:=Nat.lt_of_lt_of_le hgv (HKQ.out.trans HK5.out).size;have HF:=Hj (show Below w.heap.size w (w7.setCell ⟨w.heap.size,j,none⟩ (.int .i64 (lo:Int)))∧DRow (w7.setCell ⟨w.heap.size,j,none⟩ (.int .i64 (lo:Int))) w.heap.size (hs.set j (lo:Int))∧QuoI (a / b) n j (hs.set j (lo:Int))∧HA (w7.setCell ⟨w.heap.size,j,none⟩ (.int .i64 (lo:Int))) A6 n6 c6 (rst a b j) from
        ⟨(HR4.out.1.trans (hk6.mono HR4.out.1.size)).setCell (p:=⟨w.heap.size,j,none⟩) (Nat.le_refl _) _,hro.set j _,hqi.step (by omega) HS1.out,h6.setAway hf6 (by show w.heap.size<_;exact hgw) _⟩)
       generalize hs[j]?.getD 0=old at *;clear hro hqi h6 hb6 hf6 hk6 T3 HK5 HKQ HS1 HS2 hgv hgw;go_wp2;go_roundw
       case rel=>exact ⟨j,_,A6,n6,c6,by omega,by first|rfl|go_num,rfl,HF.out⟩
       case measure=>simp [intOf]
theorem div_ra (A B:Option Addr) (n c m d a b:Nat) (w:World) (h:HA w A n c a) (h':HA w B m d b) (hb0:0<b) (hn:n≤12000000000) (hm:m≤12000000000) :
  Calls Tryz.prog 210 #[.slice A n c,.slice B m d] w (RetHH w (a / b) (a % b)):=by
 by_cases h1:n≤3
 ·by_cases h2:m≤3
  ·exact div_small A B n c m d a b w h.ra h'.ra hb0 h1 h2
  ·exact div_long A B n c m d a b w h h' hb0 hn hm (by omega) (Or.inr ⟨h1,by omega⟩)
 ·by_cases h2:m=1
  ·subst h2;exact div_digit A B n c d a b w h.ra h'.ra hb0 (by omega) hn
  ·exact div_long A B n c m d a b w h h' hb0 hn hm h2 (Or.inl (by omega))
end Go.Proofs.YtjajigkacccdgaaGreat
