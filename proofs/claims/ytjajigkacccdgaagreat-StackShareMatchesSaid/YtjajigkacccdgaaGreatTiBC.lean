/-
Lemmas of the walk; no further conditions.
-/
import Derived.Test.YtjajigkacccdgaaGreatTiBB
set_option linter.unusedVariables false
set_option linter.unusedSimpArgs false
set_option maxRecDepth 100000
set_option maxHeartbeats 16000000
namespace Go.Proofs.YtjajigkacccdgaaGreat
open Go.RowKit
open Wd
def Off (B A:Option Addr) (k:Nat):Prop:=k≠0→∃ b o,A=some ⟨b,o,none⟩∧B.map (fun a=>a.block)≠some b
theorem Off.fresh {base:Nat} {w:World} {A B:Option Addr} {k:Nat} (h:Fresh base w A k) (hB:∀ b,B.map (fun a=>a.block)=some b→b<base):Off B A k:=fun hk=>by
 obtain ⟨b,o,rfl,hb,_⟩:=h hk;exact ⟨b,o,rfl,fun he=>by have:=hB b he;omega⟩
theorem Wat.kept {w w':World} {A B:Option Addr} {k:Nat} {l:List Nat} (h:Wat w A k l) (ho:Off B A k) (hk:Kept w w' B):Wat w' A k l:=by
 refine ⟨h.1,h.2.1,fun h0=>?_⟩;obtain ⟨b,o,rfl,hlt,hc⟩:=h.2.2 h0;obtain ⟨b',o',he,hne⟩:=ho h0;cases he;refine ⟨b,o,rfl,Nat.lt_of_lt_of_le hlt hk.1,fun j hj=>?_⟩;exact (World.cell?_of_block (hk.2 b hlt hne)).trans (hc j hj)
theorem Off.same {w:World} {A B B':Option Addr} {k:Nat} {l:List Nat} (h:Wat w A k l) (ho:Off B A k) (hs:SameOr w B B'):Off B' A k:=fun h0=>by
 obtain ⟨b,o,rfl,hlt,_⟩:=h.2.2 h0;obtain ⟨b',o',he,hne⟩:=ho h0;cases he;refine ⟨b,o,rfl,fun hB=>?_⟩;rcases hs with hs|hs
 ·exact hne (hs ▸ hB)
 ·rw [hs] at hB;simp at hB;omega
theorem Own.blk_lt {base:Nat} {e:TypeId} {size:Nat} {w:World} {A:Option Addr} {n c:Nat} {xs:List Value} (h:Own base e size w A n c xs):∀ b,A.map (fun a=>a.block)=some b→b<w.heap.size:=fun b hb=>by
 rcases h.2 with ⟨h6,_⟩|⟨g',cap',cur',h6,_,h7,_⟩
 ·simp at h6;rw [h6.1] at hb;simp at hb
 ·simp at h6;rw [h6.1] at hb;simp at hb;rw [← hb];exact (Array.getElem?_eq_some_iff.1 h7).1
abbrev QEnt:=Bool×(Option Addr×Nat×Nat)×(Option Addr×Nat×Nat)
def QEnt0:QEnt:=(false,(none,0,0),(none,0,0))
def qCells (es:List QEnt):List Value:=es.flatMap fun e=>[.bool e.1,.slice e.2.1.1 e.2.1.2.1 e.2.1.2.2,.bool false,.slice e.2.2.1 e.2.2.2.1 e.2.2.2.2]
theorem qCells_append (a b:List QEnt):qCells (a ++ b)=qCells a ++ qCells b:=by simp [qCells]
theorem qCells_cons (s:QEnt) (l:List QEnt):qCells (s :: l)=.bool s.1 :: .slice s.2.1.1 s.2.1.2.1 s.2.1.2.2 :: .bool false :: .slice s.2.2.1 s.2.2.2.1 s.2.2.2.2 :: qCells l:=by simp [qCells]
theorem qCells_len (l:List QEnt):(qCells l).length=l.length*4:=by
 induction l with
 | nil=>rfl
 | cons s l ih=>rw [qCells_cons];simp [ih];omega
theorem qCells_get:∀ (l:List QEnt) (j:Nat),j<l.length→(qCells l)[j*4]?=some (.bool (l[j]?.getD QEnt0).1)∧(qCells l)[j*4+1]?=some (.slice (l[j]?.getD QEnt0).2.1.1 (l[j]?.getD QEnt0).2.1.2.1 (l[j]?.getD QEnt0).2.1.2.2)∧(qCells l)[j*4+2]?=some (.bool false)∧(qCells l)[j*4+3]?=some (.slice (l[j]?.getD QEnt0).2.2.1 (l[j]?.getD QEnt0).2.2.2.1 (l[j]?.getD QEnt0).2.2.2.2)
 | [],j,h=>absurd h (by simp)
 | s :: l,0,_=>by simp [qCells]
 | s :: l,j+1,h=>by
  have ih:=qCells_get l j (by simpa using h);rw [qCells_cons,show (j+1)*4=j*4+1+1+1+1 by omega,show j*4+1+1+1+1+1=(j*4+1)+1+1+1+1 by omega,show j*4+1+1+1+1+2=(j*4+2)+1+1+1+1 by omega,show j*4+1+1+1+1+3=(j*4+3)+1+1+1+1 by omega];simp only [List.getElem?_cons_succ];exact ih
theorem qCells_one (l:List QEnt):∀ u∈qCells l,u.oneCell'=true:=by
 intro u hu;obtain ⟨s,_,h⟩:=List.mem_flatMap.1 hu;simp at h;rcases h with rfl|rfl|rfl|rfl<;>rfl
def QEnts (B:Option Addr) (ps:List Rat) (w:World) (i:Nat) (es:List QEnt):Prop :=
 es.length=i∧∀ j,j<i→(es[j]?.getD QEnt0).1=decide ((ps[j]?.getD 0).num<0)∧WQ w (ps[j]?.getD 0) (es[j]?.getD QEnt0).2.1.1 (es[j]?.getD QEnt0).2.1.2.1 (es[j]?.getD QEnt0).2.1.2.2 (es[j]?.getD QEnt0).2.2.1 (es[j]?.getD QEnt0).2.2.2.1 (es[j]?.getD QEnt0).2.2.2.2 ∧
  Off B (es[j]?.getD QEnt0).2.1.1 (es[j]?.getD QEnt0).2.1.2.1∧Off B (es[j]?.getD QEnt0).2.2.1 (es[j]?.getD QEnt0).2.2.2.1
section
variable {B:Option Addr} {ps:List Rat} {w w':World} {i:Nat} {es:List QEnt}
theorem QEnts.start:QEnts B ps w 0 []:=⟨rfl,fun j hj=>absurd hj (by omega)⟩
theorem QEnts.below (h:QEnts B ps w i es) (hb:Below w.heap.size w w'):QEnts B ps w' i es :=
 ⟨h.1,fun j hj=>⟨(h.2 j hj).1,(h.2 j hj).2.1.below hb,(h.2 j hj).2.2⟩⟩
theorem QEnts.app {B':Option Addr} (h:QEnts B ps w i es) (hk:Kept w w' B) (hs:SameOr w B B'):QEnts B' ps w' i es:=by
 refine ⟨h.1,fun j hj=>?_⟩;obtain ⟨h1,⟨h2,h3,h4,h5⟩,h6,h7⟩:=h.2 j hj;exact ⟨h1,⟨h2,h3,h4.kept h6 hk,h5.kept h7 hk⟩,Off.same h4 h6 hs,Off.same h5 h7 hs⟩
theorem QEnts.snoc {s:Bool} {A A':Option Addr} {k c k' c':Nat} (h:QEnts B ps w i es) (h1:s=decide ((ps[i]?.getD 0).num<0)) (h2:WQ w (ps[i]?.getD 0) A k c A' k' c') (h3:Off B A k) (h4:Off B A' k'):QEnts B ps w (i+1) (es ++ [(s,(A,k,c),(A',k',c'))]):=by
 have hl:=h.1;refine ⟨by simp [hl],fun j hj=>?_⟩;by_cases hji:j<i
 ·rw [List.getElem?_append_left (by omega)];exact h.2 j hji
 ·obtain rfl:j=i:=by omega
  rw [List.getElem?_append_right (by omega),hl,Nat.sub_self];exact ⟨h1,h2,h3,h4⟩
theorem Own.qs {base:Nat} {e:TypeId} {n c:Nat} (h:Own base e 4 w B n c (qCells es)) (hl:ps.length=n) (he:QEnts B ps w n es):QsAt w B n ps:=by
 refine ⟨hl,fun hn=>?_⟩;have hel:=he.1;have hcl:=qCells_len es;obtain ⟨g,cap,hv,hb,hlt⟩:=World.ownsRow.form h (by omega);simp at hv;obtain ⟨rfl,rfl⟩:=hv;refine ⟨g,0,rfl,hlt,fun j hj=>?_⟩;obtain ⟨g1,g2,g3,g4⟩:=qCells_get es j (by omega);obtain ⟨e1,e2,_,_⟩:=he.2 j hj;refine ⟨_,_,_,_,_,_,?_,?_,?_,?_,e2⟩
 ·rw [Nat.zero_add,World.ownsRow.cellAt h (j*4) (by omega),g1,e1]
 ·rw [Nat.zero_add,World.ownsRow.cellAt h (j*4+1) (by omega),g2]
 ·rw [Nat.zero_add,World.ownsRow.cellAt h (j*4+2) (by omega),g3]
 ·rw [Nat.zero_add,World.ownsRow.cellAt h (j*4+3) (by omega),g4]
end
theorem info_q:(Tryz.prog.info? 42).map (fun i=>(i.zero,i.size,i.bytes))=some (some (.agg #[.bool false,.slice none 0 0,.bool false,.slice none 0 0]),4,64):=by kernel_rfl
end Go.Proofs.YtjajigkacccdgaaGreat
namespace Go.Proofs.YtjajigkacccdgaaGreat
open Go.RowKit
open Wd
attribute [local go_sem ↓] Go.wp_at_zero Go.wp_at_succ
theorem kp_set4 {W w':World} (h:Kp W w') {g:Nat} (hg:W.heap.size≤g) (a b c d:Value):Kp W ((((w'.setCell ⟨g,0,none⟩ a).setCell ⟨g,1,none⟩ b).setCell ⟨g,2,none⟩ c).setCell ⟨g,3,none⟩ d) :=
 (((h.set (p:=⟨g,0,none⟩) hg a).set (p:=⟨g,1,none⟩) hg b).set (p:=⟨g,2,none⟩) hg c).set (p:=⟨g,3,none⟩) hg d
def ShO (w:World) (gt gs m n:Nat) (ts:List Rat) (ys:List Int) (wr:World):Prop:=Below w.heap.size w wr∧QRow wr gt m ts∧QRow wr gs n (castR ys)
def ShR (w:World) (gl gb gt gs m n:Nat) (p q:Int) (A2:Option Addr) (c2:Nat) (ts:List Rat) (ys:List Int) (r:Rat) (B:Option Addr) (bk bc:Nat) (B':Option Addr) (bk' bc':Nat) (wr:World):Prop :=
 Below w.heap.size w wr∧Blk wr gl 64 #[.int .i64 p,.int .i64 q,.slice A2 n c2]∧Blk wr gb 42 #[.bool (decide (r.num<0)),.slice B bk bc,.bool false,.slice B' bk' bc']∧WQ wr r B bk bc B' bk' bc'∧QRow wr gt m ts∧QRow wr gs n (castR ys)
theorem partI_bd {l:List (Int×Int)} (hok:OkQ l) {z:Int} (h0:0≤z):∀ k,k≤l.length→0≤restI l z k∧restI l z k≤z
 | 0,_=>⟨h0,Int.le_refl _⟩
 | k+1,hk=>by
  obtain ⟨i1,i2⟩:=partI_bd hok h0 k (by omega);have:=hok _ (getD_mem (d:=(0,0)) (show k<l.length by omega));rw [restI];omega
theorem share_ok (up:Bool) (A:Option Addr) (m n c:Nat) (lv:List St.Lv) (z:Int) (aA aA':Option Addr) (ak ac ak' ac':Nat) (w:World) (h:LvAt w A m n lv) (hv:VL up n lv) (hq:WQ w (z:Rat) aA ak ac aA' ak' ac') (h0:0≤z) (h1:z≤totI lv) (hm0:m≠0) :
  Calls Tryz.prog 31 #[.slice A m c,.agg #[.bool (decide (((z:Int):Rat).num<0)),.slice aA ak ac,.bool false,.slice aA' ak' ac']] w fun e w'=>∃ g,e=.returned (.tuple #[.slice (some ⟨g,0,none⟩) n n,.int .i64 0])∧QRow w' g n (castR (shAll lv n z m))∧w.heap.size≤g∧Below w.heap.size w w':=by
 have hl:=h.1;have hm:m≤48:=by have:=hv.len;omega
 have hn1:1≤n:=hv.n0 (by omega);have hn16:=hv.n16;have hz:=(tot_bd lv hv.qty).2;have hzb:z≤768000000:=by omega
 have HF0:=Hj (fun W (hW:Below w.heap.size w W)=>fill_ok 4611686018427387904 1152921504606846976 2 wok_small (by omega) (by omega) (by omega) (by omega) (by omega) (by omega) (by omega) up A m n c lv _ false aA aA' ak ac ak' ac' (z:Rat) W (h.below hW) ((hq.below hW).at (by rw [Rat.num_intCast];omega) (by rw [Rat.den_intCast];omega)) hv (by exact_mod_cast h0) (by exact_mod_cast h1));have HPB:=Hj (fun i (hi:i<m)=>(⟨by
   have:=partI_bd hv.okQ h0 i (by rw [lvQ_len];omega);have h2:=hv.okQ _ (getD_mem (d:=(0,0)) (show i<(lvQ lv).length by rw [lvQ_len];omega));unfold partI;omega,by
   have:=partI_bd hv.okQ h0 i (by rw [lvQ_len];omega);unfold partI;omega⟩:0≤partI (lvQ lv) z i∧partI (lvQ lv) z i≤z))
 have HL:=Hj h;have HV:=Hj hv;have HPW:=Hj (fun j=>partAt_whole (lvQ lv) z j);have HLN:=Hj hl;have hmk:=fun w=>run_make_Q n (by omega) w;generalize ((z:Int):Rat)=zq at *;clear h hv hq hz h1 hl;go_enter Tryz.func31,Tryz.ntmps31
 go_wp2_with fail
 obtain ⟨hB0,hBW,hsz⟩:=pre1 w 42 #[.bool (decide (zq.num<0)),.slice aA ak ac,.bool false,.slice aA' ak' ac'];generalize w.alloc (.cells #[.bool (decide (zq.num<0)),.slice aA ak ac,.bool false,.slice aA' ak' ac'] 42)=W at *;have HSZ:=Hj hsz;clear hsz;refine (HF0.out W hBW).mono ?_;rintro e w1 ⟨gt,ts,rfl,hRow,hPs,hgt,hb1⟩;have HB1:=Hj (hBW.trans (hb1.mono hBW.size));have HRT:=Hj hRow;have HPS:=Hj hPs;have hgt2:w.heap.size≤gt:=Nat.le_trans hBW.size hgt;obtain ⟨b,o,rfl,hb,hcell⟩:=HL.out.2 hm0;obtain ⟨A0,c0,⟨-,-,z2⟩,-⟩:=hcell 0 (by omega);rw [Nat.zero_mul,Nat.add_zero] at z2;replace z2:=(HB1.out.cell (p:=⟨b,o+2,none⟩) hb).trans z2;have m0:(0:Int)<(m:Int):=by omega
 have mz:((m:Int) == 0)=false:=by simp;omega
 have HCL:=Hj hcell;clear HF0 hRow hPs hgt hBW hb1 HSZ hB0 hcell
 go_wp2_with fail
 have hgtl:gt<w1.heap.size:=by obtain ⟨_,cs,hbk,_⟩:=HRT.out;exact hbk.lt
 have hst:ShO w gt w1.heap.size m n ts (shAll lv n z 0) (w1.alloc (.cells (madeCells qzero (n*4)) 42)):=by
  refine ⟨HB1.out.alloc HB1.out.size _,HRT.out.below ((Below.refl _ _).alloc (Nat.le_refl _) _),?_⟩;have:=QRow.start w1 n;rw [shAll];unfold castR;rw [List.map_replicate];exact this
 have HST:=Hj hst;have hgs:w.heap.size≤w1.heap.size:=HB1.out.size;clear hst hmk HB1 HRT z2;generalize w1.alloc (.cells (madeCells qzero (n*4)) 42)=W0 at *;generalize w1.heap.size=gs at *
 go_loopw [36] (fun t wr=>∃ i:Nat,i≤m∧t=.int .i64 i∧Hid (ShO w gt gs m n ts (shAll lv n z i) wr)) (fun t _=>m-(intOf t).toNat)
 case atStart=>exact ⟨0,Nat.zero_le _,rfl,HST.out⟩
 case round =>
  clear HST;obtain ⟨i,hi,rfl,hR⟩:=hrel;by_cases hlt:i<m
  ·obtain ⟨hB,hRT,hRS⟩:=hR.out;obtain ⟨A2,c2,⟨y0,y1,y2⟩,hpt⟩:=HCL.out i hlt;replace y0:=(hB.cell (p:=⟨b,o+i*3,none⟩) hb).trans y0;replace y1:=(hB.cell (p:=⟨b,o+i*3+1,none⟩) hb).trans y1;replace y2:=(hB.cell (p:=⟨b,o+i*3+2,none⟩) hb).trans y2;have hp:=HV.out.parts _ (getD_mem (d:=Lv0) (show i<lv.length by rw [HLN.out];exact hlt));have hsa:shAll lv n z (i+1)=shRow (lv[i]?.getD Lv0).2.2 n (partI (lvQ lv) z i) (shAll lv n z i) n:=rfl;obtain ⟨pb1,pb2⟩:=HPB.out i hlt;have hbd:=shAll_bd HV.out (z:=z) (fun k hk=>(HPB.out k (by rw [← HLN.out];exact hk)).1) i (by rw [HLN.out];omega);have hyl:=shAll_len lv n z i;obtain ⟨A8,k8,c8,A9,k9,c9,j0,j1,j2,j3,-,-,-,-,hk8,hk9,hW8,hW9⟩:=hRT.cells hlt;have hps:=HPS.out i hlt;rw [HPW.out] at hps;rw [hps] at j0 hW8 hW9;generalize (lv[i]?.getD Lv0).1=p at *;generalize (lv[i]?.getD Lv0).2.1=q at *;generalize (lv[i]?.getD Lv0).2.2=xs at *;generalize hyn:shAll lv n z (i+1)=yn at *;have HYN:=Hj hyn;clear hyn;generalize shAll lv n z i=ys at *;generalize partI (lvQ lv) z i=t at *;have hki1:(0:Int)≤(i:Int):=by omega
   have hki2:(i:Int)<(m:Int):=by omega
   have hgt9:gt<wr.heap.size:=by obtain ⟨_,cs,hbk,_⟩:=hRT;exact hbk.lt
   have hgs9:gs<wr.heap.size:=by obtain ⟨_,cs,hbk,_⟩:=hRS;exact hbk.lt
   have xn:IntKind.i64.wrap ((n:Int)-1)=(n:Int)-1:=IntWalk.i64_in _ (by omega);have HP:=Hj hp;have HSA:=Hj hsa;have HBD:=Hj hbd;have HYL:=Hj hyl;have HPT:=Hj hpt;have HB9:=Hj hB;have HRT9:=Hj hRT;have HRS9:=Hj hRS;have HW8:=Hj (⟨hk8,hk9,hW8,hW9⟩:WQ wr (t:Rat) A8 k8 c8 A9 k9 c9);generalize htq:((t:Int):Rat)=tq at *;have HTQ:=Hj htq;clear htq;clear hp hsa hbd hyl hpt hR hps hW8 hW9 hk8 hk9 hB hRT hRS
   go_wp2_with fail
   have kp:=((Kp.refl wr).alloc (.cells #[.int .i64 p,.int .i64 q,.slice A2 n c2] 64)).alloc (.cells #[.bool (decide (tq.num<0)),.slice A8 k8 c8,.bool false,.slice A9 k9 c9] 42);have hst2:ShR w wr.heap.size (wr.heap.size+1) gt gs m n p q A2 c2 ts (shRow xs n t ys 0) tq A8 k8 c8 A9 k9 c9 ((wr.alloc (.cells #[.int .i64 p,.int .i64 q,.slice A2 n c2] 64)).alloc (.cells #[.bool (decide (tq.num<0)),.slice A8 k8 c8,.bool false,.slice A9 k9 c9] 42)) :=
    ⟨HB9.out.trans (Below.mono kp HB9.out.size),(Blk.new wr _ _).alloc _,Blk.new1 wr _ _ _,WQ.below HW8.out kp,HRT9.out.below kp,HRS9.out.below kp⟩
   have HST2:=Hj hst2;have hwl:w.heap.size≤wr.heap.size:=HB9.out.size;clear hst2 kp y0 y1 y2 j0 j1 j2 j3 HB9 HRT9 HRS9 HW8;generalize (wr.alloc (.cells #[.int .i64 p,.int .i64 q,.slice A2 n c2] 64)).alloc (.cells #[.bool (decide (tq.num<0)),.slice A8 k8 c8,.bool false,.slice A9 k9 c9] 42)=W1 at *;generalize wr.heap.size=gl at *
   go_loopw [12] (fun tt wx=>∃ (j:Nat) (ci:Int) (rq:Rat) (B:Option Addr) (bk bc:Nat) (B':Option Addr) (bk' bc':Nat),j≤n∧tt=.int .i64 ci∧Hid (ci=(n:Int)-1-(j:Int))∧Hid (rq=((shRest xs n t j:Int):Rat))∧Hid (ShR w gl (gl+1) gt gs m n p q A2 c2 ts (shRow xs n t ys j) rq B bk bc B' bk' bc' wx)) (fun tt _=>(intOf tt+1).toNat)
   case atStart=>exact ⟨0,(n:Int)-1,tq,A8,k8,c8,A9,k9,c9,Nat.zero_le _,rfl,by show (n:Int)-1=(n:Int)-1-((0:Nat):Int);omega,HTQ.out.symm,HST2.out⟩
   case round =>
    clear HST2;obtain ⟨j,ci,rq,B,bk,bc,B',bk',bc',hj,rfl,hci,hrq,hR⟩:=hrel;by_cases hjn:j<n
    ·obtain ⟨cN,rfl⟩:∃ cN:Nat,ci=(cN:Int):=⟨n-1-j,by have:=hci.out;omega⟩;have hcn:n-1-j=cN:=by have:=hci.out;omega
     have hcl:cN<n:=by omega
     obtain ⟨hB,hBL,hBR,hWQ,hRT,hRS⟩:=hR.out;obtain ⟨b5,o5,rfl,hb5,hc5⟩:=HPT.out.2 (by omega);have cx:=(hB.cell (p:=⟨b5,o5+cN,none⟩) hb5).trans (hc5 cN hcl);have hxb:=HP.out.2 _ (getD_mem (d:=0) (show cN<xs.length by rw [HP.out.1];exact hcl));obtain ⟨rb1,rb2⟩:=shRest_bd HP.out.2 HP.out.1 pb1 j hj;have hrowb:=(shRow_bd HP.out.2 HP.out.1 HYL.out pb1 HBD.out j hj).1 cN;have hrs1:shRest xs n t (j+1)=shRest xs n t j-min (shRest xs n t j) (xs[cN]?.getD 0):=by rw [shRest,hcn]
     have hrw1:shRow xs n t ys (j+1)=(shRow xs n t ys j).set cN ((shRow xs n t ys j)[cN]?.getD 0+min (shRest xs n t j) (xs[cN]?.getD 0)):=by rw [shRow,hcn];unfold shPart;rw [hcn]
     have hlen:(shRow xs n t ys j).length=n:=by rw [shRow_len];exact HYL.out
     obtain ⟨A6,k6,c6,A7,k7,c7,s0,s1,s2,s3,sf0,sf1,sf2,sf3,hk6,hk7,hW6,hW7⟩:=hRS.cells hcl;rw [castR_get] at s0 hW6 hW7;have hrq2:=hrq.out;subst hrq2;generalize hrne:shRow xs n t ys (j+1)=rn at *;have HRN:=Hj hrne;generalize hrow0:shRow xs n t ys j=ro at *;generalize hr1e:shRest xs n t (j+1)=r1 at *;have HR1E:=Hj hr1e;generalize shRest xs n t j=r0 at *;generalize xs[cN]?.getD 0=x at *;generalize ro[cN]?.getD 0=y at *;have FI:=fun W=>qfromInt64_any x W (by omega) (by omega);have HMIN:=fun (W:World) (B2 B2':Option Addr) (j2 d2 j2' d2':Nat) (h1:WQ W ((r0:Int):Rat) B bk bc B' bk' bc') (h2:WQ W ((x:Int):Rat) B2 j2 d2 B2' j2' d2')=>qminI r0 x (by omega) (by omega) h1 h2;have HADD:=fun (W:World) (B2 B2':Option Addr) (j2 d2 j2' d2':Nat) (h1:WQ W ((y:Int):Rat) A6 k6 c6 A7 k7 c7) (h2:WQ W ((min r0 x:Int):Rat) B2 j2 d2 B2' j2' d2')=>qaddI y (min r0 x) (by omega) (by omega) h1 h2;have HSUB:=fun (W:World) (B2 B2':Option Addr) (j2 d2 j2' d2':Nat) (h1:WQ W ((r0:Int):Rat) B bk bc B' bk' bc') (h2:WQ W ((min r0 x:Int):Rat) B2 j2 d2 B2' j2' d2')=>qsubI r0 (min r0 x) (by omega) (by omega) h1 h2;rw [← hrs1] at HSUB;have hcs:=castR_set ro cN (y+min r0 x);rw [← hrw1] at hcs;have hwy:WQ wr ((y:Int):Rat) A6 k6 c6 A7 k7 c7:=⟨hk6,hk7,hW6,hW7⟩;generalize ((y+min r0 x:Int):Rat)=sq at *;generalize ((y:Int):Rat)=yq at *;generalize ((min r0 x:Int):Rat)=mq at *;generalize ((x:Int):Rat)=xq at *;generalize hr1q:((r1:Int):Rat)=nq at *;generalize ((r0:Int):Rat)=rq at *;have FI:=Hj FI;have HMIN:=Hj HMIN;have HADD:=Hj HADD;have HSUB:=Hj HSUB;have HCS:=Hj hcs;have HWY:=Hj hwy;have HWQ:=Hj hWQ;have HRT:=Hj hRT;have HRS:=Hj hRS;have HR1:=Hj hr1q;have HBB:=Hj hB;have hcI:Hid ((cN:Int)-1=(n:Int)-1-((j+1:Nat):Int)):=Hj (by omega);have d0:decide ((0:Int)≤(cN:Int))=true:=by simp
     have i1:(0:Int)≤(cN:Int):=by omega
     have i2:(cN:Int)<(n:Int):=by omega
     have hb5r:b5<wr.heap.size:=Nat.lt_of_lt_of_le hb5 hB.size;have s5:=Kp.refl wr;have hS:∀ w',Kp wr w'→(w'.cell? ⟨gl+1,0,none⟩=some (.bool (decide (rq.num<0)))∧w'.cell? ⟨gl+1,1,none⟩=some (.slice B bk bc)∧w'.cell? ⟨gl+1,2,none⟩=some (.bool false)∧w'.cell? ⟨gl+1,3,none⟩=some (.slice B' bk' bc')∧w'.cell? ⟨gl,2,none⟩=some (.slice (some ⟨b5,o5,none⟩) n c2)∧w'.cell? ⟨b5,o5+cN,none⟩=some (.int .i64 x))∧Kp wr w':=fun w' hk=>⟨⟨(hk.blk hBR).cell 0,(hk.blk hBR).cell 1,(hk.blk hBR).cell 2,(hk.blk hBR).cell 3,(hk.blk hBL).cell 2,(Below.cell hk (p:=⟨b5,o5+cN,none⟩) hb5r).trans cx⟩,hk⟩;have HS:=Hj hS;clear hS hci hrq hR hrs1 hrw1 hlen hxb rb1 rb2 hrowb hcs hwy hWQ hRT hRS hr1q hc5 hW6 hW7 hrow0 hcn hB hrne hr1e
     go_wp2_with fail
     go_region_held3 (fun w'=>(w'.cell? ⟨gl+1,0,none⟩=some (.bool (decide (rq.num<0)))∧w'.cell? ⟨gl+1,1,none⟩=some (.slice B bk bc)∧w'.cell? ⟨gl+1,2,none⟩=some (.bool false)∧w'.cell? ⟨gl+1,3,none⟩=some (.slice B' bk' bc')∧w'.cell? ⟨gl,2,none⟩=some (.slice (some ⟨b5,o5,none⟩) n c2)∧w'.cell? ⟨b5,o5+cN,none⟩=some (.int .i64 x))∧Kp wr w')
      (first|(with_reducible (refine HS.out _ ?_;assumption))|(with_reducible (refine HS.out _ (Kp.drew ?_);assumption))|(with_reducible (refine' HS.out _ (Kp.drew (And.right ?_));rotate_left;assumption))|(with_reducible (refine' HS.out _ (Kp.alloc (And.right ?_) _);rotate_left;assumption))|(with_reducible (refine' HS.out _ (Kp.alloc ?_ _);rotate_left;assumption))|(with_reducible (refine HS.out _ (Kp.drew (Kp.alloc ?_ _));assumption))|((with_reducible refine' HS.out _ (kp_set4 (And.right ?_) ?_ _ _ _ _));rotate_left;(with_reducible assumption);first|exact Nat.le_refl _|exact Below.size hp5))
      (first
       | (go_at_call 40;have hk:=And.right ‹_∧Kp wr _›;refine (FI.out _).mono ?_;rintro e v5 ⟨A3,k3,c3,A4,k4,c4,rfl,hk3,hk4,hW3,hW4,hF3,hF4,hb3⟩;have hp5:=Kp.trans hk hb3;(try have hN5:=Blk.below (Blk.drew (Blk.new wr 42 #[.bool false,.slice none 0 0,.bool false,.slice none 0 0])) hb3 (Nat.lt_of_lt_of_eq (Nat.lt_succ_self _) (World.size_alloc _ _).symm));clear hk hF3 hF4 hb3)
       | (go_at_call 85;have hk:=And.right ‹_∧Kp wr _›;refine (HMIN.out _ A3 A4 k3 c3 k4 c4 (WQ.below HWQ.out hk) ⟨hk3,hk4,by first|exact hW3|exact hW3.alloc _,by first|exact hW4|exact hW4.alloc _⟩).mono ?_;rintro e v6 ⟨E5,e5,f5,E6,e6,f6,rfl,he5,he6,hV5,hV6,hF5,hF6,hb4⟩;have hp6:=Kp.trans hk hb4;(try (have hN6:=hN5.below hb4 hN5.lt;obtain ⟨z0,z1,z2,z3,z4,z5,z6,z7⟩:=Blk.four hN6));(try (have hN6:=Blk.below (Blk.new v5 42 #[.bool false,.slice none 0 0,.bool false,.slice none 0 0]) hb4 (Nat.lt_of_lt_of_eq (Nat.lt_succ_self _) (World.size_alloc _ _).symm);obtain ⟨z0,z1,z2,z3,z4,z5,z6,z7⟩:=Blk.four hN6));clear hk hb4))
     ·have hVb:Blk (v6.alloc (.cells #[.bool (decide (mq.num<0)),.slice E5 e5 f5,.bool false,.slice E6 e6 f6] 42)) (v6.heap.size) 42 #[.bool (decide (mq.num<0)),.slice E5 e5 f5,.bool false,.slice E6 e6 f6]:=Blk.new _ _ _;have hVc:WQ (v6.alloc (.cells #[.bool (decide (mq.num<0)),.slice E5 e5 f5,.bool false,.slice E6 e6 f6] 42)) mq E5 e5 f5 E6 e6 f6:=WQ.below ⟨he5,he6,hV5,hV6⟩ ((Below.refl _ _).alloc (Nat.le_refl _) _);have hVk:Kp wr (v6.alloc (.cells #[.bool (decide (mq.num<0)),.slice E5 e5 f5,.bool false,.slice E6 e6 f6] 42)):=Kp.alloc hp6 _;have hg9:gl+1<v6.heap.size:=Nat.lt_of_lt_of_le hBR.lt (by first|exact Nat.le_refl _|exact Below.size hp5|exact Below.size hp6);generalize v6.alloc (.cells #[.bool (decide (mq.num<0)),.slice E5 e5 f5,.bool false,.slice E6 e6 f6] 42)=V at *;generalize hgg:v6.heap.size=g9 at *;have hBR9:=Kp.blk hVk hBR;have hBL9:=Kp.blk hVk hBL;have hlr:gl+1<wr.heap.size:=hBR.lt;have hgsr:gs<wr.heap.size:=by omega
      have hRS9:=HRS.out.below hVk;have hRT9:=HRT.out.below hVk;have hB9:Below w.heap.size w V:=HBB.out.trans (Below.mono hVk HBB.out.size);have t0:=(Below.cell hVk (p:=⟨gs,cN*4,none⟩) hgsr).trans s0;have t1:=(Below.cell hVk (p:=⟨gs,cN*4+1,none⟩) hgsr).trans s1;have t2:=(Below.cell hVk (p:=⟨gs,cN*4+2,none⟩) hgsr).trans s2;have t3:=(Below.cell hVk (p:=⟨gs,cN*4+3,none⟩) hgsr).trans s3;obtain ⟨a0,a1,a2,a3,-⟩:=hVb.four;have HAD:=Hj (fun W (hW:Kp V W)=>HADD.out W E5 E6 e5 f5 e6 f6 (HWY.out.below (Below.trans hVk (Below.mono hW (Below.size hVk)))) (hVc.below hW));have hVc9:=Hj hVc;have hRS9:=Hj hRS9;have s9:=Kp.refl V
      rename_i hHeld
      clear hHeld;clear FI HMIN HADD HS hp5 hp6 hW3 hW4 hk3 hk4 hVc s0 s1 s2 s3 sf0 sf1 sf2 sf3 cx
      (try clear z0 z1 z2 z3 z4 z5 z6 z7 hN6)
      (try clear hN5)
      clear hgg
      go_wp2_with fail
      go_region_with (first|(go_at_call 42;refine (HAD.out _ (Kp.drew s9)).mono ?_;rintro e v8 ⟨A5,k5,c5,A8',k8',c8',rfl,hk5,hk8',hW5,hW8',hF5',hF8',hb8⟩;have hp8:Kp V v8:=Kp.trans (Kp.drew s9) hb8;obtain ⟨_,_,_,_,_,_,i0,i1',i2',i3,i4,i5,i6,i7,-⟩:=(hRS9.out.below hp8).cells hcl;clear hb8))
      all_goals
       have e7:(((v8.setCell ⟨gs,cN*4,none⟩ (.bool (decide (sq.num<0)))).setCell ⟨gs,cN*4+1,none⟩ (.slice A5 k5 c5)).setCell ⟨gs,cN*4+2,none⟩ (.bool false)).setCell ⟨gs,cN*4+3,none⟩ (.slice A8' k8' c8')=qst v8 gs (cN*4) (decide (sq.num<0)) false A5 A8' k5 c5 k8' c8':=rfl;rw [e7];have hRow6:=hRS9.out.below hp8;have hRow7:=hRow6.put hcl hk5 hk8' hW5 hW8';rw [← HCS.out] at hRow7;obtain ⟨hlen6,cs6,hbk6,hni6,-⟩:=hRow6;have hBR7:Blk (qst v8 gs (cN*4) (decide (sq.num<0)) false A5 A8' k5 c5 k8' c8') (gl+1) _ _:=(Kp.blk hp8 hBR9).far4 (by omega);have hBL7:Blk (qst v8 gs (cN*4) (decide (sq.num<0)) false A5 A8' k5 c5 k8' c8') gl _ _:=(Kp.blk hp8 hBL9).far4 (by omega);have hVb7:Blk (qst v8 gs (cN*4) (decide (sq.num<0)) false A5 A8' k5 c5 k8' c8') g9 _ _:=(Kp.blk hp8 hVb).far4 (by omega);have hRT7:=(hRT9.below hp8).far4 (o:=cN*4) (a:=decide (sq.num<0)) (b:=false) (A:=A5) (A':=A8') (k:=k5) (c:=c5) (k':=k8') (c':=c8') (by omega) hbk6 hni6;have hWQ7:=(WQ.below (WQ.below HWQ.out hVk) hp8).put4 (o:=cN*4) (a:=decide (sq.num<0)) (b:=false) (B:=A5) (B':=A8') (j:=k5) (d:=c5) (j':=k8') (d':=c8') hbk6 hni6;have hMQ7:=(hVc9.out.below hp8).put4 (o:=cN*4) (a:=decide (sq.num<0)) (b:=false) (B:=A5) (B':=A8') (j:=k5) (d:=c5) (j':=k8') (d':=c8') hbk6 hni6;have hB7:Below w.heap.size w (qst v8 gs (cN*4) (decide (sq.num<0)) false A5 A8' k5 c5 k8' c8'):=below_qst (hB9.trans (Below.mono hp8 hB9.size)) (by omega);generalize qst v8 gs (cN*4) (decide (sq.num<0)) false A5 A8' k5 c5 k8' c8'=W7 at *;have HSB:=Hj (HSUB.out W7 E5 E6 e5 f5 e6 f6 hWQ7 hMQ7);obtain ⟨x0,x1,x2,x3,y0,y1,y2,y3⟩:=hBR7.four;obtain ⟨u0,u1,u2,u3,-⟩:=hVb7.four;have HRW7:=Hj hRow7;have HRT7:=Hj hRT7;have HB7:=Hj hB7;clear e7 hW5 hW8' hF5' hF8' hbk6 hni6 i0 i1' i2' i3 i4 i5 i6 i7 t0 t1 t2 t3 a0 a1 a2 a3 hVb hRow7 hRT7 hB7 hWQ7 hMQ7 hVb7 hBR9 hBL9 hRT9 hp8 hB9 HAD
       go_wp2_with fail
       refine HSB.out.mono ?_;rintro e v9 ⟨G5,g5,h5,G6,g6,h6,rfl,hg5,hg6,hX5,hX6,hY5,hY6,hb9⟩;have hBR8:=hBR7.below hb9 hBR7.lt;have hBL8:=hBL7.below hb9 hBL7.lt;obtain ⟨l0,l1,l2,l3,m0',m1',m2',m3'⟩:=hBR8.four;have hfin:ShR w gl (gl+1) gt gs m n p q (some ⟨b5,o5,none⟩) c2 ts rn nq G5 g5 h5 G6 g6 h6 (qst v9 (gl+1) 0 (decide (nq.num<0)) false G5 G6 g5 h5 g6 h6):=by
        refine ⟨below_qst (HB7.out.trans (hb9.mono HB7.out.size)) (by omega),hBL8.far4 (by omega),hBR8.put4,?_,?_,?_⟩
        ·exact WQ.put4 ⟨hg5,hg6,hX5,hX6⟩ hBR8 NoInt.four
        ·exact (HRT7.out.below hb9).far4 (by omega) hBR8 NoInt.four
        ·exact (HRW7.out.below hb9).far4 (by omega) hBR8 NoInt.four
       have e8:(((v9.setCell ⟨gl+1,0,none⟩ (.bool (decide (nq.num<0)))).setCell ⟨gl+1,1,none⟩ (.slice G5 g5 h5)).setCell ⟨gl+1,2,none⟩ (.bool false)).setCell ⟨gl+1,3,none⟩ (.slice G6 g6 h6)=qst v9 (gl+1) 0 (decide (nq.num<0)) false G5 G6 g5 h5 g6 h6:=rfl;have HF:=Hj hfin;have HE:=Hj e8;have xw:IntKind.i64.wrap ((cN:Int)-1)=(cN:Int)-1:=IntWalk.i64_in _ (by omega);clear hfin e8 hBR8 hBL8 hb9 hX5 hX6 hY5 hY6 x0 x1 x2 x3 y0 y1 y2 y3 u0 u1 u2 u3 hBR7 hBL7 HSB;go_wp2;go_roundw
       case rel=>exact ⟨j+1,(cN:Int)-1,nq,G5,g5,h5,G6,g6,h6,by omega,rfl,hcI.out,by rw [HR1E.out];exact Hj HR1.out.symm,by rw [HRN.out];exact HF⟩
       case measure=>simp [intOf]
     ·have hVb:Blk ((((v6.setCell ⟨v5.heap.size,0,none⟩ (.bool (decide (mq.num<0)))).setCell ⟨v5.heap.size,1,none⟩ (.slice E5 e5 f5)).setCell ⟨v5.heap.size,2,none⟩ (.bool false)).setCell ⟨v5.heap.size,3,none⟩ (.slice E6 e6 f6)) (v5.heap.size) 42 #[.bool (decide (mq.num<0)),.slice E5 e5 f5,.bool false,.slice E6 e6 f6]:=hN6.put4 (o:=0);have hVc:WQ ((((v6.setCell ⟨v5.heap.size,0,none⟩ (.bool (decide (mq.num<0)))).setCell ⟨v5.heap.size,1,none⟩ (.slice E5 e5 f5)).setCell ⟨v5.heap.size,2,none⟩ (.bool false)).setCell ⟨v5.heap.size,3,none⟩ (.slice E6 e6 f6)) mq E5 e5 f5 E6 e6 f6:=WQ.put4 (o:=0) ⟨he5,he6,hV5,hV6⟩ hN6 NoInt.four;have hVk:Kp wr ((((v6.setCell ⟨v5.heap.size,0,none⟩ (.bool (decide (mq.num<0)))).setCell ⟨v5.heap.size,1,none⟩ (.slice E5 e5 f5)).setCell ⟨v5.heap.size,2,none⟩ (.bool false)).setCell ⟨v5.heap.size,3,none⟩ (.slice E6 e6 f6)):=kp_set4 hp6 (Below.size hp5) _ _ _ _;have hg9:gl+1<v5.heap.size:=Nat.lt_of_lt_of_le hBR.lt (by first|exact Nat.le_refl _|exact Below.size hp5|exact Below.size hp6);generalize (((v6.setCell ⟨v5.heap.size,0,none⟩ (.bool (decide (mq.num<0)))).setCell ⟨v5.heap.size,1,none⟩ (.slice E5 e5 f5)).setCell ⟨v5.heap.size,2,none⟩ (.bool false)).setCell ⟨v5.heap.size,3,none⟩ (.slice E6 e6 f6)=V at *;generalize hgg:v5.heap.size=g9 at *;have hBR9:=Kp.blk hVk hBR;have hBL9:=Kp.blk hVk hBL;have hlr:gl+1<wr.heap.size:=hBR.lt;have hgsr:gs<wr.heap.size:=by omega
      have hRS9:=HRS.out.below hVk;have hRT9:=HRT.out.below hVk;have hB9:Below w.heap.size w V:=HBB.out.trans (Below.mono hVk HBB.out.size);have t0:=(Below.cell hVk (p:=⟨gs,cN*4,none⟩) hgsr).trans s0;have t1:=(Below.cell hVk (p:=⟨gs,cN*4+1,none⟩) hgsr).trans s1;have t2:=(Below.cell hVk (p:=⟨gs,cN*4+2,none⟩) hgsr).trans s2;have t3:=(Below.cell hVk (p:=⟨gs,cN*4+3,none⟩) hgsr).trans s3;obtain ⟨a0,a1,a2,a3,-⟩:=hVb.four;have HAD:=Hj (fun W (hW:Kp V W)=>HADD.out W E5 E6 e5 f5 e6 f6 (HWY.out.below (Below.trans hVk (Below.mono hW (Below.size hVk)))) (hVc.below hW));have hVc9:=Hj hVc;have hRS9:=Hj hRS9;have s9:=Kp.refl V
      rename_i hHeld
      clear hHeld;clear FI HMIN HADD HS hp5 hp6 hW3 hW4 hk3 hk4 hVc s0 s1 s2 s3 sf0 sf1 sf2 sf3 cx
      (try clear z0 z1 z2 z3 z4 z5 z6 z7 hN6)
      (try clear hN5)
      clear hgg
      go_wp2_with fail
      go_region_with (first|(go_at_call 42;refine (HAD.out _ (Kp.drew s9)).mono ?_;rintro e v8 ⟨A5,k5,c5,A8',k8',c8',rfl,hk5,hk8',hW5,hW8',hF5',hF8',hb8⟩;have hp8:Kp V v8:=Kp.trans (Kp.drew s9) hb8;obtain ⟨_,_,_,_,_,_,i0,i1',i2',i3,i4,i5,i6,i7,-⟩:=(hRS9.out.below hp8).cells hcl;clear hb8))
      all_goals
       have e7:(((v8.setCell ⟨gs,cN*4,none⟩ (.bool (decide (sq.num<0)))).setCell ⟨gs,cN*4+1,none⟩ (.slice A5 k5 c5)).setCell ⟨gs,cN*4+2,none⟩ (.bool false)).setCell ⟨gs,cN*4+3,none⟩ (.slice A8' k8' c8')=qst v8 gs (cN*4) (decide (sq.num<0)) false A5 A8' k5 c5 k8' c8':=rfl;rw [e7];have hRow6:=hRS9.out.below hp8;have hRow7:=hRow6.put hcl hk5 hk8' hW5 hW8';rw [← HCS.out] at hRow7;obtain ⟨hlen6,cs6,hbk6,hni6,-⟩:=hRow6;have hBR7:Blk (qst v8 gs (cN*4) (decide (sq.num<0)) false A5 A8' k5 c5 k8' c8') (gl+1) _ _:=(Kp.blk hp8 hBR9).far4 (by omega);have hBL7:Blk (qst v8 gs (cN*4) (decide (sq.num<0)) false A5 A8' k5 c5 k8' c8') gl _ _:=(Kp.blk hp8 hBL9).far4 (by omega);have hVb7:Blk (qst v8 gs (cN*4) (decide (sq.num<0)) false A5 A8' k5 c5 k8' c8') g9 _ _:=(Kp.blk hp8 hVb).far4 (by omega);have hRT7:=(hRT9.below hp8).far4 (o:=cN*4) (a:=decide (sq.num<0)) (b:=false) (A:=A5) (A':=A8') (k:=k5) (c:=c5) (k':=k8') (c':=c8') (by omega) hbk6 hni6;have hWQ7:=(WQ.below (WQ.below HWQ.out hVk) hp8).put4 (o:=cN*4) (a:=decide (sq.num<0)) (b:=false) (B:=A5) (B':=A8') (j:=k5) (d:=c5) (j':=k8') (d':=c8') hbk6 hni6;have hMQ7:=(hVc9.out.below hp8).put4 (o:=cN*4) (a:=decide (sq.num<0)) (b:=false) (B:=A5) (B':=A8') (j:=k5) (d:=c5) (j':=k8') (d':=c8') hbk6 hni6;have hB7:Below w.heap.size w (qst v8 gs (cN*4) (decide (sq.num<0)) false A5 A8' k5 c5 k8' c8'):=below_qst (hB9.trans (Below.mono hp8 hB9.size)) (by omega);generalize qst v8 gs (cN*4) (decide (sq.num<0)) false A5 A8' k5 c5 k8' c8'=W7 at *;have HSB:=Hj (HSUB.out W7 E5 E6 e5 f5 e6 f6 hWQ7 hMQ7);obtain ⟨x0,x1,x2,x3,y0,y1,y2,y3⟩:=hBR7.four;obtain ⟨u0,u1,u2,u3,-⟩:=hVb7.four;have HRW7:=Hj hRow7;have HRT7:=Hj hRT7;have HB7:=Hj hB7;clear e7 hW5 hW8' hF5' hF8' hbk6 hni6 i0 i1' i2' i3 i4 i5 i6 i7 t0 t1 t2 t3 a0 a1 a2 a3 hVb hRow7 hRT7 hB7 hWQ7 hMQ7 hVb7 hBR9 hBL9 hRT9 hp8 hB9 HAD
       go_wp2_with fail
       refine HSB.out.mono ?_;rintro e v9 ⟨G5,g5,h5,G6,g6,h6,rfl,hg5,hg6,hX5,hX6,hY5,hY6,hb9⟩;have hBR8:=hBR7.below hb9 hBR7.lt;have hBL8:=hBL7.below hb9 hBL7.lt;obtain ⟨l0,l1,l2,l3,m0',m1',m2',m3'⟩:=hBR8.four;have hfin:ShR w gl (gl+1) gt gs m n p q (some ⟨b5,o5,none⟩) c2 ts rn nq G5 g5 h5 G6 g6 h6 (qst v9 (gl+1) 0 (decide (nq.num<0)) false G5 G6 g5 h5 g6 h6):=by
        refine ⟨below_qst (HB7.out.trans (hb9.mono HB7.out.size)) (by omega),hBL8.far4 (by omega),hBR8.put4,?_,?_,?_⟩
        ·exact WQ.put4 ⟨hg5,hg6,hX5,hX6⟩ hBR8 NoInt.four
        ·exact (HRT7.out.below hb9).far4 (by omega) hBR8 NoInt.four
        ·exact (HRW7.out.below hb9).far4 (by omega) hBR8 NoInt.four
       have e8:(((v9.setCell ⟨gl+1,0,none⟩ (.bool (decide (nq.num<0)))).setCell ⟨gl+1,1,none⟩ (.slice G5 g5 h5)).setCell ⟨gl+1,2,none⟩ (.bool false)).setCell ⟨gl+1,3,none⟩ (.slice G6 g6 h6)=qst v9 (gl+1) 0 (decide (nq.num<0)) false G5 G6 g5 h5 g6 h6:=rfl;have HF:=Hj hfin;have HE:=Hj e8;have xw:IntKind.i64.wrap ((cN:Int)-1)=(cN:Int)-1:=IntWalk.i64_in _ (by omega);clear hfin e8 hBR8 hBL8 hb9 hX5 hX6 hY5 hY6 x0 x1 x2 x3 y0 y1 y2 y3 u0 u1 u2 u3 hBR7 hBL7 HSB;go_wp2;go_roundw
       case rel=>exact ⟨j+1,(cN:Int)-1,nq,G5,g5,h5,G6,g6,h6,by omega,rfl,hcI.out,by rw [HR1E.out];exact Hj HR1.out.symm,by rw [HRN.out];exact HF⟩
       case measure=>simp [intOf]
     ·have hVb:Blk ((((v6.setCell ⟨wr.heap.size,0,none⟩ (.bool (decide (mq.num<0)))).setCell ⟨wr.heap.size,1,none⟩ (.slice E5 e5 f5)).setCell ⟨wr.heap.size,2,none⟩ (.bool false)).setCell ⟨wr.heap.size,3,none⟩ (.slice E6 e6 f6)) (wr.heap.size) 42 #[.bool (decide (mq.num<0)),.slice E5 e5 f5,.bool false,.slice E6 e6 f6]:=hN6.put4 (o:=0);have hVc:WQ ((((v6.setCell ⟨wr.heap.size,0,none⟩ (.bool (decide (mq.num<0)))).setCell ⟨wr.heap.size,1,none⟩ (.slice E5 e5 f5)).setCell ⟨wr.heap.size,2,none⟩ (.bool false)).setCell ⟨wr.heap.size,3,none⟩ (.slice E6 e6 f6)) mq E5 e5 f5 E6 e6 f6:=WQ.put4 (o:=0) ⟨he5,he6,hV5,hV6⟩ hN6 NoInt.four;have hVk:Kp wr ((((v6.setCell ⟨wr.heap.size,0,none⟩ (.bool (decide (mq.num<0)))).setCell ⟨wr.heap.size,1,none⟩ (.slice E5 e5 f5)).setCell ⟨wr.heap.size,2,none⟩ (.bool false)).setCell ⟨wr.heap.size,3,none⟩ (.slice E6 e6 f6)):=kp_set4 hp6 (Nat.le_refl _) _ _ _ _;have hg9:gl+1<wr.heap.size:=Nat.lt_of_lt_of_le hBR.lt (by first|exact Nat.le_refl _|exact Below.size hp5|exact Below.size hp6);generalize (((v6.setCell ⟨wr.heap.size,0,none⟩ (.bool (decide (mq.num<0)))).setCell ⟨wr.heap.size,1,none⟩ (.slice E5 e5 f5)).setCell ⟨wr.heap.size,2,none⟩ (.bool false)).setCell ⟨wr.heap.size,3,none⟩ (.slice E6 e6 f6)=V at *;generalize hgg:wr.heap.size=g9 at *;have hBR9:=Kp.blk hVk hBR;have hBL9:=Kp.blk hVk hBL;have hlr:gl+1<wr.heap.size:=hBR.lt;have hgsr:gs<wr.heap.size:=by omega
      have hRS9:=HRS.out.below hVk;have hRT9:=HRT.out.below hVk;have hB9:Below w.heap.size w V:=HBB.out.trans (Below.mono hVk HBB.out.size);have t0:=(Below.cell hVk (p:=⟨gs,cN*4,none⟩) hgsr).trans s0;have t1:=(Below.cell hVk (p:=⟨gs,cN*4+1,none⟩) hgsr).trans s1;have t2:=(Below.cell hVk (p:=⟨gs,cN*4+2,none⟩) hgsr).trans s2;have t3:=(Below.cell hVk (p:=⟨gs,cN*4+3,none⟩) hgsr).trans s3;obtain ⟨a0,a1,a2,a3,-⟩:=hVb.four;have HAD:=Hj (fun W (hW:Kp V W)=>HADD.out W E5 E6 e5 f5 e6 f6 (HWY.out.below (Below.trans hVk (Below.mono hW (Below.size hVk)))) (hVc.below hW));have hVc9:=Hj hVc;have hRS9:=Hj hRS9;have s9:=Kp.refl V
      rename_i hHeld
      clear hHeld;clear FI HMIN HADD HS hp5 hp6 hW3 hW4 hk3 hk4 hVc s0 s1 s2 s3 sf0 sf1 sf2 sf3 cx
      (try clear z0 z1 z2 z3 z4 z5 z6 z7 hN6)
      (try clear hN5)
      clear hgg
      go_wp2_with fail
      go_region_with (first|(go_at_call 42;refine (HAD.out _ (Kp.drew s9)).mono ?_;rintro e v8 ⟨A5,k5,c5,A8',k8',c8',rfl,hk5,hk8',hW5,hW8',hF5',hF8',hb8⟩;have hp8:Kp V v8:=Kp.trans (Kp.drew s9) hb8;obtain ⟨_,_,_,_,_,_,i0,i1',i2',i3,i4,i5,i6,i7,-⟩:=(hRS9.out.below hp8).cells hcl;clear hb8))
      all_goals
       have e7:(((v8.setCell ⟨gs,cN*4,none⟩ (.bool (decide (sq.num<0)))).setCell ⟨gs,cN*4+1,none⟩ (.slice A5 k5 c5)).setCell ⟨gs,cN*4+2,none⟩ (.bool false)).setCell ⟨gs,cN*4+3,none⟩ (.slice A8' k8' c8')=qst v8 gs (cN*4) (decide (sq.num<0)) false A5 A8' k5 c5 k8' c8':=rfl;rw [e7];have hRow6:=hRS9.out.below hp8;have hRow7:=hRow6.put hcl hk5 hk8' hW5 hW8';rw [← HCS.out] at hRow7;obtain ⟨hlen6,cs6,hbk6,hni6,-⟩:=hRow6;have hBR7:Blk (qst v8 gs (cN*4) (decide (sq.num<0)) false A5 A8' k5 c5 k8' c8') (gl+1) _ _:=(Kp.blk hp8 hBR9).far4 (by omega);have hBL7:Blk (qst v8 gs (cN*4) (decide (sq.num<0)) false A5 A8' k5 c5 k8' c8') gl _ _:=(Kp.blk hp8 hBL9).far4 (by omega);have hVb7:Blk (qst v8 gs (cN*4) (decide (sq.num<0)) false A5 A8' k5 c5 k8' c8') g9 _ _:=(Kp.blk hp8 hVb).far4 (by omega);have hRT7:=(hRT9.below hp8).far4 (o:=cN*4) (a:=decide (sq.num<0)) (b:=false) (A:=A5) (A':=A8') (k:=k5) (c:=c5) (k':=k8') (c':=c8') (by omega) hbk6 hni6;have hWQ7:=(WQ.below (WQ.below HWQ.out hVk) hp8).put4 (o:=cN*4) (a:=decide (sq.num<0)) (b:=false) (B:=A5) (B':=A8') (j:=k5) (d:=c5) (j':=k8') (d':=c8') hbk6 hni6;have hMQ7:=(hVc9.out.below hp8).put4 (o:=cN*4) (a:=decide (sq.num<0)) (b:=false) (B:=A5) (B':=A8') (j:=k5) (d:=c5) (j':=k8') (d':=c8') hbk6 hni6;have hB7:Below w.heap.size w (qst v8 gs (cN*4) (decide (sq.num<0)) false A5 A8' k5 c5 k8' c8'):=below_qst (hB9.trans (Below.mono hp8 hB9.size)) (by omega);generalize qst v8 gs (cN*4) (decide (sq.num<0)) false A5 A8' k5 c5 k8' c8'=W7 at *;have HSB:=Hj (HSUB.out W7 E5 E6 e5 f5 e6 f6 hWQ7 hMQ7);obtain ⟨x0,x1,x2,x3,y0,y1,y2,y3⟩:=hBR7.four;obtain ⟨u0,u1,u2,u3,-⟩:=hVb7.four;have HRW7:=Hj hRow7;have HRT7:=Hj hRT7;have HB7:=Hj hB7;clear e7 hW5 hW8' hF5' hF8' hbk6 hni6 i0 i1' i2' i3 i4 i5 i6 i7 t0 t1 t2 t3 a0 a1 a2 a3 hVb hRow7 hRT7 hB7 hWQ7 hMQ7 hVb7 hBR9 hBL9 hRT9 hp8 hB9 HAD
       go_wp2_with fail
       refine HSB.out.mono ?_;rintro e v9 ⟨G5,g5,h5,G6,g6,h6,rfl,hg5,hg6,hX5,hX6,hY5,hY6,hb9⟩;have hBR8:=hBR7.below hb9 hBR7.lt;have hBL8:=hBL7.below hb9 hBL7.lt;obtain ⟨l0,l1,l2,l3,m0',m1',m2',m3'⟩:=hBR8.four;have hfin:ShR w gl (gl+1) gt gs m n p q (some ⟨b5,o5,none⟩) c2 ts rn nq G5 g5 h5 G6 g6 h6 (qst v9 (gl+1) 0 (decide (nq.num<0)) false G5 G6 g5 h5 g6 h6):=by
        refine ⟨below_qst (HB7.out.trans (hb9.mono HB7.out.size)) (by omega),hBL8.far4 (by omega),hBR8.put4,?_,?_,?_⟩
        ·exact WQ.put4 ⟨hg5,hg6,hX5,hX6⟩ hBR8 NoInt.four
        ·exact (HRT7.out.below hb9).far4 (by omega) hBR8 NoInt.four
        ·exact (HRW7.out.below hb9).far4 (by omega) hBR8 NoInt.four
       have e8:(((v9.setCell ⟨gl+1,0,none⟩ (.bool (decide (nq.num<0)))).setCell ⟨gl+1,1,none⟩ (.slice G5 g5 h5)).setCell ⟨gl+1,2,none⟩ (.bool false)).setCell ⟨gl+1,3,none⟩ (.slice G6 g6 h6)=qst v9 (gl+1) 0 (decide (nq.num<0)) false G5 G6 g5 h5 g6 h6:=rfl;have HF:=Hj hfin;have HE:=Hj e8;have xw:IntKind.i64.wrap ((cN:Int)-1)=(cN:Int)-1:=IntWalk.i64_in _ (by omega);clear hfin e8 hBR8 hBL8 hb9 hX5 hX6 hY5 hY6 x0 x1 x2 x3 y0 y1 y2 y3 u0 u1 u2 u3 hBR7 hBL7 HSB;go_wp2;go_roundw
       case rel=>exact ⟨j+1,(cN:Int)-1,nq,G5,g5,h5,G6,g6,h6,by omega,rfl,hcI.out,by rw [HR1E.out];exact Hj HR1.out.symm,by rw [HRN.out];exact HF⟩
       case measure=>simp [intOf]
    ·obtain rfl:j=n:=by omega
     have d0:decide ((0:Int)≤ci)=false:=by have:=hci.out;simp;omega
     obtain ⟨hB,hBL,hBR,hWQ,hRT,hRS⟩:=hR.out;have HF:Hid (ShO w gt gs m j ts yn wr):=Hj ⟨hB,hRT,by rw [HSA.out];exact hRS⟩;clear hB hBL hBR hWQ hRT hRS hR;go_wp2;go_roundw
     case rel=>exact ⟨i+1,by omega,by go_num,by rw [HYN.out];exact HF.out⟩
     case measure=>simp [intOf];omega
  ·obtain rfl:i=m:=by omega
   obtain ⟨hB,hRT,hRS⟩:=hR.out;have HFN:=Hj (And.intro hRS hB);clear hR hB hRT hRS;go_wp2;go_ret2;exact ⟨gs,rfl,HFN.out.1,hgs,HFN.out.2⟩
end Go.Proofs.YtjajigkacccdgaaGreat
namespace Go.Proofs.YtjajigkacccdgaaGreat
open Go.RowKit
open Wd
theorem prodI_bd2 {l:List (Int×Int)} {z:Int} (hok:OkQ l) (hpr:∀ s∈l,-1000000≤s.2∧s.2≤1000000) (h0:0≤z) {k:Nat} (hk:k<l.length):(partI l z k*(l[k]?.getD (0,0)).2).natAbs≤16000000000000:=by
 have hr:∀ k,k≤l.length→0≤restI l z k:=by
  intro k
  induction k with
  | zero=>intro _;exact h0
  | succ k ih =>
   intro hk;have:=ih (by omega);rw [restI];omega
 have ih:=hr k (by omega);have hb:=hok _ (getD_mem (d:=(0,0)) hk);have hp:=hpr _ (getD_mem (d:=(0,0)) hk);rw [Int.natAbs_mul];have h2:(partI l z k).natAbs≤16000000:=by unfold partI;omega
 have h3:(l[k]?.getD (0,0)).2.natAbs≤1000000:=by omega
 exact Nat.le_trans (Nat.mul_le_mul h2 h3) (by omega)
theorem costI_bd2 {l:List (Int×Int)} {z:Int} (hok:OkQ l) (hpr:∀ s∈l,-1000000≤s.2∧s.2≤1000000) (h0:0≤z):∀ k,k≤l.length→(costI l z k).natAbs≤16000000000000*k
 | 0,_=>by simp [costI]
 | k+1,hk=>by
  have ih:=costI_bd2 hok hpr h0 k (by omega);have hp:=prodI_bd2 hok hpr h0 (k:=k) (by omega);rw [costI];omega
theorem VL.prI {up:Bool} {n:Nat} {lv:List St.Lv} (h:VL up n lv):∀ s∈lvQ lv,-1000000≤s.2∧s.2≤1000000:=fun s hs=>by
 obtain ⟨x,hx,rfl⟩:=List.mem_map.1 hs;exact h.price x hx
theorem costOK_stack {up:Bool} {n:Nat} {lv:List St.Lv} {z:Int} (hv:VL up n lv) (h0:0≤z):CostOK 4611686018427387904 2147483648 2 1152921504606846976 2 (lvQ lv) (z:Rat):=by
 have hl:=hv.len;have hl2:=lvQ_len lv;refine ⟨by omega,by omega,by omega,by omega,by omega,by omega,by omega,by omega,by omega,by omega,by omega,by omega,fun k hk=>?_,fun k hk=>?_⟩
 ·have hb:=costI_bd2 hv.okQ hv.prI h0 k hk;rw [costAt_whole,Rat.num_intCast,Rat.den_intCast];omega
 ·have hb:=prodI_bd2 hv.okQ hv.prI h0 hk;rw [prod_whole,Rat.num_intCast,Rat.den_intCast];omega
theorem kcost_whole (up:Bool) (A:Option Addr) (m n c:Nat) (lv:List St.Lv) (z:Int) (aA aA':Option Addr) (ak ac ak' ac':Nat) (w:World) (h:LvAt w A m n lv) (hv:VL up n lv) (hq:WQ w (z:Rat) aA ak ac aA' ak' ac') (h0:0≤z) (h1:z≤totI lv) :
  Calls Tryz.prog 32 #[.slice A m c,.agg #[.bool (decide (((z:Int):Rat).num<0)),.slice aA ak ac,.bool false,.slice aA' ak' ac']] w (CstPost w ((costI (lvQ lv) z m:Int):Rat)):=by
 have hz:=(tot_bd lv hv.qty).2;have hl:=hv.len;have hq2:QAt 2147483648 2 w (decide (((z:Int):Rat).num<0)) aA ak ac false aA' ak' ac' (z:Rat) :=
  qat_len wok_small (by omega) (by omega) hq.1 hq.2.1 hq.2.2.1 hq.2.2.2 (by rw [Rat.num_intCast];omega) (by rw [Rat.den_intCast];omega)
 have hT:=kcost_ok 4611686018427387904 2147483648 2 1152921504606846976 2 wok_small (by omega) up A m n c lv _ false aA aA' ak ac ak' ac' (z:Rat) w h hq2 hv (by exact_mod_cast h0) (by exact_mod_cast h1) (costOK_stack hv h0);rw [costAt_whole] at hT;exact hT
theorem fill_over (M Nn Nd:Nat) (HO:WOK M) (hM1:2*(Nn*Nd)≤M) (hM2:Nd*Nd≤M) (hnm:Nn≤M) (hdm:Nd≤M) (hN:768000000<Nn) (hN2:Nn≤M) (hD:1<Nd)
  (up:Bool) (A:Option Addr) (n nn c:Nat) (lv:List St.Lv) (an an':Bool) (aA aA':Option Addr) (ak ac ak' ac':Nat) (q:Rat) (w:World) (h:LvAt w A n nn lv) (hq:QAt Nn Nd w an aA ak ac an' aA' ak' ac' q)
  (hv:VL up nn lv) (h0:0≤q) (h1:((totI lv:Int):Rat)<q) :
  Calls Tryz.prog 84 #[.slice A n c,.agg #[.bool an,.slice aA ak ac,.bool an',.slice aA' ak' ac']] w
   (fun e w'=>e=.returned (.tuple #[.slice none 0 0,.int .i64 1])∧Below w.heap.size w w'):=by
 have hln:=h.1;have hn:n≤48:=by have:=hv.len;omega
 have hbd:=tot_bd lv hv.qty;have hok:=hv.okQ;have hN3:16000000<Nn:=by omega
 have CC:=fun W (hW:Below w.heap.size w W)=>check_ok up A n nn c lv W (h.below hW) hv;have SM:=fun W (hW:Below w.heap.size w W)=>total_ok up A n nn c lv W (h.below hW) hv;have SG:=fun W (hW:Below w.heap.size w W)=>qsign_any an an' aA aA' ak ac ak' ac' q W (hq.below hW);have hsg:decide (sgnQ q<0)=false:=by
  have:=Rat.num_nonneg.2 h0;unfold sgnQ cmpI;split
  ·omega
  ·split<;>simp
 have hcm:decide (0<cmpQ q ((totI lv:Int):Rat))=true:=by
  unfold cmpQ;rw [if_neg (by grind),if_pos h1];simp
 have FI:=fun W=>qfromInt64_any (totI lv) W (by omega) (by omega);have hCM:∀ W (hW:Below w.heap.size w W) (B B':Option Addr) (k d k' d':Nat),k≤d→k'≤d'→Wat W B k (digs ((totI lv:Int):Rat).num.natAbs)→Wat W B' k' (denW ((totI lv:Int):Rat).den) →
   Calls Tryz.prog 43 #[.agg #[.bool an,.slice aA ak ac,.bool an',.slice aA' ak' ac'],.agg #[.bool (decide (((totI lv:Int):Rat).num<0)),.slice B k d,.bool false,.slice B' k' d']] W fun e w'=>e=.returned (.int .i64 (cmpQ q ((totI lv:Int):Rat)))∧Below W.heap.size W w':=by
  intro W hW B B' k d k' d' hk hk' h5 h6;refine qcmp_any (Nn:=Nn) (Nd:=Nd) an an' _ false aA aA' B B' ak ac ak' ac' k d k' d' q _ W (hq.below hW) (qat_canon hk hk' h5 h6 ?_ ?_ ?_ hD)
  ·rw [← h5.1,show ((totI lv:Int):Rat).num=totI lv from rfl];exact Nat.le_trans (len_le_two (by omega)) (by omega)
  ·rw [← h6.1,show ((totI lv:Int):Rat).den=1 from rfl];simp [denW]
  ·show (totI lv).natAbs<Nn;omega
 have HLN:Hid ((lvQ lv).length=n):=Hj (by rw [lvQ_len];exact hln);generalize sgnQ q=sq at *;generalize cmpQ q ((totI lv:Int):Rat)=cq at *;generalize hqr:((totI lv:Int):Rat)=qs at *;have hs1:0≤totI lv:=by omega
 have hs2:totI lv≤768000000:=by omega
 generalize totI lv=sl at *;have CC:=Hj CC;have SM:=Hj SM;have SG:=Hj SG;have FI:=Hj FI;have HCM:=Hj hCM;have HQ:=Hj hq;have HST:=Hj h;generalize hlq:lvQ lv=l at *;have HLQ:=Hj hlq;clear hlq hln;clear hCM hbd hqr h h1 hv hq;go_enter Tryz.func84,Tryz.ntmps84
 go_wp2_with fail
 obtain ⟨hB0,hBW,hsz⟩:=pre1 w 42 #[.bool an,.slice aA ak ac,.bool an',.slice aA' ak' ac'];generalize w.alloc (.cells #[.bool an,.slice aA ak ac,.bool an',.slice aA' ak' ac'] 42)=W at *;have HSZ:=Hj hsz;clear hsz;refine (CC.out W hBW).mono ?_;rintro e w1 ⟨rfl,hb1⟩;have hB0:=hB0.below hb1 hB0.lt;have hBW:Below w.heap.size w w1:=hBW.trans (hb1.mono hBW.size);clear hb1 HSZ CC;have hBK:∀ w',Kp w1 w'→Below w.heap.size w w':=fun w' hk=>hBW.trans (Below.mono hk hBW.size);have HBK:=Hj hBK;clear hBK;have s5:=Kp.refl w1
 go_wp2_with fail
 have hS:∀ w',Kp w1 w'→(w'.cell? ⟨w.heap.size,0,none⟩=some (.bool an)∧w'.cell? ⟨w.heap.size,1,none⟩=some (.slice aA ak ac)∧w'.cell? ⟨w.heap.size,2,none⟩=some (.bool an')∧w'.cell? ⟨w.heap.size,3,none⟩=some (.slice aA' ak' ac'))∧Kp w1 w':=fun w' hk=>⟨⟨(hk.blk hB0).cell 0,(hk.blk hB0).cell 1,(hk.blk hB0).cell 2,(hk.blk hB0).cell 3⟩,hk⟩;have HS:=Hj hS;clear hS
 go_region_held3 (fun w'=>(w'.cell? ⟨w.heap.size,0,none⟩=some (.bool an)∧w'.cell? ⟨w.heap.size,1,none⟩=some (.slice aA ak ac)∧w'.cell? ⟨w.heap.size,2,none⟩=some (.bool an')∧w'.cell? ⟨w.heap.size,3,none⟩=some (.slice aA' ak' ac'))∧Kp w1 w')
  (with_reducible first|(refine HS.out _ ?_;assumption)|(refine HS.out _ (Kp.drew ?_);assumption)|(refine' HS.out _ (Kp.drew (And.right ?_));rotate_left;assumption))
  (first
   | (go_at_call 57;have hk:=And.right ‹_∧Kp w1 _›;refine (SG.out _ (HBK.out _ hk)).mono ?_;rintro e v1 ⟨rfl,hb1⟩;have hr1:=hk.trans hb1;clear hb1)
   | (go_at_call 29;have hk:=And.right ‹_∧Kp w1 _›;refine (SM.out _ (HBK.out _ hk)).mono ?_;rintro e v2 ⟨rfl,hb2⟩;have hr2:=hk.trans hb2;clear hb2)
   | (go_at_call 40;have hk:=And.right ‹_∧Kp w1 _›;refine (FI.out _).mono ?_;rintro e v3 ⟨A3,k3,c3,A4,k4,c4,rfl,hk3,hk4,hW3,hW4,hF3,hF4,hb3⟩;have hr3:=hk.trans hb3;clear hb3)
   | (go_at_call 43;have hk:=And.right ‹_∧Kp w1 _›;refine (HCM.out _ (HBK.out _ hk) A3 A4 k3 c3 k4 c4 hk3 hk4 hW3 hW4).mono ?_;rintro e v4 ⟨rfl,hb4⟩;have hr4:=hk.trans hb4;clear hb4))
 rename_i hHeld
 have hB4:Below w.heap.size w v4:=HBK.out _ hr4;have HF:=Hj hB4;clear hB4 hHeld hr1 hr2 hr3 hr4 hW3 hW4 hF3 hF4 HCM FI SG SM HBK;go_wp2;go_ret2;exact ⟨rfl,HF.out⟩
theorem share_over (up:Bool) (A:Option Addr) (m n c:Nat) (lv:List St.Lv) (z:Int) (aA aA':Option Addr) (ak ac ak' ac':Nat) (w:World) (h:LvAt w A m n lv) (hv:VL up n lv) (hq:WQ w (z:Rat) aA ak ac aA' ak' ac') (h0:0≤z) (h1:totI lv<z) (h2:z≤1000000000000) :
  Calls Tryz.prog 31 #[.slice A m c,.agg #[.bool (decide (((z:Int):Rat).num<0)),.slice aA ak ac,.bool false,.slice aA' ak' ac']] w fun e w'=>e=.returned (.tuple #[.slice none 0 0,.int .i64 1])∧Below w.heap.size w w':=by
 have HF0:=Hj (fun W (hW:Below w.heap.size w W)=>fill_over 4611686018427387904 1152921504606846976 2 wok_small (by omega) (by omega) (by omega) (by omega) (by omega) (by omega) (by omega) up A m n c lv _ false aA aA' ak ac ak' ac' (z:Rat) W (h.below hW) ((hq.below hW).at (by rw [Rat.num_intCast];omega) (by rw [Rat.den_intCast];omega)) hv (by exact_mod_cast h0) (by exact_mod_cast h1));generalize ((z:Int):Rat)=zq at *;clear h hv hq h0 h1 h2;go_enter Tryz.func31,Tryz.ntmps31
 go_wp2_with fail
 obtain ⟨hB0,hBW,hsz⟩:=pre1 w 42 #[.bool (decide (zq.num<0)),.slice aA ak ac,.bool false,.slice aA' ak' ac'];generalize w.alloc (.cells #[.bool (decide (zq.num<0)),.slice aA ak ac,.bool false,.slice aA' ak' ac'] 42)=W at *;have HSZ:=Hj hsz;clear hsz;refine (HF0.out W hBW).mono ?_;rintro e w1 ⟨rfl,hb1⟩;have HB1:=Hj (hBW.trans (hb1.mono hBW.size));clear hb1 hBW;go_wp2;go_ret2;exact ⟨rfl,HB1.out⟩
end Go.Proofs.YtjajigkacccdgaaGreat
