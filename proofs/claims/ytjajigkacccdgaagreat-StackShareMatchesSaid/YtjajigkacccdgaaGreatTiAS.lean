/-
Lemmas of the walk; no further conditions.
-/
import Derived.Test.YtjajigkacccdgaaGreatTiAR
set_option linter.unusedVariables false
set_option linter.unusedSimpArgs false
set_option maxRecDepth 100000
set_option maxHeartbeats 16000000
namespace Go.Proofs.YtjajigkacccdgaaGreat
open Go.RowKit
open Wd
abbrev Ent:=Int×Int×Option Addr×Nat
def eCells (n:Nat) (es:List Ent):List Value:=es.flatMap fun e=>[.int .i64 e.1,.int .i64 e.2.1,.slice e.2.2.1 n e.2.2.2]
theorem eCells_append (n:Nat) (a b:List Ent):eCells n (a ++ b)=eCells n a ++ eCells n b:=by simp [eCells]
theorem eCells_len (n:Nat) (l:List Ent):(eCells n l).length=l.length*3:=by
 induction l with
 | nil=>rfl
 | cons s l ih =>
  have:eCells n (s :: l)=[.int .i64 s.1,.int .i64 s.2.1,.slice s.2.2.1 n s.2.2.2] ++ eCells n l:=by simp [eCells]
  rw [this,List.length_append,ih];simp;omega
def Ent0:Ent:=(0,0,none,0)
theorem eCells_get (n:Nat):∀ (l:List Ent) (j:Nat),j<l.length→(eCells n l)[j*3]?=some (.int .i64 (l[j]?.getD Ent0).1)∧(eCells n l)[j*3+1]?=some (.int .i64 (l[j]?.getD Ent0).2.1)∧(eCells n l)[j*3+2]?=some (.slice (l[j]?.getD Ent0).2.2.1 n (l[j]?.getD Ent0).2.2.2)
 | [],j,h=>absurd h (by simp)
 | s :: l,0,_=>by simp [eCells]
 | s :: l,j+1,h=>by
  have e:eCells n (s :: l)=.int .i64 s.1 :: .int .i64 s.2.1 :: .slice s.2.2.1 n s.2.2.2 :: eCells n l:=by simp [eCells]
  have ih:=eCells_get n l j (by simpa using h);rw [e,show (j+1)*3=j*3+1+1+1 by omega,show j*3+1+1+1+1=(j*3+1)+1+1+1 by omega,show j*3+1+1+1+2=(j*3+2)+1+1+1 by omega];simp only [List.getElem?_cons_succ];exact ih
theorem eCells_one (n:Nat) (l:List Ent):∀ u∈eCells n l,u.oneCell'=true:=by
 intro u hu;obtain ⟨s,_,h⟩:=List.mem_flatMap.1 hu;simp at h;rcases h with rfl|rfl|rfl<;>rfl
theorem Own.low {base base':Nat} {e:TypeId} {size:Nat} {w:World} {A:Option Addr} {n c:Nat} {xs:List Value} (h:Own base e size w A n c xs) (hb:base'≤base):Own base' e size w A n c xs:=by
 refine ⟨h.1,?_⟩;rcases h.2 with h2|⟨g,cap,cur,h2,h3,h4⟩
 ·exact Or.inl h2
 ·exact Or.inr ⟨g,cap,cur,h2,Nat.le_trans hb h3,h4⟩
def EntsO (base n:Nat) (lv:List St.Lv) (w:World) (i:Nat) (es:List Ent):Prop :=
 es.length=i∧∀ j,j<i→(es[j]?.getD Ent0).1=(lv[j]?.getD Lv0).1∧(es[j]?.getD Ent0).2.1=(lv[j]?.getD Lv0).2.1∧Own base 2 1 w (es[j]?.getD Ent0).2.2.1 n (es[j]?.getD Ent0).2.2.2 ((lv[j]?.getD Lv0).2.2.map (Value.int .i64))
theorem Own.levels {base:Nat} {e:TypeId} {w:World} {A:Option Addr} {m n c:Nat} {es:List Ent} {lv:List St.Lv} (h:Own base e 3 w A m c (eCells n es)) (hl:lv.length=m) (he:EntsO base n lv w m es):LvAt w A m n lv:=by
 refine ⟨hl,fun hn=>?_⟩;have hel:=he.1;have hcl:=eCells_len n es;obtain ⟨g,cap,hv,hb,hlt⟩:=World.ownsRow.form h (by omega);simp at hv;obtain ⟨rfl,rfl⟩:=hv;refine ⟨g,0,rfl,hlt,fun j hj=>?_⟩;obtain ⟨g1,g2,g3⟩:=eCells_get n es j (by omega);obtain ⟨e1,e2,e3⟩:=he.2 j hj;rw [Nat.zero_add,World.ownsRow.cellAt h (j*3) (by omega),World.ownsRow.cellAt h (j*3+1) (by omega),World.ownsRow.cellAt h (j*3+2) (by omega),g1,g2,g3,e1,e2];exact ⟨_,_,⟨rfl,rfl,rfl⟩,e3.ints⟩
theorem EntsO.below {base n:Nat} {lv:List St.Lv} {w w':World} {i:Nat} {es:List Ent} (h:EntsO base n lv w i es) (hb:Below w.heap.size w w'):EntsO base n lv w' i es :=
 ⟨h.1,fun j hj=>⟨(h.2 j hj).1,(h.2 j hj).2.1,(h.2 j hj).2.2.keep hb⟩⟩
theorem EntsO.far {base base' n m d:Nat} {lv:List St.Lv} {w w':World} {i:Nat} {es:List Ent} {B:Option Addr} {e':TypeId} {size':Nat} {ys:List Value} (h:EntsO base n lv w i es) (h':Own base' e' size' w B m d ys) (hne:2≠e') (hk:Kept w w' B):EntsO base n lv w' i es :=
 ⟨h.1,fun j hj=>⟨(h.2 j hj).1,(h.2 j hj).2.1,(h.2 j hj).2.2.far h' hne hk⟩⟩
theorem EntsO.snoc {base n:Nat} {lv:List St.Lv} {w:World} {i:Nat} {es:List Ent} {x:Ent} (h:EntsO base n lv w i es) (h1:x.1=(lv[i]?.getD Lv0).1) (h2:x.2.1=(lv[i]?.getD Lv0).2.1) (h3:Own base 2 1 w x.2.2.1 n x.2.2.2 ((lv[i]?.getD Lv0).2.2.map (Value.int .i64))):EntsO base n lv w (i+1) (es ++ [x]):=by
 have hl:=h.1;refine ⟨by simp [hl],fun j hj=>?_⟩;by_cases hji:j<i
 ·rw [List.getElem?_append_left (by omega)];exact h.2 j hji
 ·obtain rfl:j=i:=by omega
  rw [List.getElem?_append_right (by omega),hl,Nat.sub_self];exact ⟨h1,h2,h3⟩
theorem info_rlevel:(Tryz.prog.info? 105).map (fun i=>(i.zero,i.size,i.bytes))=some (some (.agg #[.int .i64 0,.int .i64 0,.slice none 0 0]),3,40):=by kernel_rfl
theorem told_any (A:Option Addr) (m n c:Nat) (lv:List St.Lv) (w:World) (h:LvAt w A m n lv) (hm:m≤1000000) (hn:n≤1000000) :
  Calls Tryz.prog 19 #[.slice A m c] w fun e w'=>∃ A1 c1,e=.returned (.slice A1 m c1)∧LvAt w' A1 m n lv∧Below w.heap.size w w':=by
 have HX:=Hj h;obtain ⟨ii,hii,hz0,hz1,hz2⟩:=info_parts info_rlevel;have HI:=Hj hii;have HZ0:=Hj hz0;have HZ1:=Hj hz1;have HZ2:=Hj hz2;obtain ⟨ji,hji,jz0,jz1,jz2⟩:=info_parts info_int64;have JI:=Hj hji;have JZ0:=Hj jz0;have JZ1:=Hj jz1;have JZ2:=Hj jz2;clear h hii hz0 hz1 hz2 hji jz0 jz1 jz2;go_enter Tryz.func19,Tryz.ntmps19
 go_wp2_with fail
 go_loopw [3,4] (fun th t wr=>∃ (i:Nat) (Ah:Option Addr) (ch:Nat) (es:List Ent),i≤m∧t=.int .i64 (i:Int)∧th=.slice Ah i ch∧Hid (Below w.heap.size w wr∧Own w.heap.size 105 3 wr Ah i ch (eCells n es)∧EntsO w.heap.size n lv wr i es)) (fun _ t _=>m-(intOf t).toNat)
 case atStart=>exact ⟨0,none,0,[],Nat.zero_le _,rfl,rfl,Below.refl _ _,Own.nil _ _ _ _,rfl,fun j hj=>absurd hj (by omega)⟩
 case round =>
  obtain ⟨i,Ah,ch,es,hi,rfl,rfl,hR⟩:=hrel;by_cases hlt:i<m
  ·obtain ⟨hB,hO,hE⟩:=hR.out;obtain ⟨b,o,rfl,hb,hc⟩:=HX.out.2 (by omega);obtain ⟨A',c',⟨e0,e1,e2⟩,hp⟩:=hc i hlt;have i1:(0:Int)≤(i:Int):=by omega
   have i2:(i:Int)<(m:Int):=by omega
   have hxe:lv[i]?.getD Lv0=((lv[i]?.getD Lv0).1,(lv[i]?.getD Lv0).2.1,(lv[i]?.getD Lv0).2.2):=rfl;generalize (lv[i]?.getD Lv0).1=pz at *;generalize (lv[i]?.getD Lv0).2.1=qz at *;generalize (lv[i]?.getD Lv0).2.2=xs at *;have HXE:=Hj hxe;have hS:∀ w',Below w.heap.size w w'→(w'.cell? ⟨b,o+i*3,none⟩=some (.int .i64 pz)∧w'.cell? ⟨b,o+i*3+1,none⟩=some (.int .i64 qz)∧w'.cell? ⟨b,o+i*3+2,none⟩=some (.slice A' n c'))∧Below w.heap.size w w':=fun w' hk=>⟨⟨(hk.cell (p:=⟨b,_,none⟩) hb).trans e0,(hk.cell (p:=⟨b,_,none⟩) hb).trans e1,(hk.cell (p:=⟨b,_,none⟩) hb).trans e2⟩,hk⟩;have HS:=Hj hS;have q0:=hB;have k0:=(Kp.refl wr).alloc (.cells #[] 2);have q1:Below w.heap.size w (wr.alloc (.cells #[] 2)):=hB.trans (Below.mono k0 hB.size);have o1:Own wr.heap.size 2 1 (wr.alloc (.cells #[] 2)) (some ⟨wr.heap.size,0,none⟩) 0 0 []:=Own.made wr (Nat.le_refl _);have HSR:=Hj (fun W (hW:Below w.heap.size w W)=>(hp.below hW).src);have HRR:=Hj (And.intro hO hE);have him:i≤1000000:=by omega
   clear hc hR hS hxe e0 e1 e2 hp hO hE
   go_wp2_with fail
   go_region_held3 (fun w'=>(w'.cell? ⟨b,o+i*3,none⟩=some (.int .i64 pz)∧w'.cell? ⟨b,o+i*3+1,none⟩=some (.int .i64 qz)∧w'.cell? ⟨b,o+i*3+2,none⟩=some (.slice A' n c'))∧Below w.heap.size w w')
    (first|exact HS.out _ g2|exact HS.out _ g3|exact HS.out _ g1|exact HS.out _ q0.drew|exact HS.out _ q1.drew)
    (first
     | (refine step_append_my (base:=wr.heap.size) (e:=2) (size:=1) (bytes:=8) (by rfl) (.tmp 22) (.tmp 27) 62 rfl Tryz.underlying62 JI.out JZ0.out JZ1.out JZ2.out rfl (by decide) (xs:=[]) (news:=xs.map (Value.int .i64)) rfl (by exact o1) rfl (HSR.out _ (by exact q1.drew)) (by simp only [maxLen];omega) (by omega) (Below.size (w:=wr) (B:=wr.heap.size) (by exact k0.drew)) ?_
        intro B1 cb1 w1 hO1 hb1 hk1;have k1:Kp wr w1:=Below.trans (by exact k0.drew) hb1;have g1:Below w.heap.size w w1:=q0.trans (Below.mono k1 q0.size);simp only [Nat.zero_add,List.nil_append] at hO1 ⊢;have a2:Kp w1 (w1.alloc (.cells #[.int .i64 pz,.int .i64 qz,.slice B1 n cb1] 105)):=(Kp.refl w1).alloc _;have g2:Below w.heap.size w (w1.alloc (.cells #[.int .i64 pz,.int .i64 qz,.slice B1 n cb1] 105)):=g1.trans (Below.mono a2 g1.size);have o2:=(HRR.out.1.keep k1).keep a2;have m2:=Blk.new w1 105 #[.int .i64 pz,.int .i64 qz,.slice B1 n cb1];clear hb1 hk1)
     | (refine step_append_my (base:=w.heap.size) (e:=105) (size:=3) (bytes:=40) (by rfl) (.tmp 11) (.tmp 30) 25 rfl Tryz.underlying25 HI.out HZ0.out HZ1.out HZ2.out rfl (by decide) (xs:=eCells n es) (news:=[.int .i64 pz,.int .i64 qz,.slice B1 n cb1]) rfl (by exact o2) rfl (by exact Blk.src m2 rfl (eCells_one n [(pz,qz,B1,cb1)])) (by simp only [maxLen];omega) (by omega) (Below.size (w:=w) (B:=w.heap.size) (by exact g2)) ?_
        intro B2 cb2 w2 hO2 hb2 hk2;have g3:Below w.heap.size w w2:=Below.trans (by exact g2) hb2;have hk2':Kept (w1.alloc (.cells #[.int .i64 pz,.int .i64 qz,.slice B1 n cb1] 105)) w2 Ah:=hk2;clear hb2 hk2))
   have hfin:Below w.heap.size w w2∧Own w.heap.size 105 3 w2 B2 (i+1) cb2 (eCells n (es ++ [(pz,qz,B1,cb1)]))∧EntsO w.heap.size n lv w2 (i+1) (es ++ [(pz,qz,B1,cb1)]):=by
    refine ⟨g3,?_,?_⟩
    ·rw [eCells_append];exact hO2
    ·have he1:=(HRR.out.2.below k1).snoc (x:=(pz,qz,B1,cb1)) (by rw [HXE.out]) (by rw [HXE.out]) (by rw [HXE.out];exact hO1.low q0.size);exact (he1.below a2).far o2 (by decide) hk2'
   have HF:=Hj hfin;clear hfin g3 hO2 hk2' o2 m2 g2 a2 hO1 k1 g1;go_wp2;go_roundw
   case rel=>exact ⟨i+1,B2,cb2,_,by omega,by go_num,rfl,HF.out⟩
   case measure=>simp [intOf];omega
  ·obtain rfl:i=m:=by omega
   obtain ⟨hB,hO,hE⟩:=hR.out;have HF:=Hj (show LvAt wr Ah i n lv∧Below w.heap.size w wr from ⟨hO.levels HX.out.1 hE,hB⟩);clear hR hB hO hE;go_wp2;go_ret;exact ⟨Ah,ch,rfl,HF.out⟩
abbrev EntL:=Int×Int×Option Addr×Nat×Nat
def lCells (es:List EntL):List Value:=es.flatMap fun e=>[.int .i64 e.1,.int .i64 e.2.1,.slice e.2.2.1 e.2.2.2.1 e.2.2.2.2]
theorem lCells_append (a b:List EntL):lCells (a ++ b)=lCells a ++ lCells b:=by simp [lCells]
theorem lCells_len (l:List EntL):(lCells l).length=l.length*3:=by
 induction l with
 | nil=>rfl
 | cons s l ih =>
  have:lCells (s :: l)=[.int .i64 s.1,.int .i64 s.2.1,.slice s.2.2.1 s.2.2.2.1 s.2.2.2.2] ++ lCells l:=by simp [lCells]
  rw [this,List.length_append,ih];simp;omega
def EntL0:EntL:=(0,0,none,0,0)
theorem lCells_get:∀ (l:List EntL) (j:Nat),j<l.length→(lCells l)[j*3]?=some (.int .i64 (l[j]?.getD EntL0).1)∧(lCells l)[j*3+1]?=some (.int .i64 (l[j]?.getD EntL0).2.1)∧(lCells l)[j*3+2]?=some (.slice (l[j]?.getD EntL0).2.2.1 (l[j]?.getD EntL0).2.2.2.1 (l[j]?.getD EntL0).2.2.2.2)
 | [],j,h=>absurd h (by simp)
 | s :: l,0,_=>by simp [lCells]
 | s :: l,j+1,h=>by
  have e:lCells (s :: l)=.int .i64 s.1 :: .int .i64 s.2.1 :: .slice s.2.2.1 s.2.2.2.1 s.2.2.2.2 :: lCells l:=by simp [lCells]
  have ih:=lCells_get l j (by simpa using h);rw [e,show (j+1)*3=j*3+1+1+1 by omega,show j*3+1+1+1+1=(j*3+1)+1+1+1 by omega,show j*3+1+1+1+2=(j*3+2)+1+1+1 by omega];simp only [List.getElem?_cons_succ];exact ih
theorem lCells_one (l:List EntL):∀ u∈lCells l,u.oneCell'=true:=by
 intro u hu;obtain ⟨s,_,h⟩:=List.mem_flatMap.1 hu;simp at h;rcases h with rfl|rfl|rfl<;>rfl
def EntsL (base:Nat) (lv:List St.Lv) (w:World) (i:Nat) (es:List EntL):Prop :=
 es.length=i∧∀ j,j<i→(es[j]?.getD EntL0).1=(lv[j]?.getD Lv0).1∧(es[j]?.getD EntL0).2.1=(lv[j]?.getD Lv0).2.1∧(es[j]?.getD EntL0).2.2.2.1=(lv[j]?.getD Lv0).2.2.length∧Own base 2 1 w (es[j]?.getD EntL0).2.2.1 (es[j]?.getD EntL0).2.2.2.1 (es[j]?.getD EntL0).2.2.2.2 ((lv[j]?.getD Lv0).2.2.map (Value.int .i64))
theorem Own.levelsL {base:Nat} {e:TypeId} {w:World} {A:Option Addr} {m c:Nat} {es:List EntL} {lv:List St.Lv} (h:Own base e 3 w A m c (lCells es)) (hl:lv.length=m) (he:EntsL base lv w m es):LsAt w A m lv:=by
 refine ⟨hl,fun hn=>?_⟩;have hel:=he.1;have hcl:=lCells_len es;obtain ⟨g,cap,hv,hb,hlt⟩:=World.ownsRow.form h (by omega);simp at hv;obtain ⟨rfl,rfl⟩:=hv;refine ⟨g,0,rfl,hlt,fun j hj=>?_⟩;obtain ⟨g1,g2,g3⟩:=lCells_get es j (by omega);obtain ⟨e1,e2,e4,e3⟩:=he.2 j hj;rw [e4] at e3;rw [Nat.zero_add,World.ownsRow.cellAt h (j*3) (by omega),World.ownsRow.cellAt h (j*3+1) (by omega),World.ownsRow.cellAt h (j*3+2) (by omega),g1,g2,g3,e1,e2,e4];exact ⟨_,_,⟨rfl,rfl,rfl⟩,e3.ints⟩
theorem EntsL.below {base:Nat} {lv:List St.Lv} {w w':World} {i:Nat} {es:List EntL} (h:EntsL base lv w i es) (hb:Below w.heap.size w w'):EntsL base lv w' i es :=
 ⟨h.1,fun j hj=>⟨(h.2 j hj).1,(h.2 j hj).2.1,(h.2 j hj).2.2.1,(h.2 j hj).2.2.2.keep hb⟩⟩
theorem EntsL.far {base base' m d:Nat} {lv:List St.Lv} {w w':World} {i:Nat} {es:List EntL} {B:Option Addr} {e':TypeId} {size':Nat} {ys:List Value} (h:EntsL base lv w i es) (h':Own base' e' size' w B m d ys) (hne:2≠e') (hk:Kept w w' B):EntsL base lv w' i es :=
 ⟨h.1,fun j hj=>⟨(h.2 j hj).1,(h.2 j hj).2.1,(h.2 j hj).2.2.1,(h.2 j hj).2.2.2.far h' hne hk⟩⟩
theorem EntsL.snoc {base:Nat} {lv:List St.Lv} {w:World} {i:Nat} {es:List EntL} {x:EntL} (h:EntsL base lv w i es) (h1:x.1=(lv[i]?.getD Lv0).1) (h2:x.2.1=(lv[i]?.getD Lv0).2.1) (h4:x.2.2.2.1=(lv[i]?.getD Lv0).2.2.length) (h3:Own base 2 1 w x.2.2.1 x.2.2.2.1 x.2.2.2.2 ((lv[i]?.getD Lv0).2.2.map (Value.int .i64))):EntsL base lv w (i+1) (es ++ [x]):=by
 have hl:=h.1;refine ⟨by simp [hl],fun j hj=>?_⟩;by_cases hji:j<i
 ·rw [List.getElem?_append_left (by omega)];exact h.2 j hji
 ·obtain rfl:j=i:=by omega
  rw [List.getElem?_append_right (by omega),hl,Nat.sub_self];exact ⟨h1,h2,h4,h3⟩
theorem tolds_any (A:Option Addr) (m c:Nat) (lv:List St.Lv) (w:World) (h:LsAt w A m lv) (hm:m≤1000000) (hn:∀ j,j<m→(lv[j]?.getD Lv0).2.2.length≤1000000) :
  Calls Tryz.prog 19 #[.slice A m c] w fun e w'=>∃ A1 c1,e=.returned (.slice A1 m c1)∧LsAt w' A1 m lv∧Below w.heap.size w w':=by
 have HX:=Hj h;have HNN:=Hj hn;obtain ⟨ii,hii,hz0,hz1,hz2⟩:=info_parts info_rlevel;have HI:=Hj hii;have HZ0:=Hj hz0;have HZ1:=Hj hz1;have HZ2:=Hj hz2;obtain ⟨ji,hji,jz0,jz1,jz2⟩:=info_parts info_int64;have JI:=Hj hji;have JZ0:=Hj jz0;have JZ1:=Hj jz1;have JZ2:=Hj jz2;clear h hn hii hz0 hz1 hz2 hji jz0 jz1 jz2;go_enter Tryz.func19,Tryz.ntmps19
 go_wp2_with fail
 go_loopw [3,4] (fun th t wr=>∃ (i:Nat) (Ah:Option Addr) (ch:Nat) (es:List EntL),i≤m∧t=.int .i64 (i:Int)∧th=.slice Ah i ch∧Hid (Below w.heap.size w wr∧Own w.heap.size 105 3 wr Ah i ch (lCells es)∧EntsL w.heap.size lv wr i es)) (fun _ t _=>m-(intOf t).toNat)
 case atStart=>exact ⟨0,none,0,[],Nat.zero_le _,rfl,rfl,Below.refl _ _,Own.nil _ _ _ _,rfl,fun j hj=>absurd hj (by omega)⟩
 case round =>
  obtain ⟨i,Ah,ch,es,hi,rfl,rfl,hR⟩:=hrel;by_cases hlt:i<m
  ·obtain ⟨hB,hO,hE⟩:=hR.out;obtain ⟨b,o,rfl,hb,hc⟩:=HX.out.2 (by omega);obtain ⟨A',c',⟨e0,e1,e2⟩,hp⟩:=hc i hlt;have hnn:=HNN.out i hlt;have i1:(0:Int)≤(i:Int):=by omega
   have i2:(i:Int)<(m:Int):=by omega
   have hxe:lv[i]?.getD Lv0=((lv[i]?.getD Lv0).1,(lv[i]?.getD Lv0).2.1,(lv[i]?.getD Lv0).2.2):=rfl;generalize (lv[i]?.getD Lv0).1=pz at *;generalize (lv[i]?.getD Lv0).2.1=qz at *;generalize (lv[i]?.getD Lv0).2.2=xs at *;generalize hxl:xs.length=n at *;have HXL:=Hj hxl;clear hxl;have HXE:=Hj hxe;have hS:∀ w',Below w.heap.size w w'→(w'.cell? ⟨b,o+i*3,none⟩=some (.int .i64 pz)∧w'.cell? ⟨b,o+i*3+1,none⟩=some (.int .i64 qz)∧w'.cell? ⟨b,o+i*3+2,none⟩=some (.slice A' n c'))∧Below w.heap.size w w':=fun w' hk=>⟨⟨(hk.cell (p:=⟨b,_,none⟩) hb).trans e0,(hk.cell (p:=⟨b,_,none⟩) hb).trans e1,(hk.cell (p:=⟨b,_,none⟩) hb).trans e2⟩,hk⟩;have HS:=Hj hS;have q0:=hB;have k0:=(Kp.refl wr).alloc (.cells #[] 2);have q1:Below w.heap.size w (wr.alloc (.cells #[] 2)):=hB.trans (Below.mono k0 hB.size);have o1:Own wr.heap.size 2 1 (wr.alloc (.cells #[] 2)) (some ⟨wr.heap.size,0,none⟩) 0 0 []:=Own.made wr (Nat.le_refl _);have HSR:=Hj (fun W (hW:Below w.heap.size w W)=>(hp.below hW).src);have HRR:=Hj (And.intro hO hE);have him:i≤1000000:=by omega
   clear hc hR hS hxe e0 e1 e2 hp hO hE
   go_wp2_with fail
   go_region_held3 (fun w'=>(w'.cell? ⟨b,o+i*3,none⟩=some (.int .i64 pz)∧w'.cell? ⟨b,o+i*3+1,none⟩=some (.int .i64 qz)∧w'.cell? ⟨b,o+i*3+2,none⟩=some (.slice A' n c'))∧Below w.heap.size w w')
    (first|exact HS.out _ g2|exact HS.out _ g3|exact HS.out _ g1|exact HS.out _ q0.drew|exact HS.out _ q1.drew)
    (first
     | (refine step_append_my (base:=wr.heap.size) (e:=2) (size:=1) (bytes:=8) (by rfl) (.tmp 22) (.tmp 27) 62 rfl Tryz.underlying62 JI.out JZ0.out JZ1.out JZ2.out rfl (by decide) (xs:=[]) (news:=xs.map (Value.int .i64)) rfl (by exact o1) rfl (HSR.out _ (by exact q1.drew)) (by simp only [maxLen];omega) (by omega) (Below.size (w:=wr) (B:=wr.heap.size) (by exact k0.drew)) ?_
        intro B1 cb1 w1 hO1 hb1 hk1;have k1:Kp wr w1:=Below.trans (by exact k0.drew) hb1;have g1:Below w.heap.size w w1:=q0.trans (Below.mono k1 q0.size);simp only [Nat.zero_add,List.nil_append] at hO1 ⊢;have a2:Kp w1 (w1.alloc (.cells #[.int .i64 pz,.int .i64 qz,.slice B1 n cb1] 105)):=(Kp.refl w1).alloc _;have g2:Below w.heap.size w (w1.alloc (.cells #[.int .i64 pz,.int .i64 qz,.slice B1 n cb1] 105)):=g1.trans (Below.mono a2 g1.size);have o2:=(HRR.out.1.keep k1).keep a2;have m2:=Blk.new w1 105 #[.int .i64 pz,.int .i64 qz,.slice B1 n cb1];clear hb1 hk1)
     | (refine step_append_my (base:=w.heap.size) (e:=105) (size:=3) (bytes:=40) (by rfl) (.tmp 11) (.tmp 30) 25 rfl Tryz.underlying25 HI.out HZ0.out HZ1.out HZ2.out rfl (by decide) (xs:=lCells es) (news:=[.int .i64 pz,.int .i64 qz,.slice B1 n cb1]) rfl (by exact o2) rfl (by exact Blk.src m2 rfl (lCells_one [(pz,qz,B1,n,cb1)])) (by simp only [maxLen];omega) (by omega) (Below.size (w:=w) (B:=w.heap.size) (by exact g2)) ?_
        intro B2 cb2 w2 hO2 hb2 hk2;have g3:Below w.heap.size w w2:=Below.trans (by exact g2) hb2;have hk2':Kept (w1.alloc (.cells #[.int .i64 pz,.int .i64 qz,.slice B1 n cb1] 105)) w2 Ah:=hk2;clear hb2 hk2))
   have hfin:Below w.heap.size w w2∧Own w.heap.size 105 3 w2 B2 (i+1) cb2 (lCells (es ++ [(pz,qz,B1,n,cb1)]))∧EntsL w.heap.size lv w2 (i+1) (es ++ [(pz,qz,B1,n,cb1)]):=by
    refine ⟨g3,?_,?_⟩
    ·rw [lCells_append];exact hO2
    ·have he1:=(HRR.out.2.below k1).snoc (x:=(pz,qz,B1,n,cb1)) (by rw [HXE.out]) (by rw [HXE.out]) (by rw [HXE.out];exact HXL.out.symm) (by rw [HXE.out];exact hO1.low q0.size);exact (he1.below a2).far o2 (by decide) hk2'
   have HF:=Hj hfin;clear hfin g3 hO2 hk2' o2 m2 g2 a2 hO1 k1 g1;go_wp2;go_roundw
   case rel=>exact ⟨i+1,B2,cb2,_,by omega,by go_num,rfl,HF.out⟩
   case measure=>simp [intOf];omega
  ·obtain rfl:i=m:=by omega
   obtain ⟨hB,hO,hE⟩:=hR.out;have HF:=Hj (show LsAt wr Ah i lv∧Below w.heap.size w wr from ⟨hO.levelsL HX.out.1 hE,hB⟩);clear hR hB hO hE;go_wp2;go_ret;exact ⟨Ah,ch,rfl,HF.out⟩
theorem given_any (A:Option Addr) (m c:Nat) (lv:List St.Lv) (w:World) (h:LsAt w A m lv) (hm:m≤1000000) (hn:∀ j,j<m→(lv[j]?.getD Lv0).2.2.length≤1000000) :
  Calls Tryz.prog 24 #[.slice A m c] w fun e w'=>∃ A1 c1,e=.returned (.slice A1 m c1)∧LsAt w' A1 m lv∧Below w.heap.size w w':=by
 have HX:=Hj h;have HNN:=Hj hn;obtain ⟨ii,hii,hz0,hz1,hz2⟩:=info_parts linfo;have HI:=Hj hii;have HZ0:=Hj hz0;have HZ1:=Hj hz1;have HZ2:=Hj hz2;obtain ⟨ji,hji,jz0,jz1,jz2⟩:=info_parts info_int64;have JI:=Hj hji;have JZ0:=Hj jz0;have JZ1:=Hj jz1;have JZ2:=Hj jz2;clear h hn hii hz0 hz1 hz2 hji jz0 jz1 jz2;go_enter Tryz.func24,Tryz.ntmps24
 go_wp2_with fail
 go_loopw [3,4] (fun th t wr=>∃ (i:Nat) (Ah:Option Addr) (ch:Nat) (es:List EntL),i≤m∧t=.int .i64 (i:Int)∧th=.slice Ah i ch∧Hid (Below w.heap.size w wr∧Own w.heap.size 64 3 wr Ah i ch (lCells es)∧EntsL w.heap.size lv wr i es)) (fun _ t _=>m-(intOf t).toNat)
 case atStart=>exact ⟨0,none,0,[],Nat.zero_le _,rfl,rfl,Below.refl _ _,Own.nil _ _ _ _,rfl,fun j hj=>absurd hj (by omega)⟩
 case round =>
  obtain ⟨i,Ah,ch,es,hi,rfl,rfl,hR⟩:=hrel;by_cases hlt:i<m
  ·obtain ⟨hB,hO,hE⟩:=hR.out;obtain ⟨b,o,rfl,hb,hc⟩:=HX.out.2 (by omega);obtain ⟨A',c',⟨e0,e1,e2⟩,hp⟩:=hc i hlt;have hnn:=HNN.out i hlt;have i1:(0:Int)≤(i:Int):=by omega
   have i2:(i:Int)<(m:Int):=by omega
   have hxe:lv[i]?.getD Lv0=((lv[i]?.getD Lv0).1,(lv[i]?.getD Lv0).2.1,(lv[i]?.getD Lv0).2.2):=rfl;generalize (lv[i]?.getD Lv0).1=pz at *;generalize (lv[i]?.getD Lv0).2.1=qz at *;generalize (lv[i]?.getD Lv0).2.2=xs at *;generalize hxl:xs.length=n at *;have HXL:=Hj hxl;clear hxl;have HXE:=Hj hxe;have hS:∀ w',Below w.heap.size w w'→(w'.cell? ⟨b,o+i*3,none⟩=some (.int .i64 pz)∧w'.cell? ⟨b,o+i*3+1,none⟩=some (.int .i64 qz)∧w'.cell? ⟨b,o+i*3+2,none⟩=some (.slice A' n c'))∧Below w.heap.size w w':=fun w' hk=>⟨⟨(hk.cell (p:=⟨b,_,none⟩) hb).trans e0,(hk.cell (p:=⟨b,_,none⟩) hb).trans e1,(hk.cell (p:=⟨b,_,none⟩) hb).trans e2⟩,hk⟩;have HS:=Hj hS;have q0:=hB;have k0:=(Kp.refl wr).alloc (.cells #[] 2);have q1:Below w.heap.size w (wr.alloc (.cells #[] 2)):=hB.trans (Below.mono k0 hB.size);have o1:Own wr.heap.size 2 1 (wr.alloc (.cells #[] 2)) (some ⟨wr.heap.size,0,none⟩) 0 0 []:=Own.made wr (Nat.le_refl _);have HSR:=Hj (fun W (hW:Below w.heap.size w W)=>(hp.below hW).src);have HRR:=Hj (And.intro hO hE);have him:i≤1000000:=by omega
   clear hc hR hS hxe e0 e1 e2 hp hO hE
   go_wp2_with fail
   go_region_held3 (fun w'=>(w'.cell? ⟨b,o+i*3,none⟩=some (.int .i64 pz)∧w'.cell? ⟨b,o+i*3+1,none⟩=some (.int .i64 qz)∧w'.cell? ⟨b,o+i*3+2,none⟩=some (.slice A' n c'))∧Below w.heap.size w w')
    (first|exact HS.out _ g2|exact HS.out _ g3|exact HS.out _ g1|exact HS.out _ q0.drew|exact HS.out _ q1.drew)
    (first
     | (refine step_append_my (base:=wr.heap.size) (e:=2) (size:=1) (bytes:=8) (by rfl) (.tmp 22) (.tmp 27) 62 rfl Tryz.underlying62 JI.out JZ0.out JZ1.out JZ2.out rfl (by decide) (xs:=[]) (news:=xs.map (Value.int .i64)) rfl (by exact o1) rfl (HSR.out _ (by exact q1.drew)) (by simp only [maxLen];omega) (by omega) (Below.size (w:=wr) (B:=wr.heap.size) (by exact k0.drew)) ?_
        intro B1 cb1 w1 hO1 hb1 hk1;have k1:Kp wr w1:=Below.trans (by exact k0.drew) hb1;have g1:Below w.heap.size w w1:=q0.trans (Below.mono k1 q0.size);simp only [Nat.zero_add,List.nil_append] at hO1 ⊢;have a2:Kp w1 (w1.alloc (.cells #[.int .i64 pz,.int .i64 qz,.slice B1 n cb1] 64)):=(Kp.refl w1).alloc _;have g2:Below w.heap.size w (w1.alloc (.cells #[.int .i64 pz,.int .i64 qz,.slice B1 n cb1] 64)):=g1.trans (Below.mono a2 g1.size);have o2:=(HRR.out.1.keep k1).keep a2;have m2:=Blk.new w1 64 #[.int .i64 pz,.int .i64 qz,.slice B1 n cb1];clear hb1 hk1)
     | (refine step_append_my (base:=w.heap.size) (e:=64) (size:=3) (bytes:=40) (by rfl) (.tmp 11) (.tmp 30) 30 rfl Tryz.underlying30 HI.out HZ0.out HZ1.out HZ2.out rfl (by decide) (xs:=lCells es) (news:=[.int .i64 pz,.int .i64 qz,.slice B1 n cb1]) rfl (by exact o2) rfl (by exact Blk.src m2 rfl (lCells_one [(pz,qz,B1,n,cb1)])) (by simp only [maxLen];omega) (by omega) (Below.size (w:=w) (B:=w.heap.size) (by exact g2)) ?_
        intro B2 cb2 w2 hO2 hb2 hk2;have g3:Below w.heap.size w w2:=Below.trans (by exact g2) hb2;have hk2':Kept (w1.alloc (.cells #[.int .i64 pz,.int .i64 qz,.slice B1 n cb1] 64)) w2 Ah:=hk2;clear hb2 hk2))
   have hfin:Below w.heap.size w w2∧Own w.heap.size 64 3 w2 B2 (i+1) cb2 (lCells (es ++ [(pz,qz,B1,n,cb1)]))∧EntsL w.heap.size lv w2 (i+1) (es ++ [(pz,qz,B1,n,cb1)]):=by
    refine ⟨g3,?_,?_⟩
    ·rw [lCells_append];exact hO2
    ·have he1:=(HRR.out.2.below k1).snoc (x:=(pz,qz,B1,n,cb1)) (by rw [HXE.out]) (by rw [HXE.out]) (by rw [HXE.out];exact HXL.out.symm) (by rw [HXE.out];exact hO1.low q0.size);exact (he1.below a2).far o2 (by decide) hk2'
   have HF:=Hj hfin;clear hfin g3 hO2 hk2' o2 m2 g2 a2 hO1 k1 g1;go_wp2;go_roundw
   case rel=>exact ⟨i+1,B2,cb2,_,by omega,by go_num,rfl,HF.out⟩
   case measure=>simp [intOf];omega
  ·obtain rfl:i=m:=by omega
   obtain ⟨hB,hO,hE⟩:=hR.out;have HF:=Hj (show LsAt wr Ah i lv∧Below w.heap.size w wr from ⟨hO.levelsL HX.out.1 hE,hB⟩);clear hR hB hO hE;go_wp2;go_ret;exact ⟨Ah,ch,rfl,HF.out⟩
theorem same24_yes (A B:Option Addr) (m n c d:Nat) (lv:List St.Lv) (w:World) (h:LvAt w A m n lv) (h':LvAt w B m n lv) (hm:m≤1000000) (hn:n≤1000000) :
  Calls Tryz.prog 18 #[.slice A m c,.slice B m d] w fun e w'=>e=.returned (.bool true)∧Below w.heap.size w w':=by
 have HX:=Hj h;have HY:=Hj h';have hne:((m:Int) != (m:Int))=false:=by simp
 have hne2:((n:Int) != (n:Int))=false:=by simp
 clear h h';go_enter Tryz.func18,Tryz.ntmps18
 go_wp2_with fail
 go_loopw [5] (fun t wr=>∃ k:Nat,k≤m∧t=.int .i64 k∧Hid (Below w.heap.size w wr)) (fun t _=>m-(intOf t).toNat)
 case atStart=>exact ⟨0,Nat.zero_le _,rfl,Below.refl _ _⟩
 case round =>
  obtain ⟨k,hk,rfl,hB⟩:=hrel;by_cases hlt:k<m
  ·obtain ⟨b,o,rfl,hb,hc⟩:=HX.out.2 (by omega);obtain ⟨b',o',rfl,hb',hc'⟩:=HY.out.2 (by omega);obtain ⟨A1,c1,⟨e0,e1,e2⟩,hp⟩:=hc k hlt;obtain ⟨B1,d1,⟨f0,f1,f2⟩,hp'⟩:=hc' k hlt;have hki1:(0:Int)≤(k:Int):=by omega
   have hki2:(k:Int)<(m:Int):=by omega
   generalize (lv[k]?.getD Lv0).1=pz at *;generalize (lv[k]?.getD Lv0).2.1=qz at *;generalize (lv[k]?.getD Lv0).2.2=xs at *;have hcl:∀ w',Below w.heap.size w w'→(w'.cell? ⟨b,o+k*3,none⟩=some (.int .i64 pz)∧w'.cell? ⟨b,o+k*3+1,none⟩=some (.int .i64 qz)∧w'.cell? ⟨b,o+k*3+2,none⟩=some (.slice A1 n c1))∧w'.cell? ⟨b',o'+k*3,none⟩=some (.int .i64 pz)∧w'.cell? ⟨b',o'+k*3+1,none⟩=some (.int .i64 qz)∧w'.cell? ⟨b',o'+k*3+2,none⟩=some (.slice B1 n d1):=fun w' hk =>
    ⟨⟨(hk.cell (p:=⟨b,_,none⟩) hb).trans e0,(hk.cell (p:=⟨b,_,none⟩) hb).trans e1,(hk.cell (p:=⟨b,_,none⟩) hb).trans e2⟩,(hk.cell (p:=⟨b',_,none⟩) hb').trans f0,(hk.cell (p:=⟨b',_,none⟩) hb').trans f1,(hk.cell (p:=⟨b',_,none⟩) hb').trans f2⟩
   obtain ⟨⟨u0,u1,u2⟩,v0,v1,v2⟩:=hcl wr hB.out;have HCL:=Hj hcl;have HP:=Hj hp;have HP':=Hj hp';have n1:(pz != pz)=false:=by simp
   have n2:(qz != qz)=false:=by simp
   have HBD:=Hj (fun q=>below_drewN hB.out q);clear hc hc' hp hp' e0 e1 e2 f0 f1 f2 hcl hB
   go_wp2_with fail
   go_quiet (fail)
   go_wp2_with fail
   go_loopw [6] (fun t wr2=>∃ j:Nat,j≤n∧t=.int .i64 j∧Hid (Below w.heap.size w wr2)) (fun t _=>n-(intOf t).toNat)
   case atStart=>exact ⟨0,Nat.zero_le _,rfl,HBD.out _⟩
   case round =>
    clear u0 u1 u2 v0 v1 v2 HBD
    rename_i wr2
    obtain ⟨j,hj,rfl,hB⟩:=hrel;obtain ⟨⟨u0,u1,u2⟩,v0,v1,v2⟩:=HCL.out _ hB.out;by_cases hjl:j<n
    ·obtain ⟨g,p,rfl,hg,hx⟩:=HP.out.2 (by omega);obtain ⟨g',p',rfl,hg',hx'⟩:=HP'.out.2 (by omega);have x1:=(hB.out.cell (p:=⟨g,p+j,none⟩) hg).trans (hx j hjl);have x2:=(hB.out.cell (p:=⟨g',p'+j,none⟩) hg').trans (hx' j hjl);generalize xs[j]?.getD 0=x at *;have n3:(x != x)=false:=by simp
     have hj1:(0:Int)≤(j:Int):=by omega
     have hj2:(j:Int)<(n:Int):=by omega
     have HBD:=Hj (fun q=>below_drewN hB.out q);clear hx hx' hB
     go_wp2_with fail
     go_quiet (fail)
     go_wp2_with fail
     go_roundw
     case rel=>exact ⟨j+1,by omega,by go_num,HBD.out _⟩
     case measure=>simp [intOf];omega
    ·obtain rfl:j=n:=by omega
     have HBD:=Hj hB.out;clear hB
     go_wp2_with fail
     go_roundw
     case rel=>exact ⟨k+1,by omega,by go_num,HBD.out⟩
     case measure=>simp [intOf];omega
  ·obtain rfl:k=m:=by omega
   go_wp2;go_ret;exact ⟨rfl,hB.out⟩
end Go.Proofs.YtjajigkacccdgaaGreat
namespace Go.Proofs.YtjajigkacccdgaaGreat
open Go.RowKit
open Go.Sort (HoldsK)
open Wd
theorem flw_ltU {up:Bool} {v p:Int} (h:flw up v p=true):St.ltU up v p:=by
 unfold flw at h;unfold St.ltU;cases up<;>simp at h ⊢<;>exact h
theorem chkFrom_mono {up:Bool}:∀ {l:List (Int×Int)} {v:Int},chkFrom up (some v) l=0→(∀ t∈l,St.ltU up v t.2)∧(l.map (·.2)).Pairwise (St.ltU up)
 | [],v,_=>⟨by simp,by simp⟩
 | (q, p) :: r,v,h=>by
  rw [chkFrom] at h;split at h
  ·simp at h
  ·split at h
   ·rename_i hf
    obtain ⟨i1,i2⟩:=chkFrom_mono h;have h1:=flw_ltU hf;refine ⟨fun t ht=>?_,?_⟩
    ·rcases List.mem_cons.1 ht with rfl|ht
     ·exact h1
     ·have h2:=i1 t ht;unfold St.ltU at *;split<;>rename_i hu<;>simp [hu] at h1 h2<;>omega
    ·rw [List.map_cons,List.pairwise_cons];refine ⟨fun x hx=>?_,i2⟩;obtain ⟨t,ht,rfl⟩:=List.mem_map.1 hx;exact i1 t ht
   ·simp at h
theorem chk_mono {up:Bool} {l:List (Int×Int)} (h:chk up l=0):(l.map (·.2)).Pairwise (St.ltU up):=by
 have h2:=(chk_ok h).2.2.1
 match l,h2 with
 | [],_=>simp
 | (q,p) :: r,h2 =>
  rw [chkFrom] at h2;split at h2
  ·simp at h2
  ·obtain ⟨i1,i2⟩:=chkFrom_mono h2;rw [List.map_cons,List.pairwise_cons];refine ⟨fun x hx=>?_,i2⟩;obtain ⟨t,ht,rfl⟩:=List.mem_map.1 hx;exact i1 t ht
namespace St
def atP (l:List (Int×Int)) (p:Int):Int :=
 match l with
 | []=>0
 | s :: r=>(if s.2=p then s.1 else 0)+atP r p
theorem atP_none:∀ {l:List (Int×Int)} {p:Int},(∀ s∈l,s.2≠p)→atP l p=0
 | [],_,_=>rfl
 | s :: r,p,h=>by rw [atP,if_neg (h s (List.mem_cons_self ..)),atP_none fun t ht=>h t (List.mem_cons_of_mem _ ht)];rfl
theorem atP_bd {up:Bool}:∀ {l:List (Int×Int)} {p:Int},(l.map (·.2)).Pairwise (ltU up)→(∀ s∈l,1≤s.1∧s.1≤1000000)→0≤atP l p∧atP l p≤1000000
 | [],_,_,_=>by simp [atP]
 | s :: r,p,hm,hb=>by
  rw [List.map_cons,List.pairwise_cons] at hm;have h1:=hb s (List.mem_cons_self ..);have ih:=atP_bd (p:=p) hm.2 fun t ht=>hb t (List.mem_cons_of_mem _ ht);rw [atP];split
  ·rename_i e
   rw [atP_none fun t ht e2=>?_]
   ·omega
   ·have:=hm.1 t.2 (List.mem_map.2 ⟨t,ht,rfl⟩);rw [e,e2] at this;exact ltU_irr this
  ·omega
theorem part_map (k:Nat):∀ (l:List (Int×Int)) (p:Int) (i:Nat),part (l.map fun s=>(k,s.1,s.2)) p i=if k=i then atP l p else 0
 | [],p,i=>by simp [part,atP]
 | s :: r,p,i=>by
  rw [List.map_cons,part,part_map k r p i,atP];by_cases h:k=i
  ·simp [h]
  ·simp [h]
theorem part_tri:∀ (ls:List (List (Int×Int))) (k:Nat) (p:Int) (i:Nat),part (tri k ls) p i=if k≤i then atP (ls[i-k]?.getD []) p else 0
 | [],k,p,i=>by simp [tri,part,atP]
 | l :: ls,k,p,i=>by
  rw [tri,part_app,part_map,part_tri ls (k+1) p i];by_cases h:k=i
  ·subst h;rw [if_pos rfl,if_neg (by omega),if_pos (Nat.le_refl _),Nat.sub_self];simp
  ·by_cases h2:k≤i
   ·rw [if_neg h,if_pos (by omega),if_pos h2,show i-k=(i-(k+1))+1 by omega,List.getElem?_cons_succ];omega
   ·rw [if_neg h,if_neg (by omega),if_neg h2]
    rfl
theorem qty_map (k:Nat):∀ (l:List (Int×Int)) (p:Int),qty (l.map fun s=>(k,s.1,s.2)) p=atP l p
 | [],p=>rfl
 | s :: r,p=>by rw [List.map_cons,qty,qty_map k r p,atP]
theorem qty_tri:∀ (ls:List (List (Int×Int))) (k:Nat) (p:Int),qty (tri k ls) p=sumI (ls.map fun l=>atP l p)
 | [],_,_=>rfl
 | l :: ls,k,p=>by rw [tri,qty_app,qty_map,qty_tri ls (k+1) p,List.map_cons,sumI]
theorem parts_tri (ls:List (List (Int×Int))) (p:Int):parts ls.length (tri 0 ls) p=ls.map fun l=>atP l p:=by
 refine ext_getD (by simp [parts]) fun i hi=>?_;have hi':i<ls.length:=by simpa [parts] using hi
 rw [parts_get hi',part_tri,if_pos (Nat.zero_le _),Nat.sub_zero,List.getElem?_map,List.getElem?_eq_getElem hi']
 rfl
theorem qty_pos:∀ {T:List Tr} {p:Int},(∀ t∈T,1≤t.2.1)→(∃ t∈T,t.2.2=p)→1≤qty T p
 | [],_,_,⟨t,ht,_⟩=>by simp at ht
 | x :: T,p,h,⟨t,ht,e⟩=>by
  have h1:=h x (List.mem_cons_self ..);have h0:∀ (S:List Tr),(∀ t∈S,1≤t.2.1)→0≤qty S p:=by
   intro S
   induction S with
   | nil=>intro _;simp [qty]
   | cons a S ih =>
    intro hS;have a1:=hS a (List.mem_cons_self ..);have a2:=ih fun t ht=>hS t (List.mem_cons_of_mem _ ht);rw [qty];split<;>omega
  rw [qty];rcases List.mem_cons.1 ht with rfl|ht
  ·rw [if_pos e];have:=h0 T fun t ht=>h t (List.mem_cons_of_mem _ ht);omega
  ·have:=qty_pos (fun t ht=>h t (List.mem_cons_of_mem _ ht)) ⟨t,ht,e⟩;split<;>omega
end St
def lvOf (n:Nat) (T:List St.Tr) (D:List (Int×Nat)):List St.Lv:=D.map fun d=>(d.1,St.qty T d.1,St.parts n T d.1)
theorem lvOf_is {up:Bool} {n:Nat} {T:List St.Tr} {D:List (Int×Nat)} (h1:(D.map (·.1)).Pairwise (St.ltU up)) (h2:(D.map (·.1)).Perm (St.pr T)):St.IsLv up n T (lvOf n T D):=by
 have e:(lvOf n T D).map (·.1)=D.map (·.1):=by unfold lvOf;rw [List.map_map];rfl
 refine ⟨by rw [e];exact h1,fun p=>?_,fun x hx=>?_⟩
 ·rw [e,h2.mem_iff,St.mem_pr]
 ·obtain ⟨d,_,rfl⟩:=List.mem_map.1 hx;exact ⟨rfl,rfl⟩
theorem lv_valid {up:Bool} {ls:List (List (Int×Int))} {lv:List St.Lv} (hc:(ckC up ls).2=0) (h:St.IsLv up ls.length (St.tri 0 ls) lv):VL up ls.length lv:=by
 obtain ⟨hn,hk,hg⟩:=ckC_good hc;obtain ⟨h1,h2,h3⟩:=h;have hb:∀ l∈ls,∀ s∈l,1≤s.1∧s.1≤1000000:=fun l hl s hs=>by
  have:=(hg l hl).2 s hs;unfold Bad at this;omega
 have hpt:∀ p,∀ y∈ls.map (fun l=>St.atP l p),0≤y∧y≤1000000:=fun p y hy=>by
  obtain ⟨l,hl,rfl⟩:=List.mem_map.1 hy;exact St.atP_bd (chk_mono (hk l hl)) (hb l hl)
 have hex:∀ x∈lv,∃ t∈St.tri 0 ls,t.2.2=x.1:=fun x hx=>(h2 x.1).1 (List.mem_map.2 ⟨x,hx,rfl⟩);have hlen:lv.length≤48:=by
  have hnd:(lv.map (·.1)).Nodup:=h1.imp fun {a b} hab e=>by subst e;exact St.ltU_irr hab
  have hsub:=hnd.length_le_of_subset (l₂:=St.pr (St.tri 0 ls)) fun p hp=>St.mem_pr.2 ((h2 p).1 hp);have a1:=St.pr_len (St.tri 0 ls);have a2:=St.tri_len ls 0 fun l hl=>(hg l hl).1;rw [List.length_map] at hsub;omega
 refine ⟨hlen,fun h0=>?_,hn,fun x hx=>?_,fun x hx=>?_,fun x hx=>?_,h1⟩
 ·cases lv with
  | nil=>simp at h0
  | cons x lv =>
   obtain ⟨t,ht,_⟩:=hex x (List.mem_cons_self ..);obtain ⟨l,hl,_⟩:=St.tri_mem ht;cases ls with
   | nil=>simp at hl
   | cons _ _=>simp
 ·obtain ⟨t,ht,e⟩:=hex x hx;obtain ⟨l,hl,hs,_⟩:=St.tri_mem ht;have:=(hg l hl).2 _ hs;unfold Bad at this;rw [← e];simp only at this;omega
 ·rw [(h3 x hx).2,St.parts_tri];exact ⟨by simp,hpt x.1⟩
 ·rw [(h3 x hx).1,(h3 x hx).2,St.parts_tri,← St.qty_tri ls 0 x.1];refine ⟨rfl,?_⟩;have:=St.qty_pos (T:=St.tri 0 ls) (p:=x.1) (fun t ht=>by
   obtain ⟨l,hl,hs,_⟩:=St.tri_mem ht;exact (hb l hl _ hs).1) (hex x hx)
  omega
theorem LvO.at {base n:Nat} {w:World} {mg:Nat} {T:List St.Tr} {D:List (Int×Nat)} (h:LvO base n w mg T D):LvAt w (some ⟨mg,0,none⟩) D.length n (lvOf n T D):=by
 obtain ⟨h1,h2,h3,h4,h5⟩:=h;refine ⟨by simp [lvOf],fun _=>⟨mg,0,rfl,h2,fun j hj=>?_⟩⟩;have hd:D[j]?.getD (0,0)∈D:=getD_mem hj;have eg:D.toArray[j]! = D[j]?.getD (0,0):=by simp [hj,List.getElem?_eq_getElem hj]
 have el:(lvOf n T D)[j]?.getD Lv0=((D[j]?.getD (0,0)).1,St.qty T (D[j]?.getD (0,0)).1,St.parts n T (D[j]?.getD (0,0)).1):=by
  unfold lvOf;rw [List.getElem?_map,List.getElem?_eq_getElem hj]
  rfl
 have c0:=(h3.cell (i:=j) (c:=0) (by simpa using hj) (by omega)).1;have c1:=(h3.cell (i:=j) (c:=1) (by simpa using hj) (by omega)).1;have c2:=(h3.cell (i:=j) (c:=2) (by simpa using hj) (by omega)).1;rw [eg,Nat.zero_add] at c0 c1 c2;rw [el,Nat.zero_add];exact ⟨_,_,⟨c0,c1,c2⟩,(h4 _ hd).2.2.at (St.parts_len _ _ _)⟩
end Go.Proofs.YtjajigkacccdgaaGreat
namespace Go.Proofs.YtjajigkacccdgaaGreat
open Go.RowKit
open Wd
def longL (lv:List St.Lv):Bool:=decide (60<lv.length) || lv.any fun x=>decide (30<x.2.2.length)
theorem sames_yes (A B:Option Addr) (m c d:Nat) (lv:List St.Lv) (w:World) (h:LsAt w A m lv) (h':LsAt w B m lv) (hm:m≤1000000) (hn:∀ j,j<m→(lv[j]?.getD Lv0).2.2.length≤1000000) :
  Calls Tryz.prog 18 #[.slice A m c,.slice B m d] w fun e w'=>e=.returned (.bool true)∧Below w.heap.size w w':=by
 have HX:=Hj h;have HY:=Hj h';have hne:((m:Int) != (m:Int))=false:=by simp
 have HNN:=Hj hn;clear h h' hn;go_enter Tryz.func18,Tryz.ntmps18
 go_wp2_with fail
 go_loopw [5] (fun t wr=>∃ k:Nat,k≤m∧t=.int .i64 k∧Hid (Below w.heap.size w wr)) (fun t _=>m-(intOf t).toNat)
 case atStart=>exact ⟨0,Nat.zero_le _,rfl,Below.refl _ _⟩
 case round =>
  obtain ⟨k,hk,rfl,hB⟩:=hrel;by_cases hlt:k<m
  ·obtain ⟨b,o,rfl,hb,hc⟩:=HX.out.2 (by omega);obtain ⟨b',o',rfl,hb',hc'⟩:=HY.out.2 (by omega);obtain ⟨A1,c1,⟨e0,e1,e2⟩,hp⟩:=hc k hlt;obtain ⟨B1,d1,⟨f0,f1,f2⟩,hp'⟩:=hc' k hlt;have hki1:(0:Int)≤(k:Int):=by omega
   have hki2:(k:Int)<(m:Int):=by omega
   generalize (lv[k]?.getD Lv0).1=pz at *;generalize (lv[k]?.getD Lv0).2.1=qz at *;have hnn:=HNN.out k hlt;generalize (lv[k]?.getD Lv0).2.2=xs at *;generalize xs.length=n at *;have hne2:((n:Int) != (n:Int))=false:=by simp
   have hcl:∀ w',Below w.heap.size w w'→(w'.cell? ⟨b,o+k*3,none⟩=some (.int .i64 pz)∧w'.cell? ⟨b,o+k*3+1,none⟩=some (.int .i64 qz)∧w'.cell? ⟨b,o+k*3+2,none⟩=some (.slice A1 n c1))∧w'.cell? ⟨b',o'+k*3,none⟩=some (.int .i64 pz)∧w'.cell? ⟨b',o'+k*3+1,none⟩=some (.int .i64 qz)∧w'.cell? ⟨b',o'+k*3+2,none⟩=some (.slice B1 n d1):=fun w' hk =>
    ⟨⟨(hk.cell (p:=⟨b,_,none⟩) hb).trans e0,(hk.cell (p:=⟨b,_,none⟩) hb).trans e1,(hk.cell (p:=⟨b,_,none⟩) hb).trans e2⟩,(hk.cell (p:=⟨b',_,none⟩) hb').trans f0,(hk.cell (p:=⟨b',_,none⟩) hb').trans f1,(hk.cell (p:=⟨b',_,none⟩) hb').trans f2⟩
   obtain ⟨⟨u0,u1,u2⟩,v0,v1,v2⟩:=hcl wr hB.out;have HCL:=Hj hcl;have HP:=Hj hp;have HP':=Hj hp';have n1:(pz != pz)=false:=by simp
   have n2:(qz != qz)=false:=by simp
   have HBD:=Hj (fun q=>below_drewN hB.out q);clear hc hc' hp hp' e0 e1 e2 f0 f1 f2 hcl hB
   go_wp2_with fail
   go_quiet (fail)
   go_wp2_with fail
   go_loopw [6] (fun t wr2=>∃ j:Nat,j≤n∧t=.int .i64 j∧Hid (Below w.heap.size w wr2)) (fun t _=>n-(intOf t).toNat)
   case atStart=>exact ⟨0,Nat.zero_le _,rfl,HBD.out _⟩
   case round =>
    clear u0 u1 u2 v0 v1 v2 HBD
    rename_i wr2
    obtain ⟨j,hj,rfl,hB⟩:=hrel;obtain ⟨⟨u0,u1,u2⟩,v0,v1,v2⟩:=HCL.out _ hB.out;by_cases hjl:j<n
    ·obtain ⟨g,p,rfl,hg,hx⟩:=HP.out.2 (by omega);obtain ⟨g',p',rfl,hg',hx'⟩:=HP'.out.2 (by omega);have x1:=(hB.out.cell (p:=⟨g,p+j,none⟩) hg).trans (hx j hjl);have x2:=(hB.out.cell (p:=⟨g',p'+j,none⟩) hg').trans (hx' j hjl);generalize xs[j]?.getD 0=x at *;have n3:(x != x)=false:=by simp
     have hj1:(0:Int)≤(j:Int):=by omega
     have hj2:(j:Int)<(n:Int):=by omega
     have HBD:=Hj (fun q=>below_drewN hB.out q);clear hx hx' hB
     go_wp2_with fail
     go_quiet (fail)
     go_wp2_with fail
     go_roundw
     case rel=>exact ⟨j+1,by omega,by go_num,HBD.out _⟩
     case measure=>simp [intOf];omega
    ·obtain rfl:j=n:=by omega
     have HBD:=Hj hB.out;clear hB
     go_wp2_with fail
     go_roundw
     case rel=>exact ⟨k+1,by omega,by go_num,HBD.out⟩
     case measure=>simp [intOf];omega
  ·obtain rfl:k=m:=by omega
   go_wp2;go_ret;exact ⟨rfl,hB.out⟩
theorem longs_any (A:Option Addr) (n c:Nat) (lv:List St.Lv) (w:World) (h:LsAt w A n lv) :
  Calls Tryz.prog 22 #[.slice A n c] w fun e w'=>e=.returned (.bool (longL lv))∧Below w.heap.size w w':=by
 have HX:=Hj h;have HLN:=Hj h.1;by_cases h60:60<n
 ·have d1:decide ((60:Int)<(n:Int))=true:=by simp;omega
  have HE:Hid (longL lv=true):=by
   show longL lv=true;unfold longL;rw [h.1];simp [h60]
  clear h;go_enter Tryz.func22,Tryz.ntmps22;go_wp2;go_ret;exact ⟨by rw [HE.out];rfl,Below.refl _ _⟩
 ·have d1:decide ((60:Int)<(n:Int))=false:=by simp;omega
  have HE:Hid (longL lv=lv.any fun x=>decide (30<x.2.2.length)):=by
   show longL lv=_;unfold longL;rw [h.1];simp [h60]
  clear h;go_enter Tryz.func22,Tryz.ntmps22
  go_wp2_with fail
  go_loopw [3] (fun t wr=>∃ k:Nat,k≤n∧t=.int .i64 k∧Hid (Below w.heap.size w wr∧(lv.take k).any (fun x=>decide (30<x.2.2.length))=false)) (fun t _=>n-(intOf t).toNat)
  case atStart=>exact ⟨0,Nat.zero_le _,rfl,Below.refl _ _,by simp⟩
  case round =>
   obtain ⟨k,hk,rfl,hR⟩:=hrel;by_cases hlt:k<n
   ·obtain ⟨b,o,rfl,hb,hc⟩:=HX.out.2 (by omega);obtain ⟨A',c',⟨-,-,hcell⟩,hst⟩:=hc k hlt;generalize hn':(lv[k]?.getD Lv0).2.2.length=n' at *;have hcell:=(hR.out.1.cell (p:=⟨b,o+k*3+2,none⟩) hb).trans hcell;have hl:=hn';have hkl:k<lv.length:=by rw [HLN.out];exact hlt
    have htk:lv.take (k+1)=lv.take k ++ [lv[k]?.getD Lv0]:=by rw [List.take_add_one,List.getElem?_eq_getElem hkl];rfl
    have hany:(lv.take (k+1)).any (fun x=>decide (30<x.2.2.length))=decide (30<n'):=by rw [htk,List.any_append,hR.out.2];simp [hl]
    have i1:(0:Int)≤(k:Int):=by omega
    have i2:(k:Int)<(n:Int):=by omega
    have HB:=Hj hR.out.1;have HA:=Hj hany;by_cases h30:30<n'
    ·have d2:decide ((30:Int)<(n':Int))=true:=by simp;omega
     have HT:Hid (longL lv=true):=by
      show longL lv=true;rw [HE.out];have:=HA.out;rw [decide_eq_true h30,List.any_eq_true] at this;obtain ⟨x,hx,hx2⟩:=this;exact List.any_eq_true.2 ⟨x,List.mem_of_mem_take hx,hx2⟩
     clear hR hst hc hl htk hany hn';go_wp2;go_ret;exact ⟨by rw [HT.out];rfl,HB.out⟩
    ·have d2:decide ((30:Int)<(n':Int))=false:=by simp;omega
     have HF:Hid ((lv.take (k+1)).any (fun x=>decide (30<x.2.2.length))=false):=by
      show _=_;rw [HA.out];simp [h30]
     clear hR hst hc hl htk hany hn';go_wp2;go_roundw
     case rel=>exact ⟨k+1,by omega,by go_num,HB.out,HF.out⟩
     case measure=>simp [intOf];omega
   ·obtain rfl:k=n:=by omega
    have HT:Hid (longL lv=false):=by
     show longL lv=false;rw [HE.out];have:=hR.out.2
     rwa [List.take_of_length_le (by rw [HLN.out];omega)] at this
    have HB:=Hj hR.out.1;clear hR;go_wp2;go_ret;exact ⟨by rw [HT.out];rfl,HB.out⟩
def ownC (p:Int) (xs:List Int):Int:=if inR p xs then 0 else 1
theorem ownC_no {p:Int} {xs:List Int} (h:p < -1000000∨1000000<p∨xs.length<1∨16<xs.length∨∃ y∈xs,y<0∨1000000<y):ownC p xs=1:=by
 rw [ownC,inR_no h];rfl
theorem ownC_yes {p:Int} {xs:List Int} (h1:¬ p < -1000000) (h2:¬ 1000000<p) (h3:¬ xs.length<1) (h4:¬ 16<xs.length) (h5:∀ j,j<xs.length→0≤xs[j]?.getD 0∧xs[j]?.getD 0≤1000000):ownC p xs=0:=by
 rw [ownC,inR_yes h1 h2 h3 h4 h5];rfl
theorem rown_lv (p q:Int) (A':Option Addr) (n c':Nat) (xs:List Int) (w:World) (h:IsAt w A' n xs) :
  Calls Tryz.prog 83 #[.agg #[.int .i64 p,.int .i64 q,.slice A' n c']] w fun e w'=>e=.returned (.int .i64 (ownC p xs))∧Below w.heap.size w w':=by
 have HX:=Hj h;have HLN:=Hj h.1;have hn:=h.1;clear h;have hb0:=Hj ((Below.refl w.heap.size w).alloc (Nat.le_refl _) (.cells #[.int .i64 p,.int .i64 q,.slice A' n c'] 105));by_cases h1:p < -1000000
 ·have hr:=Hj (ownC_no (xs:=xs) (.inl h1));have d1:decide (p < -1000000)=true:=by simpa using h1
  clear h1 hn;go_enter Tryz.func83,Tryz.ntmps83;go_wp2;go_ret;exact ⟨by rw [hr.out];rfl,hb0.out⟩
 have d1:decide (p < -1000000)=false:=by simpa using h1
 by_cases h2:1000000<p
 ·have hr:=Hj (ownC_no (xs:=xs) (.inr (.inl h2)));have d2:decide (1000000<p)=true:=by simpa using h2
  clear h1 h2 hn;go_enter Tryz.func83,Tryz.ntmps83;go_wp2;go_ret;exact ⟨by rw [hr.out];rfl,hb0.out⟩
 have d2:decide (1000000<p)=false:=by simpa using h2
 by_cases h3:xs.length<1
 ·have hr:=Hj (ownC_no (p:=p) (.inr (.inr (.inl h3))));have d3:decide ((n:Int)<1)=true:=by simp;omega
  clear h1 h2 h3 hn;go_enter Tryz.func83,Tryz.ntmps83;go_wp2;go_ret;exact ⟨by rw [hr.out];rfl,hb0.out⟩
 have d3:decide ((n:Int)<1)=false:=by simp;omega
 by_cases h4:16<xs.length
 ·have hr:=Hj (ownC_no (p:=p) (.inr (.inr (.inr (.inl h4)))));have d4:decide ((16:Int)<(n:Int))=true:=by simp;omega
  clear h1 h2 h3 h4 hn;go_enter Tryz.func83,Tryz.ntmps83;go_wp2;go_ret;exact ⟨by rw [hr.out];rfl,hb0.out⟩
 have d4:decide ((16:Int)<(n:Int))=false:=by simp;omega
 have hn16:n≤16:=by omega
 have HY:=Hj (ownC_yes (p:=p) h1 h2 h3 h4);have HN:=Hj (fun h5=>ownC_no (p:=p) (xs:=xs) (.inr (.inr (.inr (.inr h5)))));clear h1 h2 h3 h4;go_enter Tryz.func83,Tryz.ntmps83
 go_wp2_with fail
 have hbx:=Blk.new w 105 #[.int .i64 p,.int .i64 q,.slice A' n c'];generalize w.alloc (.cells #[.int .i64 p,.int .i64 q,.slice A' n c'] 105)=W at *
 go_loopw [3] (fun t wr=>∃ k:Nat,k≤n∧t=.int .i64 k∧Hid (wr=W∧∀ j,j<k→0≤xs[j]?.getD 0∧xs[j]?.getD 0≤1000000)) (fun t _=>n-(intOf t).toNat)
 case atStart=>exact ⟨0,Nat.zero_le _,rfl,Hj ⟨rfl,fun j hj=>absurd hj (Nat.not_lt_zero j)⟩⟩
 case round =>
  obtain ⟨k,hk,rfl,hW⟩:=hrel;obtain ⟨b0,b1,b2⟩:=hbx.three;obtain ⟨rfl,hJ⟩:=hW.out;have HJ:=Hj hJ;clear hJ hW;by_cases hlt:k<n
  ·obtain ⟨b,o,rfl,hb,hcell⟩:=HX.out.2 (by omega);have hc:=(hb0.out.cell (p:=⟨b,o+k,none⟩) hb).trans (hcell k hlt);have hm:=Hj (getD_mem (d:=0) (show k<xs.length by rw [HLN.out];exact hlt));have HG:=Hj (Eq.refl (xs[k]?.getD 0));have hki1:(0:Int)≤(k:Int):=by omega
   have hki2:(k:Int)<(n:Int):=by omega
   clear hcell;by_cases e1:xs[k]?.getD 0<0
   ·have HF:=Hj (HN.out ⟨_,hm.out,.inl e1⟩);generalize xs[k]?.getD 0=y at *;have e1':decide (y<0)=true:=by simpa using e1
    have HB0:=Hj hb0.out;go_wp2;go_ret;exact ⟨by rw [HF.out];rfl,HB0.out⟩
   by_cases e2:1000000<xs[k]?.getD 0
   ·have HF:=Hj (HN.out ⟨_,hm.out,.inr e2⟩);generalize xs[k]?.getD 0=y at *;have e1':decide (y<0)=false:=by simpa using e1
    have e2':decide (1000000<y)=true:=by simpa using e2
    have HB0:=Hj hb0.out;go_wp2;go_ret;exact ⟨by rw [HF.out];rfl,HB0.out⟩
   have HJ2:=Hj (show ∀ j,j<k+1→0≤xs[j]?.getD 0∧xs[j]?.getD 0≤1000000 from fun j hj=>by
    by_cases hjk:j=k
    ·subst hjk;omega
    ·exact HJ.out j (by omega))
   have e1':decide (xs[k]?.getD 0<0)=false:=by simpa using e1
   have e2':decide (1000000<xs[k]?.getD 0)=false:=by simpa using e2
   clear e1 e2 hm HG;generalize xs[k]?.getD 0=y at hc e1' e2';go_wp2;go_roundw
   case rel=>exact ⟨k+1,by omega,by go_num,Hj ⟨by first|exact rfl|exact trivial,HJ2.out⟩⟩
   case measure=>simp [intOf];omega
  ·obtain rfl:k=n:=by omega
   have HF:=Hj (HY.out (fun j hj=>HJ.out j (by rw [← HLN.out];exact hj)));go_wp2;go_ret;exact ⟨by rw [HF.out];rfl,hb0.out⟩
end Go.Proofs.YtjajigkacccdgaaGreat
