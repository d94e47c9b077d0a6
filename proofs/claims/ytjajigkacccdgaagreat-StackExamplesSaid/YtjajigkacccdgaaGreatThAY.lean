/-
Lemmas of the walk; no further conditions.
-/
import Derived.Test.YtjajigkacccdgaaGreatThAX
import Derived.Maps.AppendAt
set_option linter.unusedVariables false
set_option linter.unusedSimpArgs false
set_option maxRecDepth 100000
set_option maxHeartbeats 16000000
namespace Go.Proofs.YtjajigkacccdgaaGreat
open Go.RowKit
open Wd
theorem ris_yes (q:Rat) (A B A' B':Option Addr) (k c k' c' d d':Nat) (w:World) (h:WQ w q A k c A' k' c') (h':WQ w q B k d B' k' d') (hk:k≤1000000) (hk':k'≤1000000) :
  Calls Tryz.prog 34 #[.agg #[.bool (decide (q.num<0)),.slice A k c,.bool false,.slice A' k' c'],.agg #[.bool (decide (q.num<0)),.slice B k d,.bool false,.slice B' k' d']] w fun e w'=>e=.returned (.bool true)∧Below w.heap.size w w':=by
 have T1:=Hj (fun W (hW:Below w.heap.size w W)=>rsame_yes (decide (q.num<0)) A B k c d _ W (h.2.2.1.below hW) (h'.2.2.1.below hW) hk);have T2:=Hj (fun W (hW:Below w.heap.size w W)=>rsame_yes false A' B' k' c' d' _ W (h.2.2.2.below hW) (h'.2.2.2.below hW) hk');generalize decide (q.num<0)=s at *;clear h h';go_enter Tryz.func34,Tryz.ntmps34
 go_wp2_with fail
 obtain ⟨hB0,hB1,hBW,hsz⟩:=pre2 w 42 #[.bool s,.slice A k c,.bool false,.slice A' k' c'] 42 #[.bool s,.slice B k d,.bool false,.slice B' k' d'];generalize (w.alloc (.cells #[.bool s,.slice A k c,.bool false,.slice A' k' c'] 42)).alloc (.cells #[.bool s,.slice B k d,.bool false,.slice B' k' d'] 42)=W at *;have HSZ:=Hj hsz;clear hsz;refine (T1.out W hBW).mono ?_;rintro e w1 ⟨rfl,hb1⟩;have hB0:=hB0.below hb1 hB0.lt;have hB1:=hB1.below hb1 hB1.lt;have hb2:=hBW.trans (hb1.mono hBW.size);obtain ⟨a0,a1,a2,a3,-,-,-,-⟩:=hB0.four;obtain ⟨b0,b1,b2,b3,-,-,-,-⟩:=hB1.four;have hT2:=T2.out w1 hb2;have HB2:=Hj hb2;have HT2:=Hj hT2;clear hb1 hb2 hBW T1 T2 hT2 hB0 hB1
 go_wp2_with fail
 refine HT2.out.mono ?_;rintro e w2 ⟨rfl,hb3⟩;have hfin:=HB2.out.trans (hb3.mono HB2.out.size);have HF:=Hj hfin;clear hfin hb3 HT2;go_wp2;go_ret;exact ⟨rfl,HF.out⟩
def QsAt (w:World) (A:Option Addr) (n:Nat) (ps:List Rat):Prop :=
 ps.length=n∧(n≠0→∃ b o,A=some ⟨b,o,none⟩∧b<w.heap.size∧∀ j,j<n→∃ A1 k c A2 k' c',
  w.cell? ⟨b,o+j*4,none⟩=some (.bool (decide ((ps[j]?.getD 0).num<0)))∧w.cell? ⟨b,o+j*4+1,none⟩=some (.slice A1 k c)∧w.cell? ⟨b,o+j*4+2,none⟩=some (.bool false)∧w.cell? ⟨b,o+j*4+3,none⟩=some (.slice A2 k' c') ∧
  WQ w (ps[j]?.getD 0) A1 k c A2 k' c')
theorem QsAt.below {w w':World} {A:Option Addr} {n:Nat} {ps:List Rat} (h:QsAt w A n ps) (hb:Below w.heap.size w w'):QsAt w' A n ps:=by
 refine ⟨h.1,fun h0=>?_⟩;obtain ⟨b,o,e,hlt,hc⟩:=h.2 h0;refine ⟨b,o,e,Nat.lt_of_lt_of_le hlt hb.size,fun j hj=>?_⟩;obtain ⟨A1,k,c,A2,k',c',g0,g1,g2,g3,g4⟩:=hc j hj;exact ⟨A1,k,c,A2,k',c',(hb.cell (p:=⟨b,_,none⟩) hlt).trans g0,(hb.cell (p:=⟨b,_,none⟩) hlt).trans g1,(hb.cell (p:=⟨b,_,none⟩) hlt).trans g2,(hb.cell (p:=⟨b,_,none⟩) hlt).trans g3,g4.below hb⟩
theorem QRow.at {w:World} {g n:Nat} {ps:List Rat} (h:QRow w g n ps):QsAt w (some ⟨g,0,none⟩) n ps:=by
 obtain ⟨h1,cs,h2,h3,h4,h5⟩:=h;refine ⟨h1,fun h0=>⟨g,0,rfl,h2.lt,fun j hj=>?_⟩⟩;obtain ⟨A,k,c,A',k',c',e0,e1,e2,e3,g1,g2,g3,g4⟩:=h5 j hj;refine ⟨A,k,c,A',k',c',?_,?_,?_,?_,g1,g2,g3,g4⟩
 ·rw [Nat.zero_add,h2.cell];exact e0
 ·rw [Nat.zero_add,h2.cell];exact e1
 ·rw [Nat.zero_add,h2.cell];exact e2
 ·rw [Nat.zero_add,h2.cell];exact e3
theorem Wat.len {w:World} {A:Option Addr} {n:Nat} {l:List Nat} (h:Wat w A n l):n=l.length:=h.1.symm
theorem rrows_yes (A B:Option Addr) (n c d:Nat) (ps:List Rat) (w:World) (h:QsAt w A n ps) (h':QsAt w B n ps) (hn:n≤1000000) (hs:∀ p∈ps,(digs p.num.natAbs).length≤1000000∧(denW p.den).length≤1000000) :
  Calls Tryz.prog 33 #[.slice A n c,.slice B n d] w fun e w'=>e=.returned (.bool true)∧Below w.heap.size w w':=by
 have HX:=Hj h;have HY:=Hj h';have HSZ:=Hj hs;have hne:((n:Int) != (n:Int))=false:=by simp
 clear h h' hs;go_enter Tryz.func33,Tryz.ntmps33
 go_wp2_with fail
 go_loopw [5] (fun t wr=>∃ k:Nat,k≤n∧t=.int .i64 k∧Hid (Below w.heap.size w wr)) (fun t _=>n-(intOf t).toNat)
 case atStart=>exact ⟨0,Nat.zero_le _,rfl,Below.refl _ _⟩
 case round =>
  obtain ⟨k,hk,rfl,hB⟩:=hrel;by_cases hlt:k<n
  ·obtain ⟨b,o,rfl,hb,hc⟩:=HX.out.2 (by omega);obtain ⟨b',o',rfl,hb',hc'⟩:=HY.out.2 (by omega);obtain ⟨A1,k1,d1,A2,k2,d2,e0,e1,e2,e3,e4⟩:=hc k hlt;obtain ⟨B1,k3,d3,B2,k4,d4,f0,f1,f2,f3,f4⟩:=hc' k hlt;have hp:=HSZ.out (ps[k]?.getD 0) (by rw [List.getElem?_eq_getElem (by rw [HX.out.1];exact hlt)];exact List.getElem_mem _);obtain rfl:k1=k3:=e4.2.2.1.len.trans f4.2.2.1.len.symm;obtain rfl:k2=k4:=e4.2.2.2.len.trans f4.2.2.2.len.symm;have T:=fun W (hW:Kp wr W)=>ris_yes _ A1 B1 A2 B2 k1 d1 k2 d2 d3 d4 W ((e4.below hB.out).below hW) ((f4.below hB.out).below hW) (by rw [e4.2.2.1.len];exact hp.1) (by rw [e4.2.2.2.len];exact hp.2);have HT:=Hj T;have hki1:(0:Int)≤(k:Int):=by omega
   have hki2:(k:Int)<(n:Int):=by omega
   have c0:=(hB.out.cell (p:=⟨b,o+k*4,none⟩) hb).trans e0;have c1:=(hB.out.cell (p:=⟨b,o+k*4+1,none⟩) hb).trans e1;have c2:=(hB.out.cell (p:=⟨b,o+k*4+2,none⟩) hb).trans e2;have c3:=(hB.out.cell (p:=⟨b,o+k*4+3,none⟩) hb).trans e3;have g0:=(hB.out.cell (p:=⟨b',o'+k*4,none⟩) hb').trans f0;have g1:=(hB.out.cell (p:=⟨b',o'+k*4+1,none⟩) hb').trans f1;have g2:=(hB.out.cell (p:=⟨b',o'+k*4+2,none⟩) hb').trans f2;have g3:=(hB.out.cell (p:=⟨b',o'+k*4+3,none⟩) hb').trans f3;generalize decide ((ps[k]?.getD 0).num<0)=s at *;have hb1:b<wr.heap.size:=Nat.lt_of_lt_of_le hb hB.out.size;have hb1':b'<wr.heap.size:=Nat.lt_of_lt_of_le hb' hB.out.size;have hS:∀ w',Kp wr w'→(w'.cell? ⟨b,o+k*4,none⟩=some (.bool s)∧w'.cell? ⟨b,o+k*4+1,none⟩=some (.slice A1 k1 d1)∧w'.cell? ⟨b,o+k*4+2,none⟩=some (.bool false)∧w'.cell? ⟨b,o+k*4+3,none⟩=some (.slice A2 k2 d2)∧w'.cell? ⟨b',o'+k*4,none⟩=some (.bool s)∧w'.cell? ⟨b',o'+k*4+1,none⟩=some (.slice B1 k1 d3)∧w'.cell? ⟨b',o'+k*4+2,none⟩=some (.bool false)∧w'.cell? ⟨b',o'+k*4+3,none⟩=some (.slice B2 k2 d4))∧Kp wr w':=fun w' hk=>⟨⟨(hk.cell (p:=⟨b,_,none⟩) hb1).trans c0,(hk.cell (p:=⟨b,_,none⟩) hb1).trans c1,(hk.cell (p:=⟨b,_,none⟩) hb1).trans c2,(hk.cell (p:=⟨b,_,none⟩) hb1).trans c3,(hk.cell (p:=⟨b',_,none⟩) hb1').trans g0,(hk.cell (p:=⟨b',_,none⟩) hb1').trans g1,(hk.cell (p:=⟨b',_,none⟩) hb1').trans g2,(hk.cell (p:=⟨b',_,none⟩) hb1').trans g3⟩,hk⟩;have HS:=Hj hS;have k0:=Kp.refl wr;clear hc hc' T e0 e1 e2 e3 e4 f0 f1 f2 f3 f4 hp hS c0 c1 c2 c3 g0 g1 g2 g3
   go_wp2_with fail
   go_region_held3 (fun w'=>(w'.cell? ⟨b,o+k*4,none⟩=some (.bool s)∧w'.cell? ⟨b,o+k*4+1,none⟩=some (.slice A1 k1 d1)∧w'.cell? ⟨b,o+k*4+2,none⟩=some (.bool false)∧w'.cell? ⟨b,o+k*4+3,none⟩=some (.slice A2 k2 d2)∧w'.cell? ⟨b',o'+k*4,none⟩=some (.bool s)∧w'.cell? ⟨b',o'+k*4+1,none⟩=some (.slice B1 k1 d3)∧w'.cell? ⟨b',o'+k*4+2,none⟩=some (.bool false)∧w'.cell? ⟨b',o'+k*4+3,none⟩=some (.slice B2 k2 d4))∧Kp wr w')
    (with_reducible first|(refine HS.out _ ?_;assumption)|(refine HS.out _ (Kp.drew ?_);assumption)|(refine' HS.out _ (Kp.drew (And.right ?_));rotate_left;assumption))
    (first
     | (go_at_call 34;have hk:=And.right ‹_∧Kp wr _›;refine (HT.out _ hk).mono ?_;rintro e w2 ⟨rfl,hb3⟩;have hk3:=hk.trans hb3))
   have hfin:=hB.out.trans (Below.mono hk3 hB.out.size);have HF:=Hj hfin;clear hfin hb3 HT;go_wp2;go_roundw
   case rel=>exact ⟨k+1,by omega,by go_num,HF.out⟩
   case measure=>simp [intOf];omega
  ·obtain rfl:k=n:=by omega
   go_wp2;go_ret;exact ⟨rfl,hB.out⟩
def SameOr (w:World) (B B':Option Addr):Prop:=B'.map (fun a=>a.block)=B.map (fun a=>a.block)∨B'.map (fun a=>a.block)=some w.heap.size
theorem run_append_at {P:Program} {w:World} {base:Nat} {t ty e:TypeId} {i:TypeInfo} {z:Value} {size bytes:Nat} (ht:P.underlying t=some (.slice e)) (hi:P.info? e=some i) (hz:i.zero=some z)
  (hsize:i.size=size) (hby:i.bytes=bytes) (hzs:z.cells.size=size) (hsz:0<size)
  {B:Option Addr} {n cb:Nat} {xs:List Value} (hown:Own base e size w B n cb xs) {A:Option Addr} {m c:Nat} {news:List Value} (hs:SrcAt w A m size news)
  (h63:n+m≤maxLen) (hbytes:(n+m)*bytes≤140737488355328) (hbase:base≤w.heap.size) :
  ∃ B' cb' w',(Builtin.append_ #[t,t] ty #[.slice B n cb,.slice A m c]).run P w=.ok (.slice B' (n+m) cb') w'∧Own base e size w' B' (n+m) cb' (xs ++ news)∧Below base w w'∧Kept w w' B∧SameOr w B B':=by
 obtain ⟨h1,h2,h3⟩:=hs;rcases h3 with ⟨rfl,rfl⟩|⟨ad,rfl,h3⟩
 ·have e1:news=[]:=List.eq_nil_of_length_eq_zero (by simpa using h1);subst e1;refine ⟨B,cb,w,?_,by simpa using hown,Below.refl _ _,⟨Nat.le_refl _,fun _ _ _=>rfl⟩,Or.inl rfl⟩;have hle:n≤cb:=by
   rcases hown.2 with ⟨h4,_⟩|⟨g,cap,cur,h4,_,_,hnc,_⟩
   ·simp at h4;omega
   ·simp at h4;omega
  rcases hown.2 with ⟨h4,h5⟩|⟨g,cap,cur,h4,_,_,hnc,_⟩
  ·simp at h4;obtain ⟨rfl,rfl,rfl⟩:=h4;simp [Builtin.append_,run_underlying ht,sizeOf,typeInfo,hi,Builtin.lenOf,Builtin.firstCells]
  ·simp at h4;obtain ⟨rfl,rfl⟩:=h4;simp [Builtin.append_,run_underlying ht,sizeOf,typeInfo,hi,Builtin.lenOf,Builtin.firstCells,hnc,storeCells]
 ·obtain ⟨v',w',hr,ho,hg,_,hsame⟩:=run_append_own_at (P:=P) (w:=w) base t ty e i z size bytes ht hi hz hsize hby hzs hsz _ n xs hown ad m c news h1 h3 h2 h63 hbytes hbase;have hB:Below base w w':=⟨hg.os,hg.tape,hg.output,hg.size,fun k hk=>hg.block k (by omega) fun he=>by have:=(hown.lt k he.symm).1;omega⟩;have eo:∀ X:Option Addr,∀ a b,(Value.slice X a b).ownBlock=X.map (fun a=>a.block):=fun X a b=>by cases X<;>rfl
  have hK:Kept w w' B:=⟨hg.size,fun k hk hne=>hg.block k hk fun he=>hne (by rw [eo] at he;exact he.symm)⟩;rcases ho.2 with ⟨rfl,h5⟩|⟨g,cap,cur,rfl,_⟩
  ·exact ⟨none,0,w',by rw [hr,h5],by rw [h5] at ho ⊢;exact ho,hB,hK,by simpa [SameOr,eo] using hsame⟩
  ·exact ⟨some ⟨g,0,none⟩,cap,w',hr,ho,hB,hK,by simpa [SameOr,eo] using hsame⟩
theorem wp_append_at {P:Program} {w:World} {o:Oper} {a:Act} {K:Act→World→Prop} {Q:Exit→Act→World→Prop} (s x:Operand) (t:TypeId)
  (ho:o.op=.call { callee:=.builtin .append,args:=#[s,x],argTypes:=#[t,t] })
  {base:Nat} {e:TypeId} {i:TypeInfo} {z:Value} {size bytes:Nat} (ht:P.underlying t=some (.slice e)) (hi:P.info? e=some i) (hz:i.zero=some z)
  (hsize:i.size=size) (hby:i.bytes=bytes) (hzs:z.cells.size=size) (hsz:0<size)
  {B:Option Addr} {n cb:Nat} {xs:List Value} (hss:a.eval s=.slice B n cb) (hown:Own base e size w B n cb xs) {A:Option Addr} {m c:Nat} {news:List Value} (hx:a.eval x=.slice A m c) (hs:SrcAt w A m size news)
  (h63:n+m≤maxLen) (hbytes:(n+m)*bytes≤140737488355328) (hbase:base≤w.heap.size)
  (h:∀ B' cb' w',Own base e size w' B' (n+m) cb' (xs ++ news)→Below base w w'→Kept w w' B→SameOr w B B'→K (a.put o.dst (.slice B' (n+m) cb')) w'):o.wp P a w K Q:=by
 obtain ⟨B',cb',w',hr,h2,h3,h4,h5⟩:=run_append_at (P:=P) (ty:=o.type) (c:=c) ht hi hz hsize hby hzs hsz hown hs h63 hbytes hbase;unfold Oper.wp execOp;simp only [ho,resolve,invoke,builtin,Sem.run_bind,Sem.run_pure,Result.andThen_ok,List.map_toArray,List.map_cons,List.map_nil,hss,hx,hr];exact h B' cb' w' h2 h3 h4 h5
theorem wpList_append_at {P:Program} {w:World} {ops:Array Oper} {rest:List Oper} {o:Oper} {a:Act} {Q:Exit→Act→World→Prop} (hg:o.guard=none) (s x:Operand) (t:TypeId)
  (ho:o.op=.call { callee:=.builtin .append,args:=#[s,x],argTypes:=#[t,t] })
  {base:Nat} {e:TypeId} {i:TypeInfo} {z:Value} {size bytes:Nat} (ht:P.underlying t=some (.slice e)) (hi:P.info? e=some i) (hz:i.zero=some z)
  (hsize:i.size=size) (hby:i.bytes=bytes) (hzs:z.cells.size=size) (hsz:0<size)
  {B:Option Addr} {n cb:Nat} {xs:List Value} (hss:a.eval s=.slice B n cb) (hown:Own base e size w B n cb xs) {A:Option Addr} {m c:Nat} {news:List Value} (hx:a.eval x=.slice A m c) (hs:SrcAt w A m size news)
  (h63:n+m≤maxLen) (hbytes:(n+m)*bytes≤140737488355328) (hbase:base≤w.heap.size)
  (h:∀ B' cb' w',Own base e size w' B' (n+m) cb' (xs ++ news)→Below base w w'→Kept w w' B→SameOr w B B'→wpList P ops Q rest (a.put o.dst (.slice B' (n+m) cb')) w') :
  wpList P ops Q (o :: rest) a w :=
 wpList_plain hg fun K hK=>wp_append_at s x t ho ht hi hz hsize hby hzs hsz hss hown hx hs h63 hbytes hbase fun B' cb' w' h1 h2 h3 h4=>hK _ _ (h B' cb' w' h1 h2 h3 h4)
def Off (B A:Option Addr) (k:Nat):Prop:=k≠0→∃ b o,A=some ⟨b,o,none⟩∧B.map (fun a=>a.block)≠some b
theorem Off.fresh {base:Nat} {w:World} {A B:Option Addr} {k:Nat} (h:Fresh base w A k) (hB:∀ b,B.map (fun a=>a.block)=some b→b<base):Off B A k:=fun hk=>by
 obtain ⟨b,o,rfl,hb,_⟩:=h hk;exact ⟨b,o,rfl,fun he=>by have:=hB b he;omega⟩
theorem Wat.kept {w w':World} {A B:Option Addr} {k:Nat} {l:List Nat} (h:Wat w A k l) (ho:Off B A k) (hk:Kept w w' B):Wat w' A k l:=by
 refine ⟨h.1,h.2.1,fun h0=>?_⟩;obtain ⟨b,o,rfl,hlt,hc⟩:=h.2.2 h0;obtain ⟨b',o',he,hne⟩:=ho h0;cases he;refine ⟨b,o,rfl,Nat.lt_of_lt_of_le hlt hk.1,fun j hj=>?_⟩;exact (World.cell?_of_block (hk.2 b hlt hne)).trans (hc j hj)
theorem Off.same {w:World} {A B B':Option Addr} {k:Nat} {l:List Nat} (h:Wat w A k l) (ho:Off B A k) (hs:SameOr w B B'):Off B' A k:=fun h0=>by
 obtain ⟨b,o,rfl,hlt,_⟩:=h.2.2 h0;obtain ⟨b',o',he,hne⟩:=ho h0;cases he;refine ⟨b,o,rfl,fun hB=>?_⟩;rcases hs with hs|hs
 ·exact hne (hs ▸ hB)
 ·rw [hs] at hB;simp at hB;omega
theorem Own.blk_lt {base:Nat} {e:TypeId} {size:Nat} {w:World} {A:Option Addr} {n c:Nat} {xs:List Value} (h:Own base e size w A n c xs):∀ b,A.map (fun a=>a.block)=some b→b<w.heap.size:=fun b hb=>by
 rcases h.2 with ⟨h6,_⟩|⟨g',cap',cur',h6,_,h7,_⟩
 ·simp at h6;rw [h6.1] at hb;simp at hb
 ·simp at h6;rw [h6.1] at hb;simp at hb;rw [← hb];exact (Array.getElem?_eq_some_iff.1 h7).1
abbrev QEnt:=Bool×(Option Addr×Nat×Nat)×(Option Addr×Nat×Nat)
def QEnt0:QEnt:=(false,(none,0,0),(none,0,0))
def qCells (es:List QEnt):List Value:=es.flatMap fun e=>[.bool e.1,.slice e.2.1.1 e.2.1.2.1 e.2.1.2.2,.bool false,.slice e.2.2.1 e.2.2.2.1 e.2.2.2.2]
theorem qCells_append (a b:List QEnt):qCells (a ++ b)=qCells a ++ qCells b:=by simp [qCells]
theorem qCells_cons (s:QEnt) (l:List QEnt):qCells (s :: l)=.bool s.1 :: .slice s.2.1.1 s.2.1.2.1 s.2.1.2.2 :: .bool false :: .slice s.2.2.1 s.2.2.2.1 s.2.2.2.2 :: qCells l:=by simp [qCells]
theorem qCells_len (l:List QEnt):(qCells l).length=l.length*4:=by
 induction l with
 | nil=>rfl
 | cons s l ih=>rw [qCells_cons];simp [ih];omega
theorem qCells_get:∀ (l:List QEnt) (j:Nat),j<l.length→(qCells l)[j*4]?=some (.bool (l[j]?.getD QEnt0).1)∧(qCells l)[j*4+1]?=some (.slice (l[j]?.getD QEnt0).2.1.1 (l[j]?.getD QEnt0).2.1.2.1 (l[j]?.getD QEnt0).2.1.2.2)∧(qCells l)[j*4+2]?=some (.bool false)∧(qCells l)[j*4+3]?=some (.slice (l[j]?.getD QEnt0).2.2.1 (l[j]?.getD QEnt0).2.2.2.1 (l[j]?.getD QEnt0).2.2.2.2)
 | [],j,h=>absurd h (by simp)
 | s :: l,0,_=>by simp [qCells]
 | s :: l,j+1,h=>by
  have ih:=qCells_get l j (by simpa using h);rw [qCells_cons,show (j+1)*4=j*4+1+1+1+1 by omega,show j*4+1+1+1+1+1=(j*4+1)+1+1+1+1 by omega,show j*4+1+1+1+1+2=(j*4+2)+1+1+1+1 by omega,show j*4+1+1+1+1+3=(j*4+3)+1+1+1+1 by omega];simp only [List.getElem?_cons_succ];exact ih
theorem qCells_one (l:List QEnt):∀ u∈qCells l,u.oneCell'=true:=by
 intro u hu;obtain ⟨s,_,h⟩:=List.mem_flatMap.1 hu;simp at h;rcases h with rfl|rfl|rfl|rfl<;>rfl
def QEnts (B:Option Addr) (ps:List Rat) (w:World) (i:Nat) (es:List QEnt):Prop :=
 es.length=i∧∀ j,j<i→(es[j]?.getD QEnt0).1=decide ((ps[j]?.getD 0).num<0)∧WQ w (ps[j]?.getD 0) (es[j]?.getD QEnt0).2.1.1 (es[j]?.getD QEnt0).2.1.2.1 (es[j]?.getD QEnt0).2.1.2.2 (es[j]?.getD QEnt0).2.2.1 (es[j]?.getD QEnt0).2.2.2.1 (es[j]?.getD QEnt0).2.2.2.2 ∧
  Off B (es[j]?.getD QEnt0).2.1.1 (es[j]?.getD QEnt0).2.1.2.1∧Off B (es[j]?.getD QEnt0).2.2.1 (es[j]?.getD QEnt0).2.2.2.1
section
variable {B:Option Addr} {ps:List Rat} {w w':World} {i:Nat} {es:List QEnt}
theorem QEnts.start:QEnts B ps w 0 []:=⟨rfl,fun j hj=>absurd hj (by omega)⟩
theorem QEnts.below (h:QEnts B ps w i es) (hb:Below w.heap.size w w'):QEnts B ps w' i es :=
 ⟨h.1,fun j hj=>⟨(h.2 j hj).1,(h.2 j hj).2.1.below hb,(h.2 j hj).2.2⟩⟩
theorem QEnts.app {B':Option Addr} (h:QEnts B ps w i es) (hk:Kept w w' B) (hs:SameOr w B B'):QEnts B' ps w' i es:=by
 refine ⟨h.1,fun j hj=>?_⟩;obtain ⟨h1,⟨h2,h3,h4,h5⟩,h6,h7⟩:=h.2 j hj;exact ⟨h1,⟨h2,h3,h4.kept h6 hk,h5.kept h7 hk⟩,Off.same h4 h6 hs,Off.same h5 h7 hs⟩
theorem QEnts.snoc {s:Bool} {A A':Option Addr} {k c k' c':Nat} (h:QEnts B ps w i es) (h1:s=decide ((ps[i]?.getD 0).num<0)) (h2:WQ w (ps[i]?.getD 0) A k c A' k' c') (h3:Off B A k) (h4:Off B A' k'):QEnts B ps w (i+1) (es ++ [(s,(A,k,c),(A',k',c'))]):=by
 have hl:=h.1;refine ⟨by simp [hl],fun j hj=>?_⟩;by_cases hji:j<i
 ·rw [List.getElem?_append_left (by omega)];exact h.2 j hji
 ·obtain rfl:j=i:=by omega
  rw [List.getElem?_append_right (by omega),hl,Nat.sub_self];exact ⟨h1,h2,h3,h4⟩
theorem Own.qs {base:Nat} {e:TypeId} {n c:Nat} (h:Own base e 4 w B n c (qCells es)) (hl:ps.length=n) (he:QEnts B ps w n es):QsAt w B n ps:=by
 refine ⟨hl,fun hn=>?_⟩;have hel:=he.1;have hcl:=qCells_len es;obtain ⟨g,cap,hv,hb,hlt⟩:=World.ownsRow.form h (by omega);simp at hv;obtain ⟨rfl,rfl⟩:=hv;refine ⟨g,0,rfl,hlt,fun j hj=>?_⟩;obtain ⟨g1,g2,g3,g4⟩:=qCells_get es j (by omega);obtain ⟨e1,e2,_,_⟩:=he.2 j hj;refine ⟨_,_,_,_,_,_,?_,?_,?_,?_,e2⟩
 ·rw [Nat.zero_add,World.ownsRow.cellAt h (j*4) (by omega),g1,e1]
 ·rw [Nat.zero_add,World.ownsRow.cellAt h (j*4+1) (by omega),g2]
 ·rw [Nat.zero_add,World.ownsRow.cellAt h (j*4+2) (by omega),g3]
 ·rw [Nat.zero_add,World.ownsRow.cellAt h (j*4+3) (by omega),g4]
end
theorem info_q:(Tryz.prog.info? 42).map (fun i=>(i.zero,i.size,i.bytes))=some (some (.agg #[.bool false,.slice none 0 0,.bool false,.slice none 0 0]),4,64):=by kernel_rfl
theorem same24_yes (A B:Option Addr) (m n c d:Nat) (lv:List St.Lv) (w:World) (h:LvAt w A m n lv) (h':LvAt w B m n lv) (hm:m≤1000000) (hn:n≤1000000) :
  Calls Tryz.prog 18 #[.slice A m c,.slice B m d] w fun e w'=>e=.returned (.bool true)∧Below w.heap.size w w':=by
 have HX:=Hj h;have HY:=Hj h';have hne:((m:Int) != (m:Int))=false:=by simp
 have hne2:((n:Int) != (n:Int))=false:=by simp
 clear h h';go_enter Tryz.func18,Tryz.ntmps18
 go_wp2_with fail
 go_loopw [5] (fun t wr=>∃ k:Nat,k≤m∧t=.int .i64 k∧Hid (Below w.heap.size w wr)) (fun t _=>m-(intOf t).toNat)
 case atStart=>exact ⟨0,Nat.zero_le _,rfl,Below.refl _ _⟩
 case round =>
  obtain ⟨k,hk,rfl,hB⟩:=hrel;by_cases hlt:k<m
  ·obtain ⟨b,o,rfl,hb,hc⟩:=HX.out.2 (by omega);obtain ⟨b',o',rfl,hb',hc'⟩:=HY.out.2 (by omega);obtain ⟨A1,c1,⟨e0,e1,e2⟩,hp⟩:=hc k hlt;obtain ⟨B1,d1,⟨f0,f1,f2⟩,hp'⟩:=hc' k hlt;have hki1:(0:Int)≤(k:Int):=by omega
   have hki2:(k:Int)<(m:Int):=by omega
   generalize (lv[k]?.getD Lv0).1=pz at *;generalize (lv[k]?.getD Lv0).2.1=qz at *;generalize (lv[k]?.getD Lv0).2.2=xs at *;have hcl:∀ w',Below w.heap.size w w'→(w'.cell? ⟨b,o+k*3,none⟩=some (.int .i64 pz)∧w'.cell? ⟨b,o+k*3+1,none⟩=some (.int .i64 qz)∧w'.cell? ⟨b,o+k*3+2,none⟩=some (.slice A1 n c1))∧w'.cell? ⟨b',o'+k*3,none⟩=some (.int .i64 pz)∧w'.cell? ⟨b',o'+k*3+1,none⟩=some (.int .i64 qz)∧w'.cell? ⟨b',o'+k*3+2,none⟩=some (.slice B1 n d1):=fun w' hk =>
    ⟨⟨(hk.cell (p:=⟨b,_,none⟩) hb).trans e0,(hk.cell (p:=⟨b,_,none⟩) hb).trans e1,(hk.cell (p:=⟨b,_,none⟩) hb).trans e2⟩,(hk.cell (p:=⟨b',_,none⟩) hb').trans f0,(hk.cell (p:=⟨b',_,none⟩) hb').trans f1,(hk.cell (p:=⟨b',_,none⟩) hb').trans f2⟩
   obtain ⟨⟨u0,u1,u2⟩,v0,v1,v2⟩:=hcl wr hB.out;have HCL:=Hj hcl;have HP:=Hj hp;have HP':=Hj hp';have n1:(pz != pz)=false:=by simp
   have n2:(qz != qz)=false:=by simp
   have HBD:=Hj (fun q=>below_drewN hB.out q);clear hc hc' hp hp' e0 e1 e2 f0 f1 f2 hcl hB
   go_wp2_with fail
   go_quiet (fail)
   go_wp2_with fail
   go_loopw [6] (fun t wr2=>∃ j:Nat,j≤n∧t=.int .i64 j∧Hid (Below w.heap.size w wr2)) (fun t _=>n-(intOf t).toNat)
   case atStart=>exact ⟨0,Nat.zero_le _,rfl,HBD.out _⟩
   case round =>
    clear u0 u1 u2 v0 v1 v2 HBD
    rename_i wr2
    obtain ⟨j,hj,rfl,hB⟩:=hrel;obtain ⟨⟨u0,u1,u2⟩,v0,v1,v2⟩:=HCL.out _ hB.out;by_cases hjl:j<n
    ·obtain ⟨g,p,rfl,hg,hx⟩:=HP.out.2 (by omega);obtain ⟨g',p',rfl,hg',hx'⟩:=HP'.out.2 (by omega);have x1:=(hB.out.cell (p:=⟨g,p+j,none⟩) hg).trans (hx j hjl);have x2:=(hB.out.cell (p:=⟨g',p'+j,none⟩) hg').trans (hx' j hjl);generalize xs[j]?.getD 0=x at *;have n3:(x != x)=false:=by simp
     have hj1:(0:Int)≤(j:Int):=by omega
     have hj2:(j:Int)<(n:Int):=by omega
     have HBD:=Hj (fun q=>below_drewN hB.out q);clear hx hx' hB
     go_wp2_with fail
     go_quiet (fail)
     go_wp2_with fail
     go_roundw
     case rel=>exact ⟨j+1,by omega,by go_num,HBD.out _⟩
     case measure=>simp [intOf];omega
    ·obtain rfl:j=n:=by omega
     have HBD:=Hj hB.out;clear hB
     go_wp2_with fail
     go_roundw
     case rel=>exact ⟨k+1,by omega,by go_num,HBD.out⟩
     case measure=>simp [intOf];omega
  ·obtain rfl:k=m:=by omega
   go_wp2;go_ret;exact ⟨rfl,hB.out⟩
end Go.Proofs.YtjajigkacccdgaaGreat
