/-
Lemmas of the walk; no further conditions.
-/
import Derived.Test.YtjajigkacccdgaaGreatTiAO
import Derived.Maps.RangeWalk
import Derived.Ground.GgsProg
import Derived.Shelf.GgSortFunc.Small
import Derived.Shelf.GgSortFunc.Tiny
import Derived.Shelf.SlSortFuncK.WholeK
import Derived.Test.YtjajigkacccdgaaGreatProg
set_option linter.unusedVariables false
set_option linter.unusedSimpArgs false
set_option maxRecDepth 100000
set_option maxHeartbeats 16000000
namespace Go.Proofs.YtjajigkacccdgaaGreat
open Go.RowKit
open Wd
open Go.ChangeMaps (setBlock)
def CsAt (w:World) (A:Option Addr) (n:Nat) (ls:List (List (Int×Int))):Prop :=
 ls.length=n∧(n≠0→∃ b o,A=some ⟨b,o,none⟩∧b<w.heap.size∧∀ j,j<n→∃ A' n' c',w.cell? ⟨b,o+j,none⟩=some (.slice A' n' c')∧StAt w A' n' (ls[j]?.getD []))
theorem CsAt.below {w w':World} {A:Option Addr} {n:Nat} {ls:List (List (Int×Int))} (h:CsAt w A n ls) (hb:Below w.heap.size w w'):CsAt w' A n ls:=by
 refine ⟨h.1,fun hn=>?_⟩;obtain ⟨b,o,rfl,hlt,hc⟩:=h.2 hn;refine ⟨b,o,rfl,Nat.lt_of_lt_of_le hlt hb.size,fun j hj=>?_⟩;obtain ⟨A',n',c',h1,h2⟩:=hc j hj;exact ⟨A',n',c',(hb.cell hlt).trans h1,h2.below hb⟩
namespace St
theorem tri_app:∀ (a b:List (List (Int×Int))) (k:Nat),tri k (a ++ b)=tri k a ++ tri (k+a.length) b
 | [],b,k=>by simp [tri]
 | l :: a,b,k=>by rw [List.cons_append,tri,tri,tri_app a b (k+1),List.append_assoc,List.length_cons,show k+1+a.length=k+(a.length+1) by omega]
def upto (ls:List (List (Int×Int))) (i k:Nat):List Tr:=tri 0 (ls.take i) ++ ((ls[i]?.getD []).take k).map fun s=>(i,s.1,s.2)
theorem upto_zero (ls:List (List (Int×Int))) (i:Nat):upto ls i 0=tri 0 (ls.take i):=by simp [upto]
theorem upto_all {ls:List (List (Int×Int))} {i:Nat} (hi:i<ls.length) {k:Nat} (hk:(ls[i]?.getD []).length≤k):upto ls i k=tri 0 (ls.take (i+1)):=by
 have e:ls.take (i+1)=ls.take i ++ [ls[i]?.getD []]:=by rw [List.take_add_one,List.getElem?_eq_getElem hi];rfl
 unfold upto;rw [e,tri_app,List.take_of_length_le hk,List.length_take,Nat.min_eq_left (by omega)];simp [tri]
theorem upto_snoc {ls:List (List (Int×Int))} {i k:Nat} (hk:k<(ls[i]?.getD []).length):upto ls i (k+1)=upto ls i k ++ [(i,((ls[i]?.getD [])[k]?.getD (0,0)).1,((ls[i]?.getD [])[k]?.getD (0,0)).2)]:=by
 unfold upto;rw [List.take_add_one,List.getElem?_eq_getElem hk,List.map_append,List.append_assoc]
 rfl
theorem tri_len:∀ (ls:List (List (Int×Int))) (k:Nat),(∀ l∈ls,l.length≤3)→(tri k ls).length≤3*ls.length
 | [],_,_=>by simp [tri]
 | l :: ls,k,h=>by
  have h1:=h l (List.mem_cons_self ..);have h2:=tri_len ls (k+1) fun l hl=>h l (List.mem_cons_of_mem _ hl);rw [tri,List.length_append,List.length_map,List.length_cons];omega
theorem tri_mem:∀ {ls:List (List (Int×Int))} {k:Nat} {t:Tr},t∈tri k ls→∃ l∈ls,(t.2.1,t.2.2)∈l∧k≤t.1∧t.1<k+ls.length
 | [],_,_,h=>by simp [tri] at h
 | l :: ls,k,t,h=>by
  rw [tri,List.mem_append] at h;rcases h with h|h
  ·obtain ⟨s,hs,rfl⟩:=List.mem_map.1 h;exact ⟨l,List.mem_cons_self ..,hs,Nat.le_refl _,by simp⟩
  ·obtain ⟨l',h1,h2,h3,h4⟩:=tri_mem h;exact ⟨l',List.mem_cons_of_mem _ h1,h2,by omega,by simp;omega⟩
theorem addP_len (ps:List Int) (p:Int):(addP ps p).length≤ps.length+1:=by unfold addP;split<;>simp
theorem fold_len:∀ (T:List Tr) (a:List Int),(T.foldl (fun a t=>addP a t.2.2) a).length≤a.length+T.length
 | [],a=>by simp
 | t :: T,a=>by
  have h1:=fold_len T (addP a t.2.2);have h2:=addP_len a t.2.2;rw [List.foldl_cons,List.length_cons];omega
theorem pr_len (T:List Tr):(pr T).length≤T.length:=by
 have:=fold_len T [];rw [List.length_nil,Nat.zero_add] at this;exact this
theorem qty_bd:∀ (T:List Tr) (p:Int),(∀ t∈T,0≤t.2.1∧t.2.1≤1000000)→0≤qty T p∧qty T p≤1000000*(T.length:Int)
 | [],_,_=>by simp [qty]
 | t :: T,p,h=>by
  have h1:=h t (List.mem_cons_self ..);have h2:=qty_bd T p fun s hs=>h s (List.mem_cons_of_mem _ hs);rw [qty,List.length_cons];split<;>omega
theorem part_bd:∀ (T:List Tr) (p:Int) (i:Nat),(∀ t∈T,0≤t.2.1∧t.2.1≤1000000)→0≤part T p i∧part T p i≤1000000*(T.length:Int)
 | [],_,_,_=>by simp [part]
 | t :: T,p,i,h=>by
  have h1:=h t (List.mem_cons_self ..);have h2:=part_bd T p i fun s hs=>h s (List.mem_cons_of_mem _ hs);rw [part,List.length_cons];split<;>omega
end St
theorem linfo:(Tryz.prog.info? 64).map (fun i=>(i.zero,i.size,i.bytes))=some (some (.agg #[.int .i64 0,.int .i64 0,.slice none 0 0]),3,40):=by kernel_rfl
theorem zero_level:∀ w,(zeroValue 64).run Tryz.prog w=.ok (.agg #[.int .i64 0,.int .i64 0,.slice none 0 0]) w:=fun w=>by kernel_rfl
def Good (ls:List (List (Int×Int))):Prop:=∀ l∈ls,l.length≤3∧∀ s∈l,¬ Bad s.1 s.2
theorem Good.upto {ls:List (List (Int×Int))} (h:Good ls) {i k:Nat} (hi:i<ls.length):(∀ t∈St.upto ls i k,0≤t.2.1∧t.2.1≤1000000)∧(St.upto ls i k).length≤3*(i+1):=by
 have hl:=h _ (show ls[i]?.getD []∈ls by rw [List.getElem?_eq_getElem hi];exact List.getElem_mem hi);constructor
 ·intro t ht;rcases List.mem_append.1 ht with ht|ht
  ·obtain ⟨l,h1,h2,_⟩:=St.tri_mem ht;have:=(h l (List.mem_of_mem_take h1)).2 _ h2;unfold Bad at this;simp only at this;exact ⟨by omega,by omega⟩
  ·obtain ⟨s,hs,rfl⟩:=List.mem_map.1 ht;have:=hl.2 s (List.mem_of_mem_take hs);unfold Bad at this;exact ⟨by show (0:Int)≤s.1;omega,by show s.1≤1000000;omega⟩
 ·unfold St.upto;rw [List.length_append,List.length_map];have a1:=St.tri_len (ls.take i) 0 fun l hl=>(h l (List.mem_of_mem_take hl)).1;have a2:=List.length_take_le i ls;have a3:=List.length_take_le' k (ls[i]?.getD []);omega
theorem run_len_lv {P:Program} {t k e ty:TypeId} (ht:P.underlying t=some (.map k e)) {b:Nat} {es:Array MapEntry} {clock:Nat} {w:World} (hb:w.heap[b]?=some (.map es clock)) {m:Nat} (hm:es.size=m) :
  (Builtin.len_ #[t] ty #[.map (some b)]).run P w=.ok (.int .i64 (m:Int)) w:=by
 subst hm;simp [Builtin.len_,run_underlying ht,MapKept.run_getObj_map hb,Result.andThen,goInt]
def encL (n:Nat) (T:List St.Tr) (d:Int×Nat):List Value:=[.int .i64 d.1,.int .i64 (St.qty T d.1),.slice (some ⟨d.2,0,none⟩) n n]
theorem encL_len (n:Nat) (T:List St.Tr) (d:Int×Nat):(encL n T d).length=3:=rfl
theorem wpList_next_my {P:Program} {w:World} {ops:Array Oper} {rest:List Oper} {o:Oper} {a:Act} {Q:Exit→Act→World→Prop} (hg:o.guard=none) (it:Operand) (hop:o.op=Op.next it false) {r b since c0 clock:Nat} {seen:Array Nat} {es:Array MapEntry}
  (hit:a.eval it=.pointer (some ⟨r,0,none⟩)) (hr:w.heap[r]?=some (.mapIter (some b) since seen c0)) (hb:w.heap[b]?=some (.map es clock)) (hold:∀ x∈es.toList,x.born<since) (hsc:since≤c0)
  (hDone:(leftOf es seen).size=0→wpList P ops Q rest (a.put o.dst (.tuple #[.bool false])) w)
  (hMore:∀ e∈(leftOf es seen).toList,∀ w1:World,(w1=w∨w1=w.drew)→wpList P ops Q rest (a.put o.dst (.tuple #[.bool true,e.key,e.val])) (setBlock w1 r (.mapIter (some b) since (seen.push e.born) clock))) :
  wpList P ops Q (o :: rest) a w:=by
 refine wpList_plain hg fun K' hK'=>?_;unfold Oper.wp;rcases run_next_at (P:=P) w o.type r b since c0 seen es clock hr hb hold hsc with ⟨h0,hrun⟩|⟨e,he,w1,hal,hrun⟩
 ·simp [execOp,hop,hit,hrun,Result.andThen];exact hK' _ _ (hDone h0)
 ·simp [execOp,hop,hit,hrun,Result.andThen];exact hK' _ _ (hMore e he w1 hal)
theorem MR.iter {base n:Nat} {T:List St.Tr} {D:List (Int×Nat)} {mb:Nat} {w:World} (h:MR base n T D mb w) {r:Nat} {x:Option Nat} {y z:Nat} {sn:Array Nat} (hr:w.heap[r]?=some (.mapIter x y sn z)) (o:Obj):MR base n T D mb (setBlock w r o):=by
 obtain ⟨h1,⟨es,h2,h3⟩,h4,h5,h6⟩:=h;have hlt:=(Array.getElem?_eq_some_iff.1 hr).1;refine ⟨h1,⟨es,((heap_put hlt o).2 mb fun e=>?_).trans h2,h3⟩,h4,fun d hd=>⟨(h5 d hd).1,((heap_put hlt o).2 d.2 fun e=>?_).trans (h5 d hd).2⟩,h6⟩
 ·rw [e,hr] at h2;simp at h2
 ·have:=(h5 d hd).2;unfold IRow Blk at this;rw [e,hr] at this;simp at this
theorem Own.iter {base:Nat} {e:TypeId} {size:Nat} {w:World} {A:Option Addr} {n c:Nat} {xs:List Value} (h:Own base e size w A n c xs) {r:Nat} {x:Option Nat} {y z:Nat} {sn:Array Nat} (hr:w.heap[r]?=some (.mapIter x y sn z)) (o:Obj):Own base e size (setBlock w r o) A n c xs:=by
 have hlt:=(Array.getElem?_eq_some_iff.1 hr).1;refine ⟨h.1,?_⟩;rcases h.2 with h2|⟨g,cap,cur,h2,h3,h4,h5⟩
 ·exact Or.inl h2
 ·refine Or.inr ⟨g,cap,cur,h2,h3,((heap_put hlt o).2 g fun e=>?_).trans h4,h5⟩;rw [e,hr] at h4;simp at h4
def RG (base n:Nat) (T:List St.Tr) (D:List (Int×Nat)) (mb r:Nat) (w:World) (S:List Nat) (Am:Option Addr) (cap:Nat) (wr:World):Prop :=
 Below w.heap.size w wr∧MR base n T D mb wr∧(∃ seen:Array Nat,wr.heap[r]?=some (.mapIter (some mb) D.length seen D.length)∧seen.toList=S)∧S.Nodup∧(∀ j∈S,j<D.length) ∧
  Own base 64 3 wr Am S.length cap (S.flatMap fun j=>encL n T (D[j]?.getD (0,0)))∧∃ mg,Am=some ⟨mg,0,none⟩
theorem ents_mem {n:Nat} {T:List St.Tr} {D:List (Int×Nat)} {e:MapEntry} (h:e∈ents n T 0 D):e.born<D.length∧e=ent n T e.born (D[e.born]?.getD (0,0)):=by
 obtain ⟨j,hj⟩:=List.getElem?_of_mem h;rw [ents_get] at hj;obtain ⟨d,hd,rfl⟩:=Option.map_eq_some_iff.1 hj;have hlt:=(List.getElem?_eq_some_iff.1 hd).1;refine ⟨by simp [ent];exact hlt,?_⟩;simp only [ent,Nat.zero_add,hd,Option.getD_some]
theorem ents_born (n:Nat) (T:List St.Tr):∀ (k:Nat) (D:List (Int×Nat)),(ents n T k D).map (·.born)=List.range' k D.length
 | _,[]=>rfl
 | k,d :: D=>by rw [ents,List.map_cons,ents_born n T (k+1) D,List.length_cons,List.range'_succ];rfl
theorem MR.kept {base n:Nat} {T:List St.Tr} {D:List (Int×Nat)} {mb:Nat} {w w':World} (h:MR base n T D mb w) {A:Option Addr} {k c:Nat} {xs:List Value} (hO:Own base 64 3 w A k c xs) (hk:Kept w w' A):MR base n T D mb w':=by
 obtain ⟨h1,⟨es,h2,h3⟩,h4,h5,h6⟩:=h;have far:∀ (g:Nat) (o:Obj),w.heap[g]?=some o→(∀ cs,o≠.cells cs 64 (0,0))→w'.heap[g]?=some o:=fun g o hg hne=>by
  refine (hk.2 g (Array.getElem?_eq_some_iff.1 hg).1 fun hA=>?_).trans hg;rcases hO.2 with ⟨h7,_⟩|⟨g',cap',cur',h7,_,h8,_⟩
  ·simp at h7;rw [h7.1] at hA;simp at hA
  ·simp at h7;rw [h7.1] at hA;simp at hA;rw [hA,hg] at h8;simp at h8;exact hne _ h8
 refine ⟨h1,⟨es,far mb _ h2 (fun cs e=>by cases e),h3⟩,h4,fun d hd=>⟨(h5 d hd).1,?_⟩,h6⟩;have:=(h5 d hd).2;exact far d.2 _ this (fun cs e=>by simp at e)
theorem iter_kept {base r:Nat} {w w':World} {A:Option Addr} {k c:Nat} {xs:List Value} {x:Option Nat} {y z:Nat} {sn:Array Nat} (hr:w.heap[r]?=some (.mapIter x y sn z)) (hO:Own base 64 3 w A k c xs) (hk:Kept w w' A):w'.heap[r]?=some (.mapIter x y sn z):=by
 refine (hk.2 r (Array.getElem?_eq_some_iff.1 hr).1 fun hA=>?_).trans hr;rcases hO.2 with ⟨h7,_⟩|⟨g',cap',cur',h7,_,h8,_⟩
 ·simp at h7;rw [h7.1] at hA;simp at hA
 ·simp at h7;rw [h7.1] at hA;simp at hA;rw [hA,hr] at h8;simp at h8
theorem enc_one {n:Nat} {a b:Int} {g:Nat}:∀ u∈(#[.int .i64 a,.int .i64 b,.slice (some ⟨g,0,none⟩) n n]:Array Value).toList,u.oneCell'=true:=by
 intro u hu;simp at hu;rcases hu with rfl|rfl|rfl<;>rfl
def Coll (n:Nat) (T:List St.Tr) (w:World) (e:Ending) (w':World):Prop :=
 ∃ (D:List (Int×Nat)) (mg cap:Nat),e=.returned (.slice (some ⟨mg,0,none⟩) D.length cap)∧(D.map (·.1)).Perm (St.pr T)∧Own w.heap.size 64 3 w' (some ⟨mg,0,none⟩) D.length cap (D.flatMap (encL n T))∧(∀ d∈D,w.heap.size≤d.2∧IRow w' d.2 (St.parts n T d.1))∧(D.map (·.2)).Nodup∧Below w.heap.size w w'
theorem range_getD (D:List (Int×Nat)):(List.range D.length).map (fun j=>D[j]?.getD (0,0))=D:=by
 apply List.ext_getElem (by simp);intro i h1 h2;simp [List.getElem?_eq_getElem h2]
theorem RG.done {n:Nat} {T:List St.Tr} {D:List (Int×Nat)} {r:Nat} {w:World} {S:List Nat} {Am:Option Addr} {cap:Nat} {wr:World} (h:RG w.heap.size n T D w.heap.size r w S Am cap wr) (hall:∀ j,j<D.length→j∈S):Coll n T w (.returned (.slice Am S.length cap)) wr:=by
 obtain ⟨hB,hM,_,hnd,hlt,hO,mg,rfl⟩:=h;have hp:S.Perm (List.range D.length):=(List.perm_ext_iff_of_nodup hnd List.nodup_range).2 fun j=>⟨fun hj=>List.mem_range.2 (hlt j hj),fun hj=>hall j (List.mem_range.1 hj)⟩;have hp2:(S.map fun j=>D[j]?.getD (0,0)).Perm D:=by
  have:=hp.map fun j=>D[j]?.getD (0,0)
  rwa [range_getD] at this
 refine ⟨S.map fun j=>D[j]?.getD (0,0),mg,cap,by simp,?_,?_,fun d hd=>?_,?_,hB⟩
 ·rw [← hM.1];exact hp2.map _
 ·rw [List.length_map,List.flatMap_map];exact hO
 ·exact hM.2.2.2.1 d (hp2.mem_iff.1 hd)
 ·exact (hp2.map (·.2)).nodup_iff.2 hM.2.2.2.2
theorem nodup_le {S:List Nat} {m:Nat} (h:S.Nodup) (hb:∀ j∈S,j<m):S.length≤m:=by
 have:=h.length_le_of_subset (l₂:=List.range m) fun j hj=>List.mem_range.2 (hb j hj);simpa using this
theorem collect_any (A:Option Addr) (n c:Nat) (ls:List (List (Int×Int))) (w:World) (h:CsAt w A n ls) (hn:n≤16) (hg:Good ls) :
  Calls Tryz.prog 70 #[.slice A n c] w (Coll n (St.tri 0 ls) w):=by
 have HC:=Hj h;have HG:=Hj hg;have hln:=h.1;have HLN:=Hj hln;have hmm:=@run_makeMap Tryz.prog;have hmk:=fun w=>run_make_ints n (by omega) w;clear h hg hln;go_enter Tryz.func70,Tryz.ntmps70
 go_wp2_with fail
 have hst:MR w.heap.size n (St.upto ls 0 0) [] w.heap.size (w.alloc (.map #[] 0)):=MR.start (Nat.le_refl _);have hb0:Below w.heap.size w (w.alloc (.map #[] 0)):=(Below.refl _ _).alloc (Nat.le_refl _) _;have HST:=Hj hst;have HB0:=Hj hb0;clear hst hb0;generalize w.alloc (.map #[] 0)=W0 at *
 go_loopw [16] (fun t wr=>∃ i:Nat,i≤n∧t=.int .i64 i∧Hid (∃ D,MR w.heap.size n (St.tri 0 (ls.take i)) D w.heap.size wr∧Below w.heap.size w wr)) (fun t _=>n-(intOf t).toNat)
 case atStart=>exact ⟨0,Nat.zero_le _,rfl,[],by rw [← St.upto_zero];exact HST.out,HB0.out⟩
 case round =>
  clear HST HB0;obtain ⟨i,hi,rfl,hR⟩:=hrel;by_cases hlt:i<n
  ·obtain ⟨D0,hM,hB⟩:=hR.out;obtain ⟨b,o,rfl,hb,hcell⟩:=HC.out.2 (by omega);obtain ⟨A',n',c',hci,hsi⟩:=hcell i hlt;have hci2:=(hB.cell (p:=⟨b,o+i,none⟩) hb).trans hci;have hgi:=HG.out _ (getD_mem (d:=[]) (show i<ls.length by rw [HLN.out];exact hlt));have hn3:n'≤3:=by have:=hsi.1;omega
   have hki1:(0:Int)≤(i:Int):=by omega
   have hki2:(i:Int)<(n:Int):=by omega
   have HSI:=Hj hsi;have HGI:=Hj hgi;have HM0:Hid (∃ D,MR w.heap.size n (St.upto ls i 0) D w.heap.size wr∧Below w.heap.size w wr):=Hj ⟨D0,by rw [St.upto_zero];exact hM,hB⟩;clear hcell hci hsi hgi hR hM hB
   go_wp2_with fail
   go_loopw [23] (fun t wx=>∃ k:Nat,k≤n'∧t=.int .i64 k∧Hid (∃ D,MR w.heap.size n (St.upto ls i k) D w.heap.size wx∧Below w.heap.size w wx)) (fun t _=>n'-(intOf t).toNat)
   case atStart=>exact ⟨0,Nat.zero_le _,rfl,HM0.out⟩
   case round =>
    clear HM0 hci2;obtain ⟨k,hk,rfl,hR⟩:=hrel;by_cases hkn:k<n'
    ·obtain ⟨D,hM,hB⟩:=hR.out;obtain ⟨b2,o2,rfl,hb2,hcell2⟩:=HSI.out.2.2 (by omega);obtain ⟨ck,cp⟩:=hcell2 k hkn;have y1:=(hB.cell (p:=⟨b2,o2+k*2,none⟩) hb2).trans ck;have y2:=(hB.cell (p:=⟨b2,o2+k*2+1,none⟩) hb2).trans cp;have hsn:=St.upto_snoc (ls:=ls) (i:=i) (k:=k) (by rw [HSI.out.1];exact hkn);have hbad:=HGI.out.2 _ (getD_mem (d:=(0,0)) (show k<(ls[i]?.getD []).length by rw [HSI.out.1];exact hkn));unfold Bad at hbad;obtain ⟨hu1,hu2⟩:=HG.out.upto (i:=i) (k:=k) (by rw [HLN.out];exact hlt);generalize ((ls[i]?.getD [])[k]?.getD (0,0)).1=q at *;generalize ((ls[i]?.getD [])[k]?.getD (0,0)).2=p at *;have hqb:=St.qty_bd (St.upto ls i k) p hu1;have hpb:=St.part_bd (St.upto ls i k) p i hu1;have hpg:=St.parts_get (n:=n) (T:=St.upto ls i k) (p:=p) hlt;rw [← hpg] at hpb;have q1:1≤q:=by omega
     have q2:q≤1000000:=by omega
     have hkk1:(0:Int)≤(k:Int):=by omega
     have hkk2:(k:Int)<(n':Int):=by omega
     have HSN:=Hj hsn;clear ck cp hcell2 hbad hu1 hsn hpg hR;by_cases hp:p∈St.pr (St.upto ls i k)
     ·have k1:=(Kp.refl wr).alloc (.cells #[.int .i64 q,.int .i64 p] 107);have hM1:=hM.keep k1;obtain ⟨j,g,es,hj,hes,hel,hf,hbg,hrow⟩:=hM1.hit hp;have hlk:=run_look_hit (P:=Tryz.prog) Tryz.underlying148 Tryz.underlying2 hes hf;have xq:IntKind.i64.wrap (St.qty (St.upto ls i k) p+q)=St.qty (St.upto ls i k) p+q:=IntWalk.i64_in _ (by omega);have xp:IntKind.i64.wrap ((St.parts n (St.upto ls i k) p)[i]?.getD 0+q)=(St.parts n (St.upto ls i k) p)[i]?.getD 0+q:=IntWalk.i64_in _ (by omega);have HFN:=Hj hf;clear hM1 hf
      go_wp2_with fail
      have m1:=(Blk.new wr 107 #[.int .i64 q,.int .i64 p]).alloc (.cells #[.int .i64 p,.int .i64 (St.qty (St.upto ls i k) p+q),.slice (some ⟨g,0,none⟩) n n] 64);have m2:=Blk.new1 wr (.cells #[.int .i64 q,.int .i64 p] 107) 64 #[.int .i64 p,.int .i64 (St.qty (St.upto ls i k) p+q),.slice (some ⟨g,0,none⟩) n n];have k2:=k1.alloc (.cells #[.int .i64 p,.int .i64 (St.qty (St.upto ls i k) p+q),.slice (some ⟨g,0,none⟩) n n] 64);have hM2:=hM.keep k2;have hes2:((wr.alloc (.cells #[.int .i64 q,.int .i64 p] 107)).alloc (.cells #[.int .i64 p,.int .i64 (St.qty (St.upto ls i k) p+q),.slice (some ⟨g,0,none⟩) n n] 64)).heap[w.heap.size]?=some (.map es D.length):=((MapKept.heap_alloc _ _).2 _ (Array.getElem?_eq_some_iff.1 hes).1).trans hes;have hrow2:=hrow.alloc (.cells #[.int .i64 p,.int .i64 (St.qty (St.upto ls i k) p+q),.slice (some ⟨g,0,none⟩) n n] 64);have hB2:Below w.heap.size w ((wr.alloc (.cells #[.int .i64 q,.int .i64 p] 107)).alloc (.cells #[.int .i64 p,.int .i64 (St.qty (St.upto ls i k) p+q),.slice (some ⟨g,0,none⟩) n n] 64)):=hB.trans (Below.mono k2 hB.size);have hgl:g<wr.heap.size:=by
       obtain ⟨_,_,_,h5,_⟩:=hM;exact Blk.lt (h5 _ (List.mem_of_getElem? hj)).2
      have hwl:w.heap.size<wr.heap.size:=hM.lt;generalize hV:(wr.alloc (.cells #[.int .i64 q,.int .i64 p] 107)).alloc (.cells #[.int .i64 p,.int .i64 (St.qty (St.upto ls i k) p+q),.slice (some ⟨g,0,none⟩) n n] 64)=V at *;generalize hG:wr.heap.size=G at *;have hrc:=hrow2.cell (i:=i) (by rw [St.parts_len];exact hlt);have hrf:=hrow2.frozen i;obtain ⟨a0,a1,-,-⟩:=m1.two;obtain ⟨b0,b1,b2'⟩:=m2.three;have HST2:=Hj (hM2.hit_step (q:=q) hj hes2 hel hlt);have m1':=m1.far (p:=⟨g,i,none⟩) (by simp;omega) (.int .i64 ((St.parts n (St.upto ls i k) p)[i]?.getD 0+q));have m2':=m2.far (p:=⟨g,i,none⟩) (by simp;omega) (.int .i64 ((St.parts n (St.upto ls i k) p)[i]?.getD 0+q));obtain ⟨c0,c1,-,-⟩:=m1'.two;obtain ⟨d0,d1,d2⟩:=m2'.three;have HB2:=Hj hB2;have HMX:=Hj hM2;clear hM hM2 hlk hes y1 y2 hB hB2 hrow hrow2 k1 k2 hV hG m1 m2 m1' m2'
      go_region
      have hgm:w.heap.size≠g:=fun e=>by
       have h1:=hes2;rw [e] at h1;obtain ⟨_,_,_,h5,_⟩:=HMX.out;exact IRow.ne_map (h5 _ (List.mem_of_getElem? hj)).2 h1 rfl
      have he:es[j]?=some (ent n (St.upto ls i k) (0+j) (p,g)):=by
       rw [← Array.getElem?_toList,hel,ents_get,hj];rfl
      have hes3:((V.setCell ⟨g,i,none⟩ (.int .i64 ((St.parts n (St.upto ls i k) p)[i]?.getD 0+q))).drew).heap[w.heap.size]?=some (.map es D.length):=(Below.heap_setCell V _ _ _ hgm).trans hes2;have hup:=run_upd_old (P:=Tryz.prog) (w:=(V.setCell ⟨g,i,none⟩ (.int .i64 ((St.parts n (St.upto ls i k) p)[i]?.getD 0+q))).drew) (v:=.agg #[.int .i64 p,.int .i64 (St.qty (St.upto ls i k) p+q),.slice (some ⟨g,0,none⟩) n n]) Tryz.underlying148 Tryz.underlying2 hes3 HFN.out he rfl;have hbf:Below w.heap.size w (setBlock ((V.setCell ⟨g,i,none⟩ (.int .i64 ((St.parts n (St.upto ls i k) p)[i]?.getD 0+q))).drew) w.heap.size (.map (es.modify j fun e=>{ e with key:=.int .i64 p,val:=.agg #[.int .i64 p,.int .i64 (St.qty (St.upto ls i k) p+q),.slice (some ⟨g,0,none⟩) n n] }) D.length)) :=
       below_put ((HB2.out.setCell (p:=⟨g,i,none⟩) hbg _).drew) (Nat.le_refl _) (Array.getElem?_eq_some_iff.1 hes3).1 _
      have HBF:=Hj hbf;have HUP:=Hj (show MR w.heap.size n (St.upto ls i k ++ [(i,q,p)]) D w.heap.size (setBlock ((V.setCell ⟨g,i,none⟩ (.int .i64 ((St.parts n (St.upto ls i k) p)[i]?.getD 0+q))).drew) w.heap.size (.map (es.modify j fun e=>{ e with key:=.int .i64 p,val:=.agg #[.int .i64 p,.int .i64 (St.qty (St.upto ls i k) p+q),.slice (some ⟨g,0,none⟩) n n] }) D.length)) from HST2.out);clear hbf hes2 hes3 he HFN HST2 a0 a1 b0 b1 b2';go_wp2;go_roundw
      case rel=>exact ⟨k+1,by omega,by go_num,D,by rw [HSN.out];exact HUP.out,HBF.out⟩
      case measure=>simp [intOf];omega
     ·have k1:=(Kp.refl wr).alloc (.cells #[.int .i64 q,.int .i64 p] 107);have hM1:=hM.keep k1;obtain ⟨es,hes,hel,hf⟩:=hM1.miss hp;have hlk:=run_look_miss (P:=Tryz.prog) Tryz.underlying148 Tryz.underlying2 hes hf (zero_level _);have xq:IntKind.i64.wrap q=q:=IntWalk.i64_in _ (by omega);have HFN:=Hj hf;clear hM1 hf
      go_wp2_with fail
      have m1:=(Blk.new wr 107 #[.int .i64 q,.int .i64 p]).alloc (.cells #[.int .i64 0,.int .i64 0,.slice none 0 0] 64);have m2:=Blk.new1 wr (.cells #[.int .i64 q,.int .i64 p] 107) 64 #[.int .i64 0,.int .i64 0,.slice none 0 0];have k2:=k1.alloc (.cells #[.int .i64 0,.int .i64 0,.slice none 0 0] 64);have hM2:=hM.keep k2;have hB2:Below w.heap.size w ((wr.alloc (.cells #[.int .i64 q,.int .i64 p] 107)).alloc (.cells #[.int .i64 0,.int .i64 0,.slice none 0 0] 64)):=hB.trans (Below.mono k2 hB.size);have hvs:((wr.alloc (.cells #[.int .i64 q,.int .i64 p] 107)).alloc (.cells #[.int .i64 0,.int .i64 0,.slice none 0 0] 64)).heap.size=wr.heap.size+1+1:=by simp
      have hgl:∀ d∈D,d.2<wr.heap.size:=fun d hd=>by
       obtain ⟨_,_,_,h5,_⟩:=hM;exact Blk.lt (h5 _ hd).2
      have hwl:w.heap.size<wr.heap.size:=hM.lt;generalize hV:(wr.alloc (.cells #[.int .i64 q,.int .i64 p] 107)).alloc (.cells #[.int .i64 0,.int .i64 0,.slice none 0 0] 64)=V at *;generalize hG:wr.heap.size=G at *;obtain ⟨a0,a1,-,-⟩:=m1.two;obtain ⟨b0,b1,b2'⟩:=m2.three;have f0:=m2.frozen 0;have f1:=m2.frozen 1;have f2:=m2.frozen 2;clear hlk y1 y2
      go_region
      have hXs:(((V.setCell ⟨G+1,0,none⟩ (.int .i64 p)).setCell ⟨G+1,1,none⟩ (.int .i64 0)).setCell ⟨G+1,2,none⟩ (.slice (some ⟨G+1+1,0,none⟩) n n)).heap.size=G+1+1:=by simp [World.setCell,hvs]
      have n1:=(((m1.far (p:=⟨G+1,0,none⟩) (by simp) (.int .i64 p)).far (p:=⟨G+1,1,none⟩) (by simp) (.int .i64 0)).far (p:=⟨G+1,2,none⟩) (by simp) (.slice (some ⟨G+1+1,0,none⟩) n n)).alloc (.cells (Array.replicate n (.int .i64 0)) 2);have n2:Blk ((((V.setCell ⟨G+1,0,none⟩ (.int .i64 p)).setCell ⟨G+1,1,none⟩ (.int .i64 0)).setCell ⟨G+1,2,none⟩ (.slice (some ⟨G+1+1,0,none⟩) n n)).alloc (.cells (Array.replicate n (.int .i64 0)) 2)) (G+1) 64 #[.int .i64 p,.int .i64 0,.slice (some ⟨G+1+1,0,none⟩) n n]:=(((m2.set 0 (.int .i64 p)).set 1 (.int .i64 0)).set 2 (.slice (some ⟨G+1+1,0,none⟩) n n)).alloc (.cells (Array.replicate n (.int .i64 0)) 2);have n3:=IRow.start (((V.setCell ⟨G+1,0,none⟩ (.int .i64 p)).setCell ⟨G+1,1,none⟩ (.int .i64 0)).setCell ⟨G+1,2,none⟩ (.slice (some ⟨G+1+1,0,none⟩) n n)) n;rw [hXs] at n3;have k3:=(((k2.set (p:=⟨G+1,0,none⟩) (by show wr.heap.size≤G+1;omega) (.int .i64 p)).set (p:=⟨G+1,1,none⟩) (by show wr.heap.size≤G+1;omega) (.int .i64 0)).set (p:=⟨G+1,2,none⟩) (by show wr.heap.size≤G+1;omega) (.slice (some ⟨G+1+1,0,none⟩) n n)).alloc (.cells (Array.replicate n (.int .i64 0)) 2);have k3:=k3.drew
      change Blk ((((V.setCell ⟨G+1,0,none⟩ (.int .i64 p)).setCell ⟨G+1,1,none⟩ (.int .i64 0)).setCell ⟨G+1,2,none⟩ (.slice (some ⟨G+1+1,0,none⟩) n n)).alloc (.cells (Array.replicate n (.int .i64 0)) 2)).drew _ _ _ at n1 n2
      change IRow ((((V.setCell ⟨G+1,0,none⟩ (.int .i64 p)).setCell ⟨G+1,1,none⟩ (.int .i64 0)).setCell ⟨G+1,2,none⟩ (.slice (some ⟨G+1+1,0,none⟩) n n)).alloc (.cells (Array.replicate n (.int .i64 0)) 2)).drew _ _ at n3
      generalize ((((V.setCell ⟨G+1,0,none⟩ (.int .i64 p)).setCell ⟨G+1,1,none⟩ (.int .i64 0)).setCell ⟨G+1,2,none⟩ (.slice (some ⟨G+1+1,0,none⟩) n n)).alloc (.cells (Array.replicate n (.int .i64 0)) 2)).drew=U at *;clear hXs a0 a1 b0 b1 b2' f0 f1 f2 m1 m2 hM2 hB2 hvs;obtain ⟨a0,a1,-,-⟩:=n1.two;obtain ⟨b0,b1,b2'⟩:=n2.three;have f1:=n2.frozen 1
      go_wp2_with fail
      have o1:=n1.far (p:=⟨G+1,1,none⟩) (by simp) (.int .i64 q);have o2:Blk (U.setCell ⟨G+1,1,none⟩ (.int .i64 q)) (G+1) 64 #[.int .i64 p,.int .i64 q,.slice (some ⟨G+1+1,0,none⟩) n n]:=n2.set 1 (.int .i64 q);have o3:IRow (U.setCell ⟨G+1,1,none⟩ (.int .i64 q)) (G+1+1) (List.replicate n 0):=Blk.far n3 (p:=⟨G+1,1,none⟩) (by simp) (.int .i64 q);have k4:=k3.set (p:=⟨G+1,1,none⟩) (by show wr.heap.size≤G+1;omega) (.int .i64 q);generalize U.setCell ⟨G+1,1,none⟩ (.int .i64 q)=U2 at *;clear a0 a1 b0 b1 b2' f1 n1 n2 n3 k3 k2 k1;obtain ⟨a0,a1,-,-⟩:=o1.two;obtain ⟨b0,b1,b2'⟩:=o2.three;have hrc:=o3.cell (i:=i) (by simpa using hlt);have hrf:=o3.frozen i;have hr0:(List.replicate n (0:Int))[i]?.getD 0=0:=by simp [hlt]
      rw [hr0] at hrc;have m1':=o1.far (p:=⟨G+1+1,i,none⟩) (by simp;omega) (.int .i64 q);have m2':=o2.far (p:=⟨G+1+1,i,none⟩) (by simp) (.int .i64 q);obtain ⟨c0,c1,-,-⟩:=m1'.two;obtain ⟨d0,d1,d2⟩:=m2'.three
      go_region
      have hpn:=St.parts_none (n:=n) hp;have hqn:=St.qty_none hp;have k5:=(k4.set (p:=⟨G+1+1,i,none⟩) (by show wr.heap.size≤G+1+1;omega) (.int .i64 q)).drew;have hM5:=hM.keep k5;have hrw:IRow ((U2.setCell ⟨G+1+1,i,none⟩ (.int .i64 q)).drew) (G+1+1) ((St.parts n (St.upto ls i k) p).set i ((St.parts n (St.upto ls i k) p)[i]?.getD 0+q)):=by
       rw [hpn,hr0,Int.zero_add];exact o3.set i q
      have hB5:Below w.heap.size w ((U2.setCell ⟨G+1+1,i,none⟩ (.int .i64 q)).drew):=hB.trans (Below.mono k5 (by have:=hB.size;omega))
      change ((U2.setCell ⟨G+1+1,i,none⟩ (.int .i64 q)).drew).cell? _=_ at c0 c1 d0 d1 d2
      generalize (U2.setCell ⟨G+1+1,i,none⟩ (.int .i64 q)).drew=V5 at *;obtain ⟨es5,hes5,hel5,hf5⟩:=hM5.miss hp;have hng:G+1+1 ∉ D.map (·.2):=fun hm=>by
       obtain ⟨d,hd,e⟩:=List.mem_map.1 hm;have:=hgl d hd;omega
      have hnew:=hM5.new_step (q:=q) hp hes5 hel5 hlt hrw (by have:=hB.size;omega) hng;rw [hqn,Int.zero_add] at hnew;have hup:=run_upd_new (P:=Tryz.prog) (v:=.agg #[.int .i64 p,.int .i64 q,.slice (some ⟨G+1+1,0,none⟩) n n]) Tryz.underlying148 Tryz.underlying2 hes5 hf5;have hbf:=below_put hB5 (Nat.le_refl _) (Array.getElem?_eq_some_iff.1 hes5).1 (.map (es5.push ⟨.int .i64 p,.agg #[.int .i64 p,.int .i64 q,.slice (some ⟨G+1+1,0,none⟩) n n],D.length⟩) (D.length+1));have HBF:=Hj hbf;have HUP:=Hj hnew;clear hbf hnew hM5 hrw hB5 hes5 hf5 hM hB HFN hes hel hel5 k4 k5 o1 o2 o3 m1' m2' a0 a1 b0 b1 b2' hrc hrf hpn hqn;go_wp2;go_roundw
      case rel=>exact ⟨k+1,by omega,by go_num,_,by rw [HSN.out];exact HUP.out,HBF.out⟩
      case measure=>simp [intOf];omega
    ·obtain rfl:k=n':=by omega
     have hnx:∃ D,MR w.heap.size n (St.tri 0 (ls.take (i+1))) D w.heap.size wr∧Below w.heap.size w wr:=by
      obtain ⟨D,hM,hB⟩:=hR.out;exact ⟨D,by rw [← St.upto_all (by rw [HLN.out];exact hlt) (show (ls[i]?.getD []).length≤k by rw [HSI.out.1];exact Nat.le_refl _)];exact hM,hB⟩
     have HNX:=Hj hnx;clear hnx hR;go_wp2;go_roundw
     case rel=>exact ⟨i+1,by omega,by go_num,HNX.out⟩
     case measure=>simp [intOf];omega
  ·obtain rfl:i=n:=by omega
   obtain ⟨D,hM,hB⟩:=hR.out;rw [List.take_of_length_le (by rw [HLN.out];exact Nat.le_refl _)] at hM;obtain ⟨hD1,⟨es,hes,hel⟩,-,-,-⟩:=id hM;have hsz:es.size=D.length:=by rw [← Array.length_toList,hel,ents_len]
   have hDl:D.length≤48:=by
    have a1:=St.pr_len (St.tri 0 ls);have a2:=St.tri_len ls 0 fun l hl=>(HG.out l hl).1;rw [← hD1,List.length_map] at a1;have:=HLN.out;omega
   generalize St.tri 0 ls=T at *;obtain ⟨il,hil,hz0,hz1,hz2⟩:=info_parts linfo;have hmk2:=fun w=>run_make (P:=Tryz.prog) w 30 64 il _ Tryz.underlying30 hil hz0 .i64 .i64 0 (D.length:Int) (by omega) (by omega) (by rw [hz2];omega) (by omega);rw [hz1] at hmk2;have hlen:=fun ty=>run_len_lv (P:=Tryz.prog) (ty:=ty) Tryz.underlying148 hes hsz;simp only [Int.toNat_natCast,show (0:Int).toNat=0 from rfl] at hmk2;have hmz:(madeCells (Value.agg #[.int .i64 0,.int .i64 0,.slice none 0 0]).cells (D.length*3)).size=D.length*3:=by simp [size_madeCells]
   generalize madeCells (Value.agg #[.int .i64 0,.int .i64 0,.slice none 0 0]).cells (D.length*3)=cur at *;have k1:=(Kp.refl wr).alloc (.cells cur 64);have hM1:=hM.keep k1;have hes1:(wr.alloc (.cells cur 64)).heap[w.heap.size]?=some (.map es D.length):=((MapKept.heap_alloc _ _).2 _ (Array.getElem?_eq_some_iff.1 hes).1).trans hes;have hrg:=run_range_map (P:=Tryz.prog) (wr.alloc (.cells cur 64)) 148 _ _ w.heap.size es D.length Tryz.underlying148 hes1;have k2:=k1.alloc (.mapIter (some w.heap.size) D.length #[] D.length);have hB2:=hB.trans (Below.mono k2 hB.size);have hO:Own w.heap.size 64 3 (wr.alloc (.cells cur 64)) (some ⟨wr.heap.size,0,none⟩) 0 D.length []:=World.ownsRow_made wr cur D.length (Nat.le_of_lt hM.lt) (by simp only [maxLen];omega) hmz;have hO2:=hO.keep ((Below.refl _ _).alloc (Nat.le_refl _) (.mapIter (some w.heap.size) D.length #[] D.length));have hit:((wr.alloc (.cells cur 64)).alloc (.mapIter (some w.heap.size) D.length #[] D.length)).heap[wr.heap.size+1]?=some (.mapIter (some w.heap.size) D.length #[] D.length):=by
    have:=(MapKept.heap_alloc (wr.alloc (.cells cur 64)) (.mapIter (some w.heap.size) D.length #[] D.length)).1
    rwa [World.size_alloc] at this
   have hst:RG w.heap.size i T D w.heap.size (wr.heap.size+1) w [] (some ⟨wr.heap.size,0,none⟩) D.length ((wr.alloc (.cells cur 64)).alloc (.mapIter (some w.heap.size) D.length #[] D.length)) :=
    ⟨hB2,hM.keep k2,⟨#[],hit,rfl⟩,by simp,by simp,hO2,_,rfl⟩
   have HST:=Hj hst;have hrlt:w.heap.size≤wr.heap.size+1:=by have:=hM.lt;omega
   have hborn:∀ x∈es.toList,x.born<D.length:=fun x hx=>(ents_mem (by rw [hel] at hx;exact hx)).1;have hbnd:(es.toList.map (·.born)).Nodup:=by rw [hel,ents_born];exact List.nodup_range'
   have HEL:=Hj hel;have HBO:=Hj hborn;have HBN:=Hj hbnd;have HII:=Hj hil;have HI0:=Hj hz0;have HI1:=Hj hz1;have HI2:=Hj hz2;have HD1:=Hj hD1;clear hR hst hO hO2 hit hB2 k2 hM1 hM hB hel hborn hbnd hmz hil hz0 hz1 hz2 hD1
   go_wp2_with fail
   generalize (wr.alloc (.cells cur 64)).alloc (.mapIter (some w.heap.size) D.length #[] D.length)=W1 at *;generalize wr.heap.size+1=r at *;clear hrg hes1 k1 hlen hmk2 hmk hmm hes hsz
   go_loopw [10] (fun t wx=>∃ (S:List Nat) (Am:Option Addr) (cap:Nat),t=.slice Am S.length cap∧S.length≤D.length∧Hid (RG w.heap.size i T D w.heap.size r w S Am cap wx)) (fun t _=>D.length-lenOf t)
   case atStart=>exact ⟨[],_,_,rfl,Nat.zero_le _,HST.out⟩
   case round =>
    clear HST;obtain ⟨S,Am,cap,rfl,hSl,hR⟩:=hrel;obtain ⟨hB,hM,⟨seen,hsn,hse⟩,hnd,hlt9,hO,-⟩:=hR.out;obtain ⟨-,⟨es2,hes2,hel2⟩,-,-,-⟩:=id hM;have hborn2:∀ x∈es2.toList,x.born<D.length:=fun x hx=>(ents_mem (by rw [hel2] at hx;exact hx)).1;have hbnd2:(es2.toList.map (·.born)).Nodup:=by rw [hel2,ents_born];exact List.nodup_range'
    have hrm:r≠w.heap.size:=fun e=>by rw [e,hes2] at hsn;simp at hsn
    have HSN:=Hj hsn;have HES:=Hj hes2;have HB':=Hj hB;have HM':=Hj hM;have HO':=Hj hO;have HEL2:=Hj hel2;have HBO2:=Hj hborn2;have HBN2:=Hj hbnd2;have HND:=Hj hnd;have HL9:=Hj hlt9;have HSE:=Hj hse;clear hB hM hsn hse hnd hlt9 hO hes2 hel2 hborn2 hbnd2
    go_wp2_with (first
     | (at_next;refine wpList_next_my rfl (.tmp 67) rfl rfl HSN.out HES.out HBO2.out (Nat.le_refl _) ?_ ?_
        intro h0;have HDN:=Hj h0;clear h0;rotate_left;intro e he w1 hal;obtain ⟨hem,hec⟩:=mem_left he;obtain ⟨hbl,heq⟩:=ents_mem (n:=i) (T:=T) (D:=D) (e:=e) (by rw [← HEL2.out];exact hem);obtain ⟨ek,ev,eb⟩:=e;simp only [ent,MapEntry.mk.injEq] at heq;obtain ⟨rfl,rfl,-⟩:=heq;have q1:w1.heap[r]?=some (.mapIter (some w.heap.size) D.length seen D.length):=by rcases hal with rfl|rfl<;>exact HSN.out
        have q2:w1.heap[w.heap.size]?=some (.map es2 D.length):=by rcases hal with rfl|rfl<;>exact HES.out
        have q3:MR w.heap.size i T D w.heap.size w1:=by rcases hal with rfl|rfl<;>exact HM'.out
        have q4:Own w.heap.size 64 3 w1 Am S.length cap (S.flatMap fun j=>encL i T (D[j]?.getD (0,0))):=by rcases hal with rfl|rfl<;>exact HO'.out
        have q5:Below w.heap.size w w1:=by rcases hal with rfl|rfl;exact HB'.out;exact HB'.out.drew
        have hput:=heap_put (Array.getElem?_eq_some_iff.1 q1).1 (.mapIter (some w.heap.size) D.length (seen.push eb) D.length);have r3:=q3.iter q1 (.mapIter (some w.heap.size) D.length (seen.push eb) D.length);have r4:=q4.iter q1 (.mapIter (some w.heap.size) D.length (seen.push eb) D.length);have r5:=below_put q5 hrlt (Array.getElem?_eq_some_iff.1 q1).1 (.mapIter (some w.heap.size) D.length (seen.push eb) D.length);have hen:=run_entry_at (P:=Tryz.prog) _ r w.heap.size D.length seen es2 D.length _ hput.1 ((hput.2 _ (fun e=>hrm e.symm)).trans q2) hem HBN2.out;have r1:=hput.1;have HEC:=Hj hec;simp only at hen;generalize hd0:D[eb]?.getD (0,0)=d0 at *;have HD0:=Hj hd0;generalize setBlock w1 r (.mapIter (some w.heap.size) D.length (seen.push eb) D.length)=w2 at *;have R1:=Hj r1;have R3:=Hj r3;have R4:=Hj r4;have R5:=Hj r5;clear he hal hem q1 q2 q3 q4 q5 hput r1 r3 r4 r5 hd0 hec)
     | (at_builtin;refine wpList_append_my rfl (base:=w.heap.size) (e:=64) (size:=3) (bytes:=40) (.tmp 72) (.tmp 74) 30 rfl Tryz.underlying30 HII.out HI0.out HI1.out HI2.out rfl (by decide) (xs:=S.flatMap fun j=>encL i T (D[j]?.getD (0,0))) (news:=encL i T d0) rfl (R4.out.keep (((Kp.refl w2).alloc _).alloc _)) rfl (by exact Blk.src (Blk.new1 w2 _ _ _) rfl enc_one) (by simp only [maxLen];omega) (by omega) (by have:=R5.out.size;simp only [World.size_alloc];omega) ?_
        intro B1 cb1 w3 hO3 hb3 hk3;have k3:=((Kp.refl w2).alloc (.cells #[.int .i64 d0.1,.int .i64 (St.qty T d0.1),.slice (some ⟨d0.2,0,none⟩) i i] 64)).alloc (.cells #[.int .i64 d0.1,.int .i64 (St.qty T d0.1),.slice (some ⟨d0.2,0,none⟩) i i] 64);have M3:=(R3.out.keep k3).kept (R4.out.keep k3) hk3;have I3:=iter_kept ((Below.block k3 r (Array.getElem?_eq_some_iff.1 R1.out).1).trans R1.out) (R4.out.keep k3) hk3;have B3:Below w.heap.size w w3:=(R5.out.trans (Below.mono k3 R5.out.size)).trans hb3;clear hb3 hk3 k3))
    ·have hns:eb ∉ S:=fun hm=>by
      have h1:=HEC.out;rw [← HSE.out] at hm;simp only at h1;rw [Array.contains_eq_mem] at h1;simp at h1;exact h1 (by simpa using hm)
     have hnd2:(S ++ [eb]).Nodup:=by
      rw [List.nodup_append];exact ⟨HND.out,by simp,fun a ha b hb=>by simp at hb;subst hb;rintro rfl;exact hns ha⟩
     have hlt2:∀ j∈S ++ [eb],j<D.length:=fun j hj=>by
      rcases List.mem_append.1 hj with hj|hj
      ·exact HL9.out j hj
      ·simp at hj;subst hj;exact hbl
     have hle2:=nodup_le hnd2 hlt2;have hfin:RG w.heap.size i T D w.heap.size r w (S ++ [eb]) B1 cb1 w3:=by
      refine ⟨B3,M3,⟨seen.push eb,I3,by simp [HSE.out]⟩,hnd2,hlt2,?_,?_⟩;rotate_left
      ·obtain ⟨g,cap',hv,_⟩:=World.ownsRow.form hO3 (by omega);simp at hv;exact ⟨g,hv.1⟩
      rw [List.length_append,List.flatMap_append];have:[eb].flatMap (fun j=>encL i T (D[j]?.getD (0,0)))=encL i T d0:=by simp [HD0.out]
      rw [this];exact hO3
     have HF:=Hj hfin;clear hfin M3 I3 B3 hO3;go_roundw
     case rel=>exact ⟨S ++ [eb],B1,cb1,by simp,hle2,HF.out⟩
     case measure=>simp at hle2;simp [lenOf];omega
    ·have hall:∀ j,j<D.length→j∈S:=fun j hj=>by
      have hm:ent i T (0+j) (D[j]?.getD (0,0))∈es2.toList:=by
       rw [HEL2.out];refine List.mem_of_getElem? (i:=j) ?_;rw [ents_get,List.getElem?_eq_getElem hj]
       rfl
      have h1:=all_seen es2 seen HDN.out _ hm;simp only [ent,Nat.zero_add] at h1;rw [Array.contains_eq_mem] at h1;rw [← HSE.out];simpa using h1
     have HF:=Hj (RG.done hR.out hall);go_ret;exact HF.out
end Go.Proofs.YtjajigkacccdgaaGreat
namespace Go.Proofs.YtjajigkacccdgaaGreat
open Go.Shelf
def Tryz.laysGg6_ren:Go.Shelf.Ren:=⟨fun|6=>71|10=>121|11=>122|12=>123|13=>124|14=>125|24=>167|25=>168|26=>169|27=>170|28=>171|29=>172|30=>173|31=>174|32=>175|33=>176|34=>205|35=>206|36=>207|37=>208|38=>209|39=>221|n=>n,fun|20=>20|26=>104|35=>153|0=>0|37=>155|3=>3|41=>159|44=>162|49=>59|51=>164|4=>4|54=>191|53=>190|58=>195|5=>5|9=>9|60=>209|64=>213|66=>227|67=>228|17=>17|32=>150|33=>151|82=>247|12=>12|75=>240|76=>241|77=>242|78=>243|79=>244|80=>245|n=>n,fun|n=>n⟩
theorem Tryz.laysGg6:LaysGg.n6 Tryz.prog Tryz.laysGg6_ren:={
 mixed:=by kernel_rfl
 f6:=Tryz.func71.trans (congrArg some (by kernel_rfl))
 f10:=Tryz.func121.trans (congrArg some (by kernel_rfl))
 f11:=Tryz.func122.trans (congrArg some (by kernel_rfl))
 f12:=Tryz.func123.trans (congrArg some (by kernel_rfl))
 f13:=Tryz.func124.trans (congrArg some (by kernel_rfl))
 f14:=Tryz.func125.trans (congrArg some (by kernel_rfl))
 f24:=Tryz.func167.trans (congrArg some (by kernel_rfl))
 f25:=Tryz.func168.trans (congrArg some (by kernel_rfl))
 f26:=Tryz.func169.trans (congrArg some (by kernel_rfl))
 f27:=Tryz.func170.trans (congrArg some (by kernel_rfl))
 f28:=Tryz.func171.trans (congrArg some (by kernel_rfl))
 f29:=Tryz.func172.trans (congrArg some (by kernel_rfl))
 f30:=Tryz.func173.trans (congrArg some (by kernel_rfl))
 f31:=Tryz.func174.trans (congrArg some (by kernel_rfl))
 f32:=Tryz.func175.trans (congrArg some (by kernel_rfl))
 f33:=Tryz.func176.trans (congrArg some (by kernel_rfl))
 f34:=Tryz.func205.trans (congrArg some (by kernel_rfl))
 f35:=Tryz.func206.trans (congrArg some (by kernel_rfl))
 f36:=Tryz.func207.trans (congrArg some (by kernel_rfl))
 f37:=Tryz.func208.trans (congrArg some (by kernel_rfl))
 f38:=Tryz.func209.trans (congrArg some (by kernel_rfl))
 f39:=Tryz.func221.trans (congrArg some (by kernel_rfl))
 t0:=Tryz.underlying0
 a0:=Tryz.isAgg0
 z0:=Tryz.sizeOf0
 v0:=Tryz.zeroValue0
 i0:=by kernel_rfl
 t3:=Tryz.underlying3
 a3:=Tryz.isAgg3
 z3:=Tryz.sizeOf3
 v3:=Tryz.zeroValue3
 i3:=by kernel_rfl
 t4:=Tryz.underlying4
 a4:=Tryz.isAgg4
 z4:=Tryz.sizeOf4
 v4:=Tryz.zeroValue4
 i4:=by kernel_rfl
 t5:=Tryz.underlying5
 a5:=Tryz.isAgg5
 z5:=Tryz.sizeOf5
 v5:=Tryz.zeroValue5
 i5:=by kernel_rfl
 t9:=Tryz.underlying9
 a9:=Tryz.isAgg9
 z9:=Tryz.sizeOf9
 v9:=Tryz.zeroValue9
 i9:=by kernel_rfl
 t12:=Tryz.underlying12
 a12:=Tryz.isAgg12
 z12:=Tryz.sizeOf12
 v12:=Tryz.zeroValue12
 i12:=by kernel_rfl
 t17:=Tryz.underlying17
 a17:=Tryz.isAgg17
 z17:=Tryz.sizeOf17
 v17:=Tryz.zeroValue17
 i17:=by kernel_rfl
 t20:=Tryz.underlying20
 a20:=Tryz.isAgg20
 z20:=Tryz.sizeOf20
 v20:=Tryz.zeroValue20
 i20:=by kernel_rfl
 t26:=Tryz.underlying104
 a26:=Tryz.isAgg104
 z26:=Tryz.sizeOf104
 v26:=Tryz.zeroValue104
 i26:=by kernel_rfl
 t32:=Tryz.underlying150
 a32:=Tryz.isAgg150
 z32:=Tryz.sizeOf150
 v32:=Tryz.zeroValue150
 i32:=by kernel_rfl
 t33:=Tryz.underlying151
 a33:=Tryz.isAgg151
 z33:=Tryz.sizeOf151
 v33:=Tryz.zeroValue151
 i33:=by kernel_rfl
 t35:=Tryz.underlying153
 a35:=Tryz.isAgg153
 z35:=Tryz.sizeOf153
 v35:=Tryz.zeroValue153
 i35:=by kernel_rfl
 t37:=Tryz.underlying155
 a37:=Tryz.isAgg155
 z37:=Tryz.sizeOf155
 v37:=Tryz.zeroValue155
 i37:=by kernel_rfl
 t41:=Tryz.underlying159
 a41:=Tryz.isAgg159
 z41:=Tryz.sizeOf159
 v41:=Tryz.zeroValue159
 i41:=by kernel_rfl
 t44:=Tryz.underlying162
 a44:=Tryz.isAgg162
 z44:=Tryz.sizeOf162
 v44:=Tryz.zeroValue162
 i44:=by kernel_rfl
 t49:=Tryz.underlying59
 a49:=Tryz.isAgg59
 z49:=Tryz.sizeOf59
 v49:=Tryz.zeroValue59
 i49:=by kernel_rfl
 t51:=Tryz.underlying164
 a51:=Tryz.isAgg164
 z51:=Tryz.sizeOf164
 v51:=Tryz.zeroValue164
 i51:=by kernel_rfl
 t53:=Tryz.underlying190
 a53:=Tryz.isAgg190
 z53:=Tryz.sizeOf190
 v53:=Tryz.zeroValue190
 i53:=by kernel_rfl
 t54:=Tryz.underlying191
 a54:=Tryz.isAgg191
 z54:=Tryz.sizeOf191
 v54:=Tryz.zeroValue191
 i54:=by kernel_rfl
 t58:=Tryz.underlying195
 a58:=Tryz.isAgg195
 z58:=Tryz.sizeOf195
 v58:=Tryz.zeroValue195
 i58:=by kernel_rfl
 t60:=Tryz.underlying209
 a60:=Tryz.isAgg209
 z60:=Tryz.sizeOf209
 v60:=Tryz.zeroValue209
 i60:=by kernel_rfl
 t64:=Tryz.underlying213
 a64:=Tryz.isAgg213
 z64:=Tryz.sizeOf213
 v64:=Tryz.zeroValue213
 i64:=by kernel_rfl
 t66:=Tryz.underlying227
 a66:=Tryz.isAgg227
 z66:=Tryz.sizeOf227
 v66:=Tryz.zeroValue227
 i66:=by kernel_rfl
 t67:=Tryz.underlying228
 a67:=Tryz.isAgg228
 z67:=Tryz.sizeOf228
 v67:=Tryz.zeroValue228
 i67:=by kernel_rfl
 t75:=Tryz.underlying240
 a75:=Tryz.isAgg240
 z75:=Tryz.sizeOf240
 v75:=Tryz.zeroValue240
 i75:=by kernel_rfl
 t76:=Tryz.underlying241
 a76:=Tryz.isAgg241
 z76:=Tryz.sizeOf241
 v76:=Tryz.zeroValue241
 i76:=by kernel_rfl
 t77:=Tryz.underlying242
 a77:=Tryz.isAgg242
 z77:=Tryz.sizeOf242
 v77:=Tryz.zeroValue242
 i77:=by kernel_rfl
 t78:=Tryz.underlying243
 a78:=Tryz.isAgg243
 z78:=Tryz.sizeOf243
 v78:=Tryz.zeroValue243
 i78:=by kernel_rfl
 t79:=Tryz.underlying244
 a79:=Tryz.isAgg244
 z79:=Tryz.sizeOf244
 v79:=Tryz.zeroValue244
 i79:=by kernel_rfl
 t80:=Tryz.underlying245
 a80:=Tryz.isAgg245
 z80:=Tryz.sizeOf245
 v80:=Tryz.zeroValue245
 i80:=by kernel_rfl
 t82:=Tryz.underlying247
 a82:=Tryz.isAgg247
 z82:=Tryz.sizeOf247
 v82:=Tryz.zeroValue247
 i82:=by kernel_rfl }
end Go.Proofs.YtjajigkacccdgaaGreat
