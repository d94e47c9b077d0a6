/-
Lemmas of the walk; no further conditions.
-/
import Derived.Test.YtjajigkacccdgaaGreatTeAR
import Derived.OrdersHeld
import Derived.Deep.RegionHeld3
import Derived.Laws.EntriesVeiled
set_option linter.unusedVariables false
set_option linter.unusedSimpArgs false
set_option maxRecDepth 100000
set_option maxHeartbeats 16000000
namespace Go.Proofs.YtjajigkacccdgaaGreat
open Go.RowKit
open Wd
abbrev QE:=Bool×(Option Addr×Nat×Nat)×Bool×(Option Addr×Nat×Nat)
abbrev QE0:QE:=(false,(none,0,0),false,(none,0,0))
def QsAtR (w:World) (A:Option Addr) (m:Nat) (es:List QE):Prop :=
 es.length=m∧(m≠0→∃ b o,A=some ⟨b,o,none⟩∧b<w.heap.size∧∀ j,j<m→w.cell? ⟨b,o+j*4,none⟩=some (.bool (es[j]?.getD QE0).1)∧w.cell? ⟨b,o+j*4+1,none⟩=some (.slice (es[j]?.getD QE0).2.1.1 (es[j]?.getD QE0).2.1.2.1 (es[j]?.getD QE0).2.1.2.2) ∧
  w.cell? ⟨b,o+j*4+2,none⟩=some (.bool (es[j]?.getD QE0).2.2.1)∧w.cell? ⟨b,o+j*4+3,none⟩=some (.slice (es[j]?.getD QE0).2.2.2.1 (es[j]?.getD QE0).2.2.2.2.1 (es[j]?.getD QE0).2.2.2.2.2))
theorem QsAtR.below {w w':World} {A:Option Addr} {m:Nat} {es:List QE} (h:QsAtR w A m es) (hb:Below w.heap.size w w'):QsAtR w' A m es:=by
 refine ⟨h.1,fun hn=>?_⟩;obtain ⟨b,o,rfl,hlt,hc⟩:=h.2 hn;exact ⟨b,o,rfl,Nat.lt_of_lt_of_le hlt hb.size,fun j hj=>⟨(hb.cell hlt).trans (hc j hj).1,(hb.cell hlt).trans (hc j hj).2.1,(hb.cell hlt).trans (hc j hj).2.2.1,(hb.cell hlt).trans (hc j hj).2.2.2⟩⟩
theorem QsAtR.one {w:World} {g:Nat} {t:TypeId} {an an':Bool} {aA aA':Option Addr} {ak ac ak' ac':Nat} (h:Blk w g t #[.bool an,.slice aA ak ac,.bool an',.slice aA' ak' ac']):QsAtR w (some ⟨g,0,none⟩) 1 [(an,(aA,ak,ac),an',(aA',ak',ac'))]:=by
 refine ⟨rfl,fun _=>⟨g,0,rfl,h.lt,fun j hj=>?_⟩⟩;obtain rfl:j=0:=by omega
 exact ⟨h.cell 0,h.cell 1,h.cell 2,h.cell 3⟩
def bigQ (e:QE):Bool:=decide (6<e.2.1.2.1) || decide (6<e.2.2.2.2.1)
theorem long23_any (A:Option Addr) (m c:Nat) (es:List QE) (w:World) (h:QsAtR w A m es) (hm:m≤1000000000000) :
  Calls Tryz.prog 23 #[.slice A m c] w fun e w'=>e=.returned (.bool (es.any bigQ))∧Below w.heap.size w w':=by
 have HX:=Hj h;have HLN:=Hj h.1;clear h;go_enter Tryz.func23,Tryz.ntmps23
 go_wp2_with fail
 go_loopw [3] (fun t wr=>∃ k:Nat,k≤m∧t=.int .i64 k∧Hid (Below w.heap.size w wr∧(es.take k).any bigQ=false)) (fun t _=>m-(intOf t).toNat)
 case atStart=>exact ⟨0,Nat.zero_le _,rfl,Below.refl _ _,by simp⟩
 case round =>
  obtain ⟨k,hk,rfl,hR⟩:=hrel;by_cases hlt:k<m
  ·obtain ⟨b,o,rfl,hb,hc⟩:=HX.out.2 (by omega);obtain ⟨-,y1,-,y3⟩:=hc k hlt;have hkl:k<es.length:=by rw [HLN.out];exact hlt
   have htk:es.take (k+1)=es.take k ++ [es[k]?.getD QE0]:=by rw [List.take_add_one,List.getElem?_eq_getElem hkl];rfl
   have hany:(es.take (k+1)).any bigQ=bigQ (es[k]?.getD QE0):=by rw [htk,List.any_append,hR.out.2];simp
   have hmm:bigQ (es[k]?.getD QE0)=true→es.any bigQ=true:=fun hx=>List.any_eq_true.2 ⟨_,getD_mem hkl,hx⟩;unfold bigQ at hany hmm;generalize (es[k]?.getD QE0).2.1.1=a1 at *;generalize (es[k]?.getD QE0).2.1.2.1=n1 at *;generalize (es[k]?.getD QE0).2.1.2.2=c1 at *;generalize (es[k]?.getD QE0).2.2.2.1=a2 at *;generalize (es[k]?.getD QE0).2.2.2.2.1=n2 at *;generalize (es[k]?.getD QE0).2.2.2.2.2=c2 at *;replace y1:=(hR.out.1.cell (p:=⟨b,o+k*4+1,none⟩) hb).trans y1;replace y3:=(hR.out.1.cell (p:=⟨b,o+k*4+3,none⟩) hb).trans y3;have k1:(0:Int)≤(k:Int):=by omega
   have k2:(k:Int)<(m:Int):=by omega
   have HB:=Hj hR.out.1;have HA:=Hj hany;have HM:=Hj hmm;clear hR hc hkl htk hany hmm;by_cases h1:6<n1
   ·have d1:decide ((6:Int)<(n1:Int))=true:=by simp;omega
    have HT:=Hj (HM.out (by simp [h1]));go_wp2;go_ret;exact ⟨by have:=HT.out;unfold bigQ;rw [this];rfl,HB.out⟩
   ·have d1:decide ((6:Int)<(n1:Int))=false:=by simp;omega
    by_cases h2:6<n2
    ·have d2:decide ((6:Int)<(n2:Int))=true:=by simp;omega
     have HT:=Hj (HM.out (by simp [h2]));go_wp2;go_ret;exact ⟨by have:=HT.out;unfold bigQ;rw [this];rfl,HB.out⟩
    ·have d2:decide ((6:Int)<(n2:Int))=false:=by simp;omega
     have HF:Hid ((es.take (k+1)).any bigQ=false):=by
      show _=_;have:=HA.out;unfold bigQ;rw [this];simp [h1,h2]
     go_wp2;go_roundw
     case rel=>exact ⟨k+1,by omega,by go_num,HB.out,HF.out⟩
     case measure=>simp [intOf];omega
  ·obtain rfl:k=m:=by omega
   have HT:Hid (es.any bigQ=false):=by
    show _=_;have:=hR.out.2
    rwa [List.take_of_length_le (by rw [HLN.out];omega)] at this
   have HB:=Hj hR.out.1;clear hR;go_wp2;go_ret;exact ⟨by rw [HT.out];rfl,HB.out⟩
def QRaw (w:World) (A:Option Addr) (n c:Nat) (A':Option Addr) (n' c':Nat):Prop:=∃ l l',Wat w A n l∧Wat w A' n' l'∧n≤c∧n'≤c'
theorem long23_big (A:Option Addr) (m c:Nat) (es:List QE) (w:World) (h:QsAtR w A m es) (hm:m≤maxLen) :
  Calls Tryz.prog 23 #[.slice A m c] w fun e w'=>e=.returned (.bool (es.any bigQ))∧Below w.heap.size w w':=by
 have HX:=Hj h;have HLN:=Hj h.1;have HMX:=Hj hm;clear h hm;go_enter Tryz.func23,Tryz.ntmps23
 go_wp2_with fail
 go_loopw [3] (fun t wr=>∃ k:Nat,k≤m∧t=.int .i64 k∧Hid (Below w.heap.size w wr∧(es.take k).any bigQ=false)) (fun t _=>m-(intOf t).toNat)
 case atStart=>exact ⟨0,Nat.zero_le _,rfl,Below.refl _ _,by simp⟩
 case round =>
  obtain ⟨k,hk,rfl,hR⟩:=hrel;by_cases hlt:k<m
  ·obtain ⟨b,o,rfl,hb,hc⟩:=HX.out.2 (by omega);obtain ⟨-,y1,-,y3⟩:=hc k hlt;have hkl:k<es.length:=by rw [HLN.out];exact hlt
   have htk:es.take (k+1)=es.take k ++ [es[k]?.getD QE0]:=by rw [List.take_add_one,List.getElem?_eq_getElem hkl];rfl
   have hany:(es.take (k+1)).any bigQ=bigQ (es[k]?.getD QE0):=by rw [htk,List.any_append,hR.out.2];simp
   have hmm:bigQ (es[k]?.getD QE0)=true→es.any bigQ=true:=fun hx=>List.any_eq_true.2 ⟨_,getD_mem hkl,hx⟩;unfold bigQ at hany hmm;generalize (es[k]?.getD QE0).2.1.1=a1 at *;generalize (es[k]?.getD QE0).2.1.2.1=n1 at *;generalize (es[k]?.getD QE0).2.1.2.2=c1 at *;generalize (es[k]?.getD QE0).2.2.2.1=a2 at *;generalize (es[k]?.getD QE0).2.2.2.2.1=n2 at *;generalize (es[k]?.getD QE0).2.2.2.2.2=c2 at *;replace y1:=(hR.out.1.cell (p:=⟨b,o+k*4+1,none⟩) hb).trans y1;replace y3:=(hR.out.1.cell (p:=⟨b,o+k*4+3,none⟩) hb).trans y3;have k1:(0:Int)≤(k:Int):=by omega
   have k2:(k:Int)<(m:Int):=by omega
   have i1:IntKind.i64.wrap ((k:Int)+1)=((k+1:Nat):Int):=by
    have:=HMX.out;unfold maxLen at this;exact IntWalk.i64_in _ (by omega)
   have HB:=Hj hR.out.1;have HA:=Hj hany;have HM:=Hj hmm;clear hR hc hkl htk hany hmm;by_cases h1:6<n1
   ·have d1:decide ((6:Int)<(n1:Int))=true:=by simp;omega
    have HT:=Hj (HM.out (by simp [h1]));go_wp2;go_ret;exact ⟨by have:=HT.out;unfold bigQ;rw [this];rfl,HB.out⟩
   ·have d1:decide ((6:Int)<(n1:Int))=false:=by simp;omega
    by_cases h2:6<n2
    ·have d2:decide ((6:Int)<(n2:Int))=true:=by simp;omega
     have HT:=Hj (HM.out (by simp [h2]));go_wp2;go_ret;exact ⟨by have:=HT.out;unfold bigQ;rw [this];rfl,HB.out⟩
    ·have d2:decide ((6:Int)<(n2:Int))=false:=by simp;omega
     have HF:Hid ((es.take (k+1)).any bigQ=false):=by
      show _=_;have:=HA.out;unfold bigQ;rw [this];simp [h1,h2]
     go_wp2;go_roundw
     case rel=>exact ⟨k+1,by omega,by first|rfl|go_num,HB.out,HF.out⟩
     case measure=>simp [intOf];omega
  ·obtain rfl:k=m:=by omega
   have HT:Hid (es.any bigQ=false):=by
    show _=_;have:=hR.out.2
    rwa [List.take_of_length_le (by rw [HLN.out];omega)] at this
   have HB:=Hj hR.out.1;clear hR;go_wp2;go_ret;exact ⟨by rw [HT.out];rfl,HB.out⟩
def PB (k:Nat):Nat:=4294967296 ^ (7*3 ^ k)
def Lv (k:Nat) (q:Rat):Prop:=q.num.natAbs<PB k∧q.den<PB k
theorem lv_mk {n:Int} {d N:Nat} (hd:d≠0) (h1:n.natAbs<N) (h2:d<N):(mkRat n d).num.natAbs<N∧(mkRat n d).den<N:=by
 rw [mk_num _ _ hd,mk_den _ _ hd,Int.natAbs_tdiv,Int.natAbs_natCast];exact ⟨Nat.lt_of_le_of_lt (Nat.div_le_self _ _) h1,Nat.lt_of_le_of_lt (Nat.div_le_self _ _) h2⟩
theorem Lv.self (q:Rat):q=mkRat q.num ((q.den:Nat):Int).natAbs:=by rw [Int.natAbs_natCast,Rat.mkRat_self]
section
variable {k:Nat} {a b:Rat}
end
def QK (k:Nat) (w:World) (neg:Bool) (A:Option Addr) (n c:Nat) (neg':Bool) (A':Option Addr) (n' c':Nat) (q:Rat):Prop:=QAt (PB k) (PB k) w neg A n c neg' A' n' c' q
section
variable {k j:Nat} {w w':World} {an an' bn bn':Bool} {aA aA' bA bA':Option Addr} {ak ac ak' ac' bk bc bk' bc':Nat} {q qa qb:Rat}
end
def RQ (w:World) (q:Rat) (A:Option Addr) (k c:Nat) (A':Option Addr) (k' c':Nat):Prop:=k≤c∧k'≤c'∧Wat w A k (digs q.num.natAbs)∧Wat w A' k' (denW q.den)
section
variable {w w':World} {q:Rat} {A A':Option Addr} {k c k' c':Nat}
theorem RQ.below (h:RQ w q A k c A' k' c') (hb:Below w.heap.size w w'):RQ w' q A k c A' k' c':=⟨h.1,h.2.1,h.2.2.1.below hb,h.2.2.2.below hb⟩
theorem RQ.put4 {g o:Nat} {a b:Bool} {B B':Option Addr} {j d j' d':Nat} {t:TypeId} {cs:Array Value} (h:RQ w q A k c A' k' c') (hb:Blk w g t cs) (hn:NoInt cs):RQ (qst w g o a b B B' j d j' d') q A k c A' k' c' :=
 ⟨h.1,h.2.1,h.2.2.1.put4 hb hn,h.2.2.2.put4 hb hn⟩
end
end Go.Proofs.YtjajigkacccdgaaGreat
namespace Go.Proofs.YtjajigkacccdgaaGreat
open Go
section
variable {P:Program} {ops:Array Oper} {Q:Exit→Act→World→Prop} {md:Region.Mode} {S:World→Prop}
theorem tkk {oi:Oper} {v:Value} {fuel:Nat} {listed:Array Bool} {a:Act} {w:World} (i:Nat) (hi:ops[i]?=some oi) (hc:(Region.noSelect ops && (Region.free md ops listed i && (Region.ready md ops listed).contains i))=true)
  (hQ:∀ c a w,Q (.panic c) (a.put oi.dst v) w→Q (.panic c) a w) (hy:YieldsIf P ops S oi v a) (hS:S w) (h:wpAnyH P md ops Q S fuel (listed.setIfInBounds i true) (a.put oi.dst v) w):wpAnyH P md ops Q S (fuel+1) listed a w:=by
 simp only [Bool.and_eq_true] at hc;exact wpAnyH_take hi hc.1 hc.2.1 hc.2.2 hQ hy hS h
end
section
variable {P:Program} {ops fr:Array Oper} {Q:Exit→Act→World→Prop} {N r:Nat}
def Qfr (Q:Exit→Act→World→Prop) (k:Act→World→Prop):Exit→Act→World→Prop
 | .normal=>k
 | .panic c=>Q (.panic c)
 | e=>Q e
theorem wpAny_more:∀ (f:Nat) (l:Array Bool) (a:Act) (w:World),wpAny P .any ops Q f l a w→wpAny P .any ops Q (f+1) l a w
 | 0,_,_,_,h=>⟨fun _=>h.2,by rw [h.1];intro i hi;cases hi⟩
 | f+1,l,a,w,h=>⟨h.1,fun i hi=>wpOp_mono (fun a' w'=>wpAny_more f _ a' w') (h.2 i hi)⟩
theorem wpAny_mores {f:Nat} {l:Array Bool} {a:Act} {w:World} (h:wpAny P .any ops Q f l a w):∀ k,wpAny P .any ops Q (f+k) l a w
 | 0=>h
 | k+1=>wpAny_more _ _ _ _ (wpAny_mores h k)
def needs (ops:Array Oper) (i:Nat):List Nat:=((ops[i]?).map fun o=>(o.after.toList.filter (Region.binds .any)).map (·.on)).getD []
def reach (ops:Array Oper):Nat→Nat→Nat→Bool
 | 0,_,_=>false
 | f+1,j,i=>(needs ops j).any (fun k=>k == i) || (needs ops j).any (fun k=>reach ops f k i)
def Clo (ops:Array Oper) (l:Array Bool):Prop:=∀ k,l.getD k false=true→∀ e∈needs ops k,l.getD e false=true
theorem reach_listed {l:Array Bool} (hc:Clo ops l):∀ (f j i:Nat),(∀ e∈needs ops j,l.getD e false=true)→reach ops f j i=true→l.getD i false=true
 | 0,_,_,_,h=>by cases h
 | f+1,j,i,hj,h=>by
  unfold reach at h;rcases Bool.or_eq_true_iff.1 h with h|h
  ·obtain ⟨k,hk,e⟩:=List.any_eq_true.1 h;rw [← eq_of_beq e];exact hj k hk
  ·obtain ⟨k,hk,e⟩:=List.any_eq_true.1 h;exact reach_listed hc f k i (hc k (hj k hk)) e
theorem ready_needs {l:Array Bool} {i:Nat}:i∈Region.ready .any ops l↔l.getD i true=false∧i<ops.size∧∀ e∈needs ops i,l.getD e false=true:=by
 rw [mem_ready];unfold needs;constructor
 ·rintro ⟨h0,o,ho,h⟩;refine ⟨h0,(Array.getElem?_eq_some_iff.1 ho).1,?_⟩;rw [ho];intro e he;simp only [Option.map_some,Option.getD_some,List.mem_map,List.mem_filter] at he;obtain ⟨x,⟨hx,hb⟩,rfl⟩:=he;exact h x (by simpa using hx) hb
 ·rintro ⟨h0,hi,h⟩;have ho:ops[i]?=some ops[i]:=Array.getElem?_eq_getElem hi;refine ⟨h0,_,ho,fun e he hb=>?_⟩;refine h e.on ?_;rw [ho];simp only [Option.map_some,Option.getD_some,List.mem_map,List.mem_filter];exact ⟨e,⟨by simpa using he,hb⟩,rfl⟩
def mask (N r:Nat):Array Bool:=Array.replicate N true ++ Array.replicate r false
def wide (l:Array Bool) (r:Nat):Array Bool:=l ++ Array.replicate r false
theorem wide_lt {l:Array Bool} {i:Nat} (d:Bool) (h:i<l.size):(wide l r).getD i d=l.getD i d:=by
 unfold wide;simp [Array.getD_eq_getD_getElem?,Array.getElem?_append_left h]
theorem wide_ge {l:Array Bool} {i:Nat} (h:l.size≤i):(wide l r).getD i false=false:=by
 unfold wide;rw [Array.getD_eq_getD_getElem?,Array.getElem?_append_right h,Array.getElem?_replicate];split<;>rfl
theorem wide_set {l:Array Bool} {i:Nat} (h:i<l.size):(wide l r).setIfInBounds i true=wide (l.setIfInBounds i true) r:=by
 unfold wide;rw [Array.setIfInBounds_append_left h]
def splits (ops:Array Oper) (N r:Nat):Bool :=
 (ops.size == N+r) && ((List.range (N+r)).all fun i=>(needs ops i).all (fun k=>decide (k<i)) && (((ops[i]?).map fun o=>match o.guard with|none=>true|some (g,_)=>decide (g<i)).getD true)) &&
  ((List.range r).all fun j=>(List.range N).all fun i=>reach ops (N+r) (N+j) i)
theorem wpOp_front {i:Nat} {o:Oper} {K K':Act→World→Prop} {k:Act→World→Prop} {a:Act} {w:World} (h1:fr[i]?=some o) (h2:ops[i]?=some o) (hg:∀ g b,o.guard=some (g,b)→fr[g]?=ops[g]?) (hK:∀ a w,K a w→K' a w)
  (h:wpOp P fr (Qfr Q k) i K a w):wpOp P ops Q i K' a w:=by
 unfold wpOp at *;simp only [h1,h2] at *;have hw:Region.wanted o (yielded fr a.tmps)=Region.wanted o (yielded ops a.tmps):=by
  unfold Region.wanted;cases ho:o.guard with
  | none=>rfl
  | some p=>obtain ⟨g,b⟩:=p;simp only [yielded,hg g b ho]
 rw [← hw];have hl:LetsOut (Qfr Q k)→LetsOut Q:=fun ⟨a,w,h⟩=>⟨a,w,h⟩;split
 ·rename_i hw'
  simp only [hw',if_true] at h;refine h.imp (fun h=>?_) (fun h=>⟨h.1,hl h.2⟩);unfold Oper.wp at *;generalize (execOp a.eval o).run P w=res at *;cases res with
  | ok n w' =>
   cases n<;>simp only [Oper.upon] at h ⊢
   case value=>exact hK _ _ h
   case skip=>exact hK _ _ h
   case defer=>exact hK _ _ h
   case enter f args =>
    refine Calls.mono h fun e w'' he=>?_;cases e with
    | returned u=>exact hK _ _ he
    | panicked c=>exact he
    | outgrown=>exact hl he
   case row row args=>exact Rows.mono h fun _ _ he=>hK _ _ he
  | halt x w'=>cases x<;>simp only [Oper.upon] at h ⊢<;>exact h
 ·rename_i hw'
  simp only [hw'] at h;exact hK _ _ h
theorem wpOp_back {i:Nat} {o:Oper} {K:Act→World→Prop} {k:Act→World→Prop} {a:Act} {w:World} (h1:fr[i]?=some o) (h2:ops[i]?=some o) (hg:∀ g b,o.guard=some (g,b)→fr[g]?=ops[g]?)
  (h:wpOp P ops Q i K a w):wpOp P fr (Qfr Q k) i K a w:=by
 unfold wpOp at *;simp only [h1,h2] at *;have hw:Region.wanted o (yielded fr a.tmps)=Region.wanted o (yielded ops a.tmps):=by
  unfold Region.wanted;cases ho:o.guard with
  | none=>rfl
  | some p=>obtain ⟨g,b⟩:=p;simp only [yielded,hg g b ho]
 rw [hw];have hl:LetsOut Q→LetsOut (Qfr Q k):=fun ⟨a,w,h⟩=>⟨a,w,h⟩;split
 ·rename_i hw'
  simp only [hw',if_true] at h;refine h.imp (fun h=>?_) (fun h=>⟨h.1,hl h.2⟩);unfold Oper.wp at *;generalize (execOp a.eval o).run P w=res at *;cases res with
  | ok n w' =>
   cases n<;>simp only [Oper.upon] at h ⊢
   case value=>exact h
   case skip=>exact h
   case defer=>exact h
   case enter f args =>
    refine Calls.mono h fun e w'' he=>?_;cases e with
    | returned u=>exact he
    | panicked c=>exact he
    | outgrown=>exact hl he
   case row row args=>exact Rows.mono h fun _ _ he=>he
  | halt x w'=>cases x<;>simp only [Oper.upon] at h ⊢<;>exact h
 ·rename_i hw'
  simp only [hw'] at h;exact h
theorem min_or_full (hA:∀ i,i<fr.size→∀ k∈needs fr i,k<i) (l:Array Bool) (hl:l.size=fr.size):(∀ i,i<fr.size→l.getD i false=true)∨∃ i,i<fr.size∧i∈Region.ready .any fr l:=by
 rcases Classical.em (∀ i,i<fr.size→l.getD i false=true) with h|h
 ·exact .inl h
 ·right;have:∃ i,i<fr.size∧l.getD i false=false:=by
   rcases Classical.em (∃ i,i<fr.size∧l.getD i false=false) with h'|h'
   ·exact h'
   ·exact absurd (fun i hi=>by
     cases e:l.getD i false
     ·exact absurd ⟨i,hi,e⟩ h'
     ·rfl) h
  obtain ⟨i,hi,e⟩:=this
  induction i using Nat.strongRecOn with
  | ind i ih =>
   rcases Classical.em (∀ e∈needs fr i,l.getD e false=true) with h'|h'
   ·refine ⟨i,hi,ready_needs.2 ⟨?_,by omega,h'⟩⟩;simp only [Array.getD_eq_getD_getElem?,Array.getElem?_eq_getElem (show i<l.size by omega),Option.getD_some] at e ⊢;exact e
   ·have:∃ k,k∈needs fr i∧l.getD k false=false:=by
     rcases Classical.em (∃ k,k∈needs fr i∧l.getD k false=false) with h2|h2
     ·exact h2
     ·exact absurd (fun k hk=>by
       cases e:l.getD k false
       ·exact absurd ⟨k,hk,e⟩ h2
       ·rfl) h'
    obtain ⟨k,hk,e'⟩:=this;have hlt:k<i:=hA i hi k hk;exact ih k hlt (by omega) e'
theorem countP_lt {p q:Nat→Bool} (h:∀ x,p x=true→q x=true) {i:Nat} (h1:q i=true) (h2:p i=false):∀ (l:List Nat),i∈l→l.countP p<l.countP q
 | [],hi=>by cases hi
 | x :: l,hi=>by
  have hle:l.countP p≤l.countP q:=List.countP_mono_left fun x _=>h x;rw [List.countP_cons,List.countP_cons];rcases List.mem_cons.1 hi with rfl|hi
  ·rw [h1,h2];simp;omega
  ·have:=countP_lt h h1 h2 l hi;have hx:=h x;cases hp:p x<;>cases hq:q x<;>simp_all<;>omega
def upd (f:Nat→Value) (i:Nat) (v:Value) (j:Nat):Value:=if j=i then v else f j
theorem wpAny_gather (mk:(Nat→Value)→Act) (V:Nat→Value→World→Prop) (D:Nat→Nat→Value→Value→Prop) (S:World→Prop) (R:World→World→Prop) (hA:∀ i,i<fr.size→∀ k∈needs fr i,k<i) (hV:∀ j v w w',V j v w→R w w'→V j v w')
  (hstep:∀ i,i<fr.size→∀ (f:Nat→Value) (w:World) (K:Act→World→Prop),S w→(∀ j∈needs fr i,V j (f j) w)→(∀ v w',S w'→R w w'→V i v w'→(∀ j u,V j u w→D i j v u)→K (mk (upd f i v)) w')→wpOp P fr Q i K (mk f) w)
  (hend:∀ (f:Nat→Value) (w:World),S w→(∀ i,i<fr.size→V i (f i) w)→(∀ i j,i<fr.size→j<fr.size→i≠j→D i j (f i) (f j)∨D j i (f j) (f i))→Q .normal (mk f) w) :
  ∀ (fuel:Nat) (l:Array Bool) (f:Nat→Value) (w:World),l.size=fr.size→(List.range fr.size).countP (fun i=>!l.getD i false)≤fuel→S w→(∀ i,i<fr.size→l.getD i false=true→V i (f i) w) →
   (∀ i j,i<fr.size→j<fr.size→i≠j→l.getD i false=true→l.getD j false=true→D i j (f i) (f j)∨D j i (f j) (f i))→wpAny P .any fr Q fuel l (mk f) w:=by
 have hfin:∀ (l:Array Bool) (f:Nat→Value) (w:World),(∀ i,i<fr.size→l.getD i false=true)→S w→(∀ i,i<fr.size→l.getD i false=true→V i (f i) w) →
   (∀ i j,i<fr.size→j<fr.size→i≠j→l.getD i false=true→l.getD j false=true→D i j (f i) (f j)∨D j i (f j) (f i))→Q .normal (mk f) w:=fun l f w hall hS hv hd =>
  hend f w hS (fun i hi=>hv i hi (hall i hi)) (fun i j hi hj hne=>hd i j hi hj hne (hall i hi) (hall j hj))
 intro fuel
 induction fuel with
 | zero =>
  intro l f w hl hc hS hv hd;have hall:∀ i,i<fr.size→l.getD i false=true:=fun i hi=>by
   have h0:(List.range fr.size).countP (fun i=>!l.getD i false)=0:=by omega
   have:=List.countP_eq_zero.1 h0 i (List.mem_range.2 hi);simpa using this
  refine ⟨List.eq_nil_iff_forall_not_mem.2 fun i hi=>?_,hfin l f w hall hS hv hd⟩;obtain ⟨g1,g2,-⟩:=ready_needs.1 hi;have:=hall i g2;simp only [Array.getD_eq_getD_getElem?,Array.getElem?_eq_getElem (show i<l.size by omega),Option.getD_some] at this g1;rw [g1] at this;cases this
 | succ fuel ih =>
  intro l f w hl hc hS hv hd;refine ⟨fun h0=>?_,fun i hi=>?_⟩
  ·rcases min_or_full hA l hl with h|⟨i,_,h⟩
   ·exact hfin l f w h hS hv hd
   ·rw [h0] at h;cases h
  ·obtain ⟨g1,g2,g3⟩:=ready_needs.1 hi;have g1':l.getD i false=false:=by
    simp only [Array.getD_eq_getD_getElem?,Array.getElem?_eq_getElem (show i<l.size by omega),Option.getD_some] at g1 ⊢;exact g1
   refine hstep i g2 f w _ hS (fun j hj=>hv j (by have:=hA i g2 j hj;omega) (g3 j hj)) (fun v w' hS' hR hVi hD=>?_);have hlist:∀ j,(l.setIfInBounds i true).getD j false=true→j=i∨(j≠i∧l.getD j false=true):=fun j hj=>by
    by_cases hji:j=i
    ·exact .inl hji
    ·rw [getD_set_ne false (Ne.symm hji)] at hj;exact .inr ⟨hji,hj⟩
   refine ih _ _ _ (by simp [hl]) ?_ hS' (fun j hj hlj=>?_) (fun j k hj hk hne hlj hlk=>?_)
   ·have:=countP_lt (p:=fun j=>!(l.setIfInBounds i true).getD j false) (q:=fun j=>!l.getD j false) (i:=i) (fun j hj=>by
     cases e:l.getD j false
     ·rfl
     ·rw [getD_set_true e] at hj;cases hj) (by simp only [g1'];rfl) (by simp [show i<l.size by omega]) (List.range fr.size) (List.mem_range.2 g2)
    omega
   ·rcases hlist j hlj with rfl|⟨hji,hlj⟩
    ·unfold upd;rw [if_pos rfl];exact hVi
    ·unfold upd;rw [if_neg hji];exact hV _ _ _ _ (hv j hj hlj) hR
   ·rcases hlist j hlj with rfl|⟨hji,hlj'⟩
    ·rcases hlist k hlk with rfl|⟨hki,hlk'⟩
     ·exact absurd rfl hne
     ·unfold upd;rw [if_pos rfl,if_neg hki];exact .inl (hD k _ (hv k hk hlk'))
    ·rcases hlist k hlk with rfl|⟨hki,hlk'⟩
     ·unfold upd;rw [if_pos rfl,if_neg hji];exact .inr (hD j _ (hv j hj hlj'))
     ·unfold upd;rw [if_neg hji,if_neg hki];exact hd j k hj hk hne hlj' hlk'
theorem wpAny_split (hs:splits ops N r=true) (hf:fr.size=N) (hpre:∀ i,i<N→fr[i]?=ops[i]?):∀ (f:Nat) (l:Array Bool) (a:Act) (w:World),l.size=N→Clo fr l →
  wpAny P .any fr (Qfr Q (wpAny P .any ops Q r (mask N r))) f l a w→wpAny P .any ops Q (f+r) (wide l r) a w:=by
 unfold splits at hs;simp only [Bool.and_eq_true,beq_iff_eq,List.all_eq_true,List.mem_range,decide_eq_true_eq] at hs;obtain ⟨⟨hM,hA⟩,hR⟩:=hs;have hneed:∀ i,i<N→needs fr i=needs ops i:=fun i hi=>by unfold needs;rw [hpre i hi]
 -- all listed,or one that is not listed may come up
 have hmin:∀ (l:Array Bool),l.size=N→(∀ i,i<N→l.getD i false=true)∨∃ i,i<N∧i∈Region.ready .any fr l:=fun l hl=>by
  rcases Classical.em (∀ i,i<N→l.getD i false=true) with h|h
  ·exact .inl h
  ·right;have:∃ i,i<N∧l.getD i false=false:=by
    rcases Classical.em (∃ i,i<N∧l.getD i false=false) with h'|h'
    ·exact h'
    ·exact absurd (fun i hi=>by
      cases e:l.getD i false
      ·exact absurd ⟨i,hi,e⟩ h'
      ·rfl) h
   obtain ⟨i,hi,e⟩:=this
   induction i using Nat.strongRecOn with
   | ind i ih =>
    rcases Classical.em (∀ e∈needs fr i,l.getD e false=true) with h'|h'
    ·refine ⟨i,hi,ready_needs.2 ⟨?_,by omega,h'⟩⟩;simp only [Array.getD_eq_getD_getElem?,Array.getElem?_eq_getElem (show i<l.size by omega),Option.getD_some] at e ⊢;exact e
    ·have:∃ k,k∈needs fr i∧l.getD k false=false:=by
      rcases Classical.em (∃ k,k∈needs fr i∧l.getD k false=false) with h2|h2
      ·exact h2
      ·exact absurd (fun k hk=>by
        cases e:l.getD k false
        ·exact absurd ⟨k,hk,e⟩ h2
        ·rfl) h'
     obtain ⟨k,hk,e'⟩:=this;have hlt:k<i:=(hA i (by omega)).1 k (by rw [← hneed i hi];exact hk);exact ih k hlt (by omega) e'
 have hfull:∀ (l:Array Bool),l.size=N→(∀ i,i<N→l.getD i false=true)→wide l r=mask N r:=fun l hl h=>by
  unfold wide mask
  congr 1
  apply Array.ext
  ·simp [hl]
  ·intro i h1 h2;have:=h i (by omega);simp only [Array.getD_eq_getD_getElem?,Array.getElem?_eq_getElem h1,Option.getD_some] at this;simp [this]
 intro f
 induction f with
 | zero =>
  intro l a w hl hc h;rcases hmin l hl with h1|⟨i,_,h1⟩
  ·rw [hfull l hl h1,Nat.zero_add];exact h.2
  ·rw [h.1] at h1;cases h1
 | succ f ih =>
  intro l a w hl hc h;rcases hmin l hl with h1|⟨i0,hi0,h1⟩
  ·have hr:Region.ready .any fr l=[]:=by
    refine List.eq_nil_iff_forall_not_mem.2 fun i hi=>?_;obtain ⟨g1,g2,-⟩:=ready_needs.1 hi;have:=h1 i (by omega);simp only [Array.getD_eq_getD_getElem?,Array.getElem?_eq_getElem (show i<l.size by omega),Option.getD_some] at this g1;rw [g1] at this;cases this
   rw [hfull l hl h1,show f+1+r=r+(f+1) by omega];exact wpAny_mores (h.1 hr) _
  ·have hcw:Clo ops (wide l r):=fun k hk e he=>by
    rcases Nat.lt_or_ge k N with hk'|hk'
    ·rw [wide_lt false (by omega)] at hk;have hlt:e<k:=(hA k (by omega)).1 e he;rw [wide_lt false (by omega)];exact hc k hk e (by rw [hneed k hk'];exact he)
    ·rw [wide_ge (by omega)] at hk;cases hk
   have hrd:∀ i,i∈Region.ready .any ops (wide l r)→i<N∧i∈Region.ready .any fr l:=fun i hi=>by
    obtain ⟨g1,g2,g3⟩:=ready_needs.1 hi;rcases Nat.lt_or_ge i N with hi'|hi'
    ·refine ⟨hi',ready_needs.2 ⟨by rw [wide_lt true (by omega)] at g1;exact g1,by omega,fun e he=>?_⟩⟩;rw [hneed i hi'] at he;have hlt:e<i:=(hA i (by omega)).1 e he;have:=g3 e he;rw [wide_lt false (by omega)] at this;exact this
    ·exfalso;have hall:∀ k,k<N→(wide l r).getD k false=true:=fun k hk=>reach_listed hcw (N+r) i k g3 (by have:=hR (i-N) (by omega) k hk;rw [show N+(i-N)=i by omega] at this;exact this);obtain ⟨q1,-,-⟩:=ready_needs.1 h1;have:=hall i0 hi0;rw [wide_lt false (by omega)] at this;simp only [Array.getD_eq_getD_getElem?,Array.getElem?_eq_getElem (show i0<l.size by omega),Option.getD_some] at this q1;rw [q1] at this;cases this
   have hin:i0∈Region.ready .any ops (wide l r):=by
    obtain ⟨q1,-,q3⟩:=ready_needs.1 h1;refine ready_needs.2 ⟨by rw [wide_lt true (by omega)];exact q1,by omega,fun e he=>?_⟩;have hlt:e<i0:=(hA i0 (by omega)).1 e he;rw [wide_lt false (by omega)];exact q3 e (by rw [hneed i0 hi0];exact he)
   rw [show f+1+r=(f+r)+1 by omega];refine ⟨fun h0=>(by rw [h0] at hin;cases hin),fun i hi=>?_⟩;obtain ⟨hiN,hi'⟩:=hrd i hi;have ho:ops[i]?=some ops[i]:=Array.getElem?_eq_getElem (show i<ops.size by omega);refine wpOp_front ((hpre i hiN).trans ho) ho (fun g b hgd=>?_) (fun a' w' h'=>?_) (h.2 i hi')
   ·have:=(hA i (by omega)).2;rw [ho] at this;simp only [Option.map_some,Option.getD_some,hgd,decide_eq_true_eq] at this;exact hpre g (by omega)
   ·rw [wide_set (by omega)];refine ih _ a' w' (by simp [hl]) ?_ h';intro k hk e he;obtain ⟨q1,-,q3⟩:=ready_needs.1 hi';by_cases hki:i=k
    ·subst hki;exact getD_set_true (q3 e he)
    ·rw [getD_set_ne false hki] at hk;exact getD_set_true (hc k hk e he)
theorem wp_region_front {id:Nat} {a:Act} {w:World} (N r:Nat) (fr:Array Oper) (S:World→Prop) (hm:P.follows .mixedOrders=true) (hs:splits ops N r=true) (hfr:fr=(ops.toList.take N).toArray) (hS:S w.drew)
  (h:S w.drew→wpAnyH P .any fr (Qfr Q (wpAny P .any ops Q r (mask N r))) S N (Array.replicate N false) a w.drew):(Code.region id ops true).wp P Q a w:=by
 refine wp_region_any hm ?_;have hs':=hs;unfold splits at hs;simp only [Bool.and_eq_true,beq_iff_eq] at hs;have hM:=hs.1.1;have hsz:fr.size=N:=by rw [hfr];simp;omega
 have hz:=wpAny_split (P:=P) (Q:=Q) hs' hsz (fun i hi=>by
  rw [hfr,List.getElem?_toArray,List.getElem?_take];simp [hi]) N (Array.replicate N false) a w.drew (by simp) (fun k hk=>by
   rw [Array.getD_eq_getD_getElem?,Array.getElem?_replicate] at hk;split at hk<;>cases hk) (wpAny_of_held _ _ _ _ (h hS))
 rw [hM];have e:wide (Array.replicate N false) r=Array.replicate (N+r) false:=by
  unfold wide;rw [Array.replicate_append_replicate]
 rw [e] at hz;exact hz
theorem wp_region_gather {id:Nat} {a:Act} {w:World} (N r:Nat) (mk:(Nat→Value)→Act) (f0:Nat→Value) (V:Nat→Value→World→Prop) (D:Nat→Nat→Value→Value→Prop) (S:World→Prop) (R:World→World→Prop) (hm:P.follows .mixedOrders=true) (hs:splits ops N r=true) (ha:mk f0=a) (hS:S w.drew) (hV:∀ j v w w',V j v w→R w w'→V j v w')
  (hstep:∀ i,i<N→∀ (f:Nat→Value) (w:World) (K:Act→World→Prop),S w→(∀ j∈needs ops i,V j (f j) w)→(∀ v w',S w'→R w w'→V i v w'→(∀ j u,V j u w→D i j v u)→K (mk (upd f i v)) w')→wpOp P ops Q i K (mk f) w)
  (hend:∀ (f:Nat→Value) (w:World),S w→(∀ i,i<N→V i (f i) w)→(∀ i j,i<N→j<N→i≠j→D i j (f i) (f j)∨D j i (f j) (f i))→wpAny P .any ops Q r (mask N r) (mk f) w):(Code.region id ops true).wp P Q a w:=by
 have hs':=hs;unfold splits at hs;simp only [Bool.and_eq_true,beq_iff_eq,List.all_eq_true,List.mem_range,decide_eq_true_eq] at hs;obtain ⟨⟨hM,hA⟩,-⟩:=hs;have hsz:((ops.toList.take N).toArray).size=N:=by simp;omega
 have hpre:∀ i,i<N→((ops.toList.take N).toArray)[i]?=ops[i]?:=fun i hi=>by
  rw [List.getElem?_toArray,List.getElem?_take];simp [hi]
 have hneed:∀ i,i<N→needs ((ops.toList.take N).toArray) i=needs ops i:=fun i hi=>by unfold needs;rw [hpre i hi]
 refine wp_region_any hm ?_;have hz:=wpAny_split (P:=P) (Q:=Q) hs' hsz hpre N (Array.replicate N false) a w.drew (by simp) (fun k hk=>by
  rw [Array.getD_eq_getD_getElem?,Array.getElem?_replicate] at hk;split at hk<;>cases hk) (by
   rw [← ha];refine wpAny_gather mk V D S R (fun i hi k hk=>?_) hV (fun i hi f w K h1 h2 h3=>?_) (fun f w h1 h2 h3=>?_) N (Array.replicate N false) f0 w.drew (by simp;omega) ?_ hS (fun i hi hl=>?_) (fun i j hi hj hne hl=>?_)
   ·rw [hsz] at hi;rw [hneed i hi] at hk;exact (hA i (by omega)).1 k hk
   ·rw [hsz] at hi;rw [hneed i hi] at h2;have h4:=hstep i hi f w K h1 h2 h3;have ho:ops[i]?=some ops[i]:=Array.getElem?_eq_getElem (show i<ops.size by omega);refine wpOp_back ((hpre i hi).trans ho) ho (fun g b hgd=>?_) h4;have:=(hA i (by omega)).2;rw [ho] at this;simp only [Option.map_some,Option.getD_some,hgd,decide_eq_true_eq] at this;exact hpre g (by omega)
   ·rw [hsz] at h2 h3;exact hend f w h1 h2 h3
   ·have:=List.countP_le_length (p:=fun i=>!(Array.replicate N false).getD i false) (l:=List.range ((ops.toList.take N).toArray).size);rw [List.length_range,hsz] at this;rw [hsz];exact this
   ·rw [Array.getD_eq_getD_getElem?,Array.getElem?_replicate] at hl;split at hl<;>cases hl
   ·rw [Array.getD_eq_getD_getElem?,Array.getElem?_replicate] at hl;split at hl<;>cases hl)
 rw [hM];have e:wide (Array.replicate N false) r=Array.replicate (N+r) false:=by
  unfold wide;rw [Array.replicate_append_replicate]
 rw [e] at hz;exact hz
end
end Go.Proofs.YtjajigkacccdgaaGreat
namespace Go.Proofs.YtjajigkacccdgaaGreat
open Go
open Go.RowKit
open Wd
structure Jn (P:Prop):Prop where
 out:P
theorem join_at {P Q:Prop} (h:Jn P→Q) (k:P):Q:=h ⟨k⟩
section
variable {P:Program} {ops:Array Oper} {Q:Exit→Act→World→Prop} {md:Region.Mode} {S:World→Prop}
theorem tq {oi:Oper} {v:Value} {a2:Act} {l2:Array Bool} {fuel:Nat} {listed:Array Bool} {a:Act} {w:World} (i:Nat) (h:wpAnyH P md ops Q S fuel l2 a2 w)
  (hi:ops[i]?=some oi:=by exact rfl)
  (hc:(Region.noSelect ops && (Region.free md ops listed i && (Region.ready md ops listed).contains i))=true:=by kernel_rfl)
  (hy:Region.wanted oi (yielded ops a.tmps)=true∧∀ w,S w→(execOp a.eval oi).run P w=.ok (.value v) w:=by (refine And.intro (by exact rfl) ?_;intro w hSw;(try dsimp only at hSw);(try simp only [p1,p2,p3]);go_simp;first|done|with_reducible rfl))
  (hQ:∀ c a w,Q (.panic c) (a.put oi.dst v) w→Q (.panic c) a w:=by exact fun _ _ _ h=>h)
  (hS:S w:=by assumption)
  (ha:a.put oi.dst v=a2:=by ((try simp only [Act.put,p1,p2,p3,p4,p5,p6]);exact rfl))
  (hl:listed.setIfInBounds i true=l2:=by ((try simp only [p4,p5,p6]);exact rfl)):wpAnyH P md ops Q S (fuel+1) listed a w:=by
 subst ha;subst hl;exact tkk i hi hc hQ (Or.inl hy) hS h
theorem tu {oi:Oper} {a2:Act} {l2:Array Bool} {fuel:Nat} {listed:Array Bool} {a:Act} {w:World} (i:Nat) (h:wpAnyH P md ops Q S fuel l2 a2 w)
  (hi:ops[i]?=some oi:=by exact rfl)
  (hc:(Region.noSelect ops && (Region.free md ops listed i && (Region.ready md ops listed).contains i))=true:=by kernel_rfl)
  (hy:Region.wanted oi (yielded ops a.tmps)=false:=by exact rfl)
  (hQ:∀ c a w,Q (.panic c) (a.put oi.dst undef) w→Q (.panic c) a w:=by exact fun _ _ _ h=>h)
  (hS:S w:=by assumption)
  (ha:a.put oi.dst undef=a2:=by ((try simp only [Act.put,p1,p2,p3,p4,p5,p6]);exact rfl))
  (hl:listed.setIfInBounds i true=l2:=by ((try simp only [p4,p5,p6]);exact rfl)):wpAnyH P md ops Q S (fuel+1) listed a w:=by
 subst ha;subst hl;exact tkk i hi hc hQ (Or.inr ⟨hy,rfl⟩) hS h
theorem rd1 {o:Oper} {fuel:Nat} {listed:Array Bool} {a:Act} {w:World} (i:Nat)
  (h:∀ K':Act→World→Prop,Shut (∀ a w,S w→(S w→wpAnyH P md ops Q S fuel (listed.setIfInBounds i true) a w)→K' a w)→if Region.wanted o (yielded ops a.tmps)=true then Oper.wp P o a w K' Q else K' (a.put o.dst undef) w)
  (hr:Region.ready md ops listed=[i]:=by kernel_rfl) (ho:ops[i]?=some o:=by exact rfl):wpAnyH P md ops Q S (fuel+1) listed a w :=
 wpAnyH_ready hr (by simp) (AllReadyH.cons ho h AllReadyH.nil)
theorem rd2 {o o':Oper} {fuel:Nat} {listed:Array Bool} {a:Act} {w:World} (i i':Nat)
  (h:∀ K':Act→World→Prop,Shut (∀ a w,S w→(S w→wpAnyH P md ops Q S fuel (listed.setIfInBounds i true) a w)→K' a w)→if Region.wanted o (yielded ops a.tmps)=true then Oper.wp P o a w K' Q else K' (a.put o.dst undef) w)
  (h':∀ K':Act→World→Prop,Shut (∀ a w,S w→(S w→wpAnyH P md ops Q S fuel (listed.setIfInBounds i' true) a w)→K' a w)→if Region.wanted o' (yielded ops a.tmps)=true then Oper.wp P o' a w K' Q else K' (a.put o'.dst undef) w)
  (hr:Region.ready md ops listed=[i,i']:=by kernel_rfl) (ho:ops[i]?=some o:=by exact rfl) (ho':ops[i']?=some o':=by exact rfl):wpAnyH P md ops Q S (fuel+1) listed a w :=
 wpAnyH_ready hr (by simp) (AllReadyH.cons ho h (AllReadyH.cons ho' h' AllReadyH.nil))
theorem held_at {C:World→Prop} {id:Nat} {a:Act} {W w:World} (hC:∀ w',Kp W w'→C w') (h0:Kp W w)
  (h:Hid (∀ w',Kp W w'→C w'∧Kp W w')→C w.drew∧Kp W w.drew→wpAnyH P .any ops Q (fun w'=>C w'∧Kp W w') ops.size (Array.replicate ops.size false) a w.drew) (hm:P.follows .mixedOrders=true:=by kernel_rfl):(Code.region id ops true).wp P Q a w :=
 wp_region_held_drew hm ⟨hC _ (Kp.drew h0),Kp.drew h0⟩ (fun hh=>h (Hj fun w' hk=>⟨hC w' hk,hk⟩) hh)
theorem held_front {C:World→Prop} {fr:Array Oper} {id:Nat} {a:Act} {W w:World} (N r:Nat) (hC:∀ w',Kp W w'→C w') (h0:Kp W w)
  (h:Hid (∀ w',Kp W w'→C w'∧Kp W w')→C w.drew∧Kp W w.drew→wpAnyH P .any fr (Qfr Q (wpAny P .any ops Q r (mask N r))) (fun w'=>C w'∧Kp W w') N (Array.replicate N false) a w.drew)
  (hm:P.follows .mixedOrders=true:=by kernel_rfl) (hs:splits ops N r=true:=by kernel_rfl) (hfr:(ops.toList.take N).toArray=fr:=by (simp only [List.toList_toArray,List.take_succ_cons,List.take_zero];exact rfl)):(Code.region id ops true).wp P Q a w :=
 wp_region_front N r fr (fun w'=>C w'∧Kp W w') hm hs hfr.symm ⟨hC _ (Kp.drew h0),Kp.drew h0⟩ (fun hh=>h (Hj fun w' hk=>⟨hC w' hk,hk⟩) hh)
end
def stCells (l:List (Int×Int)):List Value:=l.flatMap fun s=>[.int .i64 s.1,.int .i64 s.2]
theorem stCells_append (a b:List (Int×Int)):stCells (a ++ b)=stCells a ++ stCells b:=by simp [stCells]
theorem stCells_len (l:List (Int×Int)):(stCells l).length=l.length*2:=by
 induction l with
 | nil=>rfl
 | cons s l ih =>
  have:stCells (s :: l)=[.int .i64 s.1,.int .i64 s.2] ++ stCells l:=by simp [stCells]
  rw [this,List.length_append,ih];simp;omega
theorem stCells_get:∀ (l:List (Int×Int)) (j:Nat),j<l.length→(stCells l)[j*2]?=some (.int .i64 (l[j]?.getD (0,0)).1)∧(stCells l)[j*2+1]?=some (.int .i64 (l[j]?.getD (0,0)).2)
 | [],j,h=>absurd h (by simp)
 | s :: l,0,_=>by simp [stCells]
 | s :: l,j+1,h=>by
  have e:stCells (s :: l)=.int .i64 s.1 :: .int .i64 s.2 :: stCells l:=by simp [stCells]
  have ih:=stCells_get l j (by simpa using h);rw [e,show (j+1)*2=j*2+1+1 by omega,show j*2+1+1+1=(j*2+1)+1+1 by omega,List.getElem?_cons_succ,List.getElem?_cons_succ,List.getElem?_cons_succ,List.getElem?_cons_succ,List.getElem?_cons_succ];exact ih
theorem stCells_one (l:List (Int×Int)):∀ u∈stCells l,u.oneCell'=true:=by
 intro u hu;obtain ⟨s,_,h⟩:=List.mem_flatMap.1 hu;simp at h;rcases h with rfl|rfl<;>rfl
theorem Own.steps {base:Nat} {e:TypeId} {w:World} {A:Option Addr} {n c:Nat} {l:List (Int×Int)} (h:Own base e 2 w A n c (stCells l)) (hf:∀ s∈l,Fits s.1∧Fits s.2):StAt w A n l:=by
 have hl:l.length=n:=by have:=h.1;rw [stCells_len] at this;omega
 refine ⟨hl,hf,fun hn=>?_⟩;obtain ⟨g,cap,hv,hb,hlt⟩:=World.ownsRow.form h (by omega);simp at hv;obtain ⟨rfl,rfl⟩:=hv;have hcl:=stCells_len l;refine ⟨g,0,rfl,hlt,fun j hj=>?_⟩;obtain ⟨g1,g2⟩:=stCells_get l j (by omega);rw [Nat.zero_add,World.ownsRow.cellAt h (j*2) (by omega),World.ownsRow.cellAt h (j*2+1) (by omega)];exact ⟨g1,g2⟩
theorem info_step:(Tryz.prog.info? 107).map (fun i=>(i.zero,i.size,i.bytes))=some (some (.agg #[.int .i64 0,.int .i64 0]),2,16):=by kernel_rfl
def prs (xs:List Int):Nat→List (Int×Int)
 | 0=>[]
 | k+1=>prs xs k ++ [(xs[2*k]?.getD 0,xs[2*k+1]?.getD 0)]
theorem prs_fits {xs:List Int} (h:∀ i:Nat,Fits (xs[i]?.getD 0)):∀ k,∀ s∈prs xs k,Fits s.1∧Fits s.2
 | 0,s,hs=>by simp [prs] at hs
 | k+1,s,hs=>by
  rw [prs,List.mem_append] at hs;rcases hs with hs|hs
  ·exact prs_fits h k s hs
  ·simp at hs;rw [hs];exact ⟨h _,h _⟩
def tl (hs:List Int):Nat→Nat
 | 0=>0
 | k+1=>if hs[k]?.getD 0=0 then tl hs k else k+1
theorem tl_le (hs:List Int):∀ k,tl hs k≤k
 | 0=>Nat.le_refl _
 | k+1=>by
  have:=tl_le hs k;rw [tl];split<;>omega
theorem IsAt.take {w:World} {A:Option Addr} {n k:Nat} {us:List Int} (h:IsAt w A n us) (hk:k≤n):IsAt w A k (us.take k):=by
 refine ⟨by simp [h.1,hk],fun h0=>?_⟩;obtain ⟨b,o,e,hlt,hc⟩:=h.2 (by omega);exact ⟨b,o,e,hlt,fun j hj=>by rw [List.getElem?_take,if_pos hj];exact hc j (by omega)⟩
theorem info_int:(Tryz.prog.info? 3).map (fun i=>(i.zero,i.size,i.bytes))=some (some (.int .i64 0),1,8):=by kernel_rfl
theorem rtrim_at (A:Option Addr) (n c:Nat) (hs:List Int) (w:World) (h:IsAt w A n hs) (hnc:n≤c) (hn:n≤1000000000000) :
  Calls Tryz.prog 211 #[.slice A n c] w fun e w'=>∃ A1,e=.returned (.slice A1 (tl hs n) c)∧IsAt w' A1 (tl hs n) (hs.take (tl hs n))∧w'=w∧∀ b o,A=some ⟨b,o,none⟩→A1=some ⟨b,o,none⟩:=by
 have HX:=Hj h;have HE:∀ k,k≤n→∃ A1,(∀ W,(Instr.sliceAt 199 (.slice A n c) none (some (.int .i64 (k:Int))) none).run Tryz.prog W=.ok (.slice A1 k c) W)∧IsAt w A1 k (hs.take k)∧∀ b o,A=some ⟨b,o,none⟩→A1=some ⟨b,o,none⟩:=fun k hk=>by
  obtain ⟨ii,hii,_⟩:=info_parts info_int;obtain ⟨A1,h1,h2⟩:=slice_lo (P:=Tryz.prog) Tryz.underlying199 hii A n c k (by omega);refine ⟨A1,h1,⟨(h.take hk).1,fun h0=>?_⟩,h2⟩;obtain ⟨b,o,e,hh⟩:=(h.take hk).2 h0;exact ⟨b,o,h2 b o e,hh⟩
 have HSL:=Hj HE;clear h HE;go_enter Tryz.func211,Tryz.ntmps211
 go_wp2_with fail
 go_loopw [3] (fun t wr=>∃ k:Nat,k≤n∧t=.int .i64 k∧Hid (tl hs n=tl hs k)∧Hid (wr=w)) (fun t _=>(intOf t).toNat)
 case atStart=>exact ⟨n,Nat.le_refl _,rfl,rfl,by first|exact Hj rfl|exact Hj trivial⟩
 case round =>
  obtain ⟨k,hk,rfl,hR,hW⟩:=hrel;obtain rfl:=hW.out;by_cases h0:k=0
  ·subst h0;have hr:=hR.out;rw [tl] at hr;obtain ⟨A1,hsl,hI,hAA⟩:=HSL.out 0 (by omega);clear hAA;have HR:=Hj hr;have HI:=Hj hI;clear hr hI HSL hR;go_wp2;go_ret;rw [HR.out];exact ⟨A,rfl,HX.out.take (Nat.zero_le _),rfl,fun b o h=>h⟩
  ·obtain ⟨j,rfl⟩:∃ j,k=j+1:=⟨k-1,by omega⟩;obtain ⟨b,o,rfl,hb,hc⟩:=HX.out.2 (by omega);have cj:=hc j (by omega);have hr:=hR.out;rw [tl] at hr;have d1:decide ((0:Int)<(j:Int)+1)=true:=decide_eq_true (by omega);have xw:IntKind.i64.wrap ((j:Int)+1-1)=(j:Int):=by rw [show (j:Int)+1-1=(j:Int) by omega];exact IntWalk.i64_in _ (by omega)
   have xw2:IntKind.i64.wrap (j:Int)=(j:Int):=IntWalk.i64_in _ (by omega);have j1:(0:Int)≤(j:Int):=by omega
   have j2:(j:Int)<(n:Int):=by omega
   obtain ⟨A1,hsl,hI,hAA⟩:=HSL.out (j+1) (by omega);have HAA:=Hj hAA;clear hAA;generalize hs[j]?.getD 0=x at *;clear hc hR;by_cases hx:x=0
   ·subst hx;rw [if_pos rfl] at hr;have HR:=Hj hr;clear hr hI hsl;go_wp2;go_roundw
    case rel=>exact ⟨j,by omega,by go_num,HR.out,by first|exact Hj rfl|exact Hj trivial⟩
    case measure=>simp [intOf]
   ·rw [if_neg hx] at hr;have HR:=Hj hr;have HI:=Hj hI;have hxz:(x == 0)=false:=by simpa using hx
    have ej:((j+1:Nat):Int)=(j:Int)+1:=rfl;rw [ej] at hsl;clear hr hI hx;go_wp2;go_ret;rw [HR.out];exact ⟨A1,rfl,HI.out,rfl,by first|exact HAA.out|exact HAA.out _ _ rfl⟩
theorem rtrim_any (A:Option Addr) (n c:Nat) (hs:List Int) (w:World) (h:IsAt w A n hs) (hnc:n≤c) (hn:n≤1000000000000) :
  Calls Tryz.prog 211 #[.slice A n c] w fun e w'=>∃ A1,e=.returned (.slice A1 (tl hs n) c)∧IsAt w' A1 (tl hs n) (hs.take (tl hs n))∧w'=w :=
 (rtrim_at A n c hs w h hnc hn).mono fun e w' ⟨A1,h1,h2,h3,_⟩=>⟨A1,h1,h2,h3⟩
theorem rat_any (A:Option Addr) (n c i:Nat) (hs:List Int) (w:World) (h:IsAt w A n hs) :
  Calls Tryz.prog 212 #[.slice A n c,.int .i64 i] w fun e w'=>e=.returned (.int .i64 (hs[i]?.getD 0))∧w'=w:=by
 by_cases hi:i<n
 ·obtain ⟨b,o,rfl,hb,hc⟩:=h.2 (by omega);have ci:=hc i hi;have i1:(0:Int)≤(i:Int):=by omega
  have i2:(i:Int)<(n:Int):=by omega
  generalize hs[i]?.getD 0=x at *;clear h hc;go_enter Tryz.func212,Tryz.ntmps212;go_wp2;go_ret;exact ⟨rfl,rfl⟩
 ·have e:hs[i]?.getD 0=0:=by rw [List.getElem?_eq_none (by rw [h.1];omega)];rfl
  have d1:decide ((i:Int)<(n:Int))=false:=by simp;omega
  rw [e];clear e h;go_enter Tryz.func212,Tryz.ntmps212;go_wp2;go_ret;exact ⟨rfl,rfl⟩
def halvesL (l:List Nat):List Int:=l.flatMap fun d:Nat=>[((d:Nat):Int) % 65536,((d:Nat):Int) / 65536]
theorem halvesL_len (l:List Nat):(halvesL l).length=2*l.length:=by
 induction l with
 | nil=>rfl
 | cons d l ih =>
  unfold halvesL at *;rw [List.flatMap_cons,List.length_append,ih,List.length_cons];simp;omega
theorem halvesL_snoc {l:List Nat} {i:Nat} (hi:i<l.length):halvesL (l.take (i+1))=halvesL (l.take i) ++ [((l[i]?.getD 0:Nat):Int) % 65536,((l[i]?.getD 0:Nat):Int) / 65536]:=by
 have e:l.take (i+1)=l.take i ++ [l[i]?.getD 0]:=by rw [List.take_add_one,List.getElem?_eq_getElem hi];rfl
 unfold halvesL;rw [e,List.flatMap_append];simp
theorem two_one {a b:Int}:∀ u∈(#[.int .i64 a,.int .i64 b]:Array Value).toList,u.oneCell'=true:=by
 intro u hu;simp at hu;rcases hu with rfl|rfl<;>rfl
theorem rhalves_any (A:Option Addr) (n c:Nat) (l:List Nat) (w:World) (h:Wat w A n l) (hn:n≤100000000000) :
  Calls Tryz.prog 186 #[.slice A n c] w fun e w'=>∃ A1 c1,e=.returned (.slice A1 (tl (halvesL l) (2*n)) c1)∧IsAt w' A1 (tl (halvesL l) (2*n)) ((halvesL l).take (tl (halvesL l) (2*n)))∧Below w.heap.size w w'∧tl (halvesL l) (2*n)≤c1:=by
 have HW:=Hj h;obtain ⟨ii,hii,hz0,hz1,hz2⟩:=info_parts info_int;have HI:=Hj hii;have HZ0:=Hj hz0;have HZ1:=Hj hz1;have HZ2:=Hj hz2;clear h hii hz0 hz1 hz2;go_enter Tryz.func186,Tryz.ntmps186
 go_wp2_with fail
 go_loopw [3,4] (fun th t wr=>∃ (i:Nat) (Ah:Option Addr) (ch:Nat),i≤n∧t=.int .i64 i∧th=.slice Ah (2*i) ch∧Hid (Below w.heap.size w wr∧Own w.heap.size 3 1 wr Ah (2*i) ch ((halvesL (l.take i)).map (Value.int .i64)))) (fun _ t _=>n-(intOf t).toNat)
 case atStart=>exact ⟨0,none,0,Nat.zero_le _,rfl,rfl,Below.refl _ _,by rw [List.take_zero];exact Own.nil _ _ _ _⟩
 case round =>
  obtain ⟨i,Ah,ch,hi,rfl,rfl,hR⟩:=hrel;by_cases hlt:i<n
  ·obtain ⟨hB,hO⟩:=hR.out;obtain ⟨b,o,rfl,hb,hc⟩:=HW.out.2.2 (by omega);have hci:=hc i hlt;have cx:=(hB.cell (p:=⟨b,o+i,none⟩) hb).trans hci;have hsn:=halvesL_snoc (l:=l) (i:=i) (by rw [HW.out.1];exact hlt);have hd:=HW.out.2.1.get i;generalize l[i]?.getD 0=d at *;have hbr:b<wr.heap.size:=Nat.lt_of_lt_of_le hb hB.size;have q0:=hB;have k1:=(Kp.refl wr).alloc (.cells #[.int .i64 ((d:Int) % 65536),.int .i64 ((d:Int) / 65536)] 3);have q1:Below w.heap.size w (wr.alloc (.cells #[.int .i64 ((d:Int) % 65536),.int .i64 ((d:Int) / 65536)] 3)):=hB.trans (Below.mono k1 hB.size);have o1:=hO.keep k1;have m1:=Blk.new wr 3 #[.int .i64 ((d:Int) % 65536),.int .i64 ((d:Int) / 65536)];have hS:∀ w',Below w.heap.size w w'→w'.cell? ⟨b,o+i,none⟩=some (.int .u32 (d:Int))∧Below w.heap.size w w':=fun w' hk=>⟨(hk.cell (p:=⟨b,o+i,none⟩) hb).trans hci,hk⟩;have HS:=Hj hS;have i1:(0:Int)≤(i:Int):=by omega
   have i2:(i:Int)<(n:Int):=by omega
   have HSN:=Hj hsn;have e1:((d:Int)).tmod 65536=(d:Int) % 65536:=Int.tmod_eq_emod_of_nonneg (by omega);have e2:IntKind.i64.wrap ((d:Int) % 65536)=(d:Int) % 65536:=IntWalk.i64_in _ (by omega);have e3:IntKind.u32.wrap ((d:Int) / 65536)=(d:Int) / 65536:=by rw [IntKind.wrap_u32];omega
   have e4:IntKind.i64.wrap ((d:Int) / 65536)=(d:Int) / 65536:=IntWalk.i64_in _ (by omega);clear hS hc hsn hR cx hci
   go_wp2_with fail
   go_region_held3 (fun w'=>w'.cell? ⟨b,o+i,none⟩=some (.int .u32 (d:Int))∧Below w.heap.size w w')
    (first|exact HS.out _ g1|exact HS.out _ q0.drew|exact HS.out _ q1.drew)
    (first
     | (refine step_append_my (base:=w.heap.size) (e:=3) (size:=1) (bytes:=8) (by rfl) (.tmp 11) (.tmp 24) 199 rfl Tryz.underlying199 HI.out HZ0.out HZ1.out HZ2.out rfl (by decide) (xs:=(halvesL (l.take i)).map (Value.int .i64)) (news:=[.int .i64 ((d:Int) % 65536),.int .i64 ((d:Int) / 65536)]) rfl (by exact o1) rfl (by exact Blk.src m1 rfl two_one) (by simp only [maxLen];omega) (by omega) (Below.size (w:=w) (B:=w.heap.size) (by exact q1.drew)) ?_
        intro B1 cb1 w1 hO1 hb1 hk1;have g1:Below w.heap.size w w1:=Below.trans (by exact q1.drew) hb1;clear hb1 hk1))
   have hfin:Below w.heap.size w w1∧Own w.heap.size 3 1 w1 B1 (2*(i+1)) cb1 ((halvesL (l.take (i+1))).map (Value.int .i64)):=by
    refine ⟨g1,?_⟩;rw [HSN.out,List.map_append,show 2*(i+1)=2*i+2 by omega];exact hO1
   have HF:=Hj hfin;clear hfin g1 hO1;go_wp2;go_roundw
   case rel=>exact ⟨i+1,B1,cb1,by omega,by go_num,by rw [show 2*(i+1)=2*i+2 by omega],HF.out⟩
   case measure=>simp [intOf];omega
  ·obtain rfl:i=n:=by omega
   obtain ⟨hB,hO⟩:=hR.out;rw [List.take_of_length_le (by rw [HW.out.1];exact Nat.le_refl _)] at hO;have hle:2*i≤ch:=by
    rcases hO.2 with ⟨h7,h8⟩|⟨g',cap',cur',h7,_,_,h8,_⟩
    ·omega
    ·simp at h7;omega
   have T:=rtrim_any Ah (2*i) ch (halvesL l) wr hO.ints hle (by omega);have HT:=Hj T;have HB:=Hj hB;clear hR hB hO T
   go_wp2_with fail
   refine HT.out.mono ?_;rintro e w1 ⟨A1,rfl,hI,rfl⟩;have HI2:=Hj hI;clear hI HT;go_wp2;go_ret;exact ⟨A1,ch,rfl,HI2.out,HB.out,Nat.le_trans (tl_le _ _) hle⟩
end Go.Proofs.YtjajigkacccdgaaGreat
