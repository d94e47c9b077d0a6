/-
Lemmas of the walk; no further conditions.
-/
import Derived.Shelf.GgSortFunc.Whole
import Derived.Test.YtjajigkacccdgaaGreatTgAY
import Derived.WalkMore
set_option linter.unusedVariables false
set_option linter.unusedSimpArgs false
set_option maxRecDepth 100000
set_option maxHeartbeats 16000000
namespace Go.Proofs.YtjajigkacccdgaaGreat
open Go.Shelf Go.RowKit Go.Lib Go.Sort
open Wd
def encI (x:Int):Value:=.int .i64 x
noncomputable def iT:TypeInfo:=(Tryz.prog.info? 62).get (by kernel_rfl)
noncomputable def iE:TypeInfo:=(Tryz.prog.info? 2).get (by kernel_rfl)
theorem iK (n:Nat) (h2:2≤n):Lib.swapperK n iE 6=5:=by
 have a:iE.hasPointers=false:=by kernel_rfl
 have b:iE.bytes=8:=by kernel_rfl
 have c:(n == 0)=false:=by simp;omega
 have d:(n == 1)=false:=by simp;omega
 simp [Lib.swapperK,a,b,c,d]
def ltI (a b:Int):Bool:=decide (a<b)
theorem swo_ltI:SWO ltI where
 irrefl:=by intro a;simp [ltI]
 trans:=by intro a b c h1 h2;simp [ltI] at *;omega
 ntrans:=by intro a b c h1 h2;simp [ltI] at *;omega
theorem grow_i (w:World) (n blk:Nat) (d:Array Int) (os:Array Obj):w.grownBy (grow (putRow encI (Sort.ahead w n) blk 0 d) os) (some blk):=by
 refine ⟨rfl,rfl,rfl,?_,fun k hk hne=>?_⟩
 ·simp [grow,putRow,mapBlock]
 ·have hkb:blk≠k:=fun e=>hne (by rw [e]);have e:(putRow encI (Sort.ahead w n) blk 0 d).heap[k]?=w.heap[k]?:=by simp only [putRow,mapBlock,Array.getElem?_modify,if_neg hkb];rfl
  rw [← e];simp only [grow];rw [Array.getElem?_append_left];simpa [putRow,mapBlock] using hk
theorem less_ints (blk c Bs size:Nat) (W:World) (G:Nat→Int) (hs:W.cell? ⟨Bs,0,none⟩=some (.slice (some ⟨blk,0,none⟩) size c))
  (hc:∀ t,t<size→W.cell? ⟨blk,t,none⟩=some (.int .i64 (G t))) (i j:Nat) (hi:i<size) (hj:j<size) (_hsz:size<4611686018427387904) :
  Calls Tryz.prog 149 #[.int .i64 i,.int .i64 j,.pointer (some ⟨Bs,0,none⟩)] W fun e w'=>e=.returned (.bool (decide (G i<G j)))∧∃ q,w'=W.drewN q:=by
 have ci:=hc i hi;have cj:=hc j hj;clear hc;go_enter Tryz.func149,Tryz.ntmps149;go_wp2
 go_quiet (fail)
 rename Nat=>n1
 go_wp2;go_ret;exact ⟨rfl,n1,rfl⟩
theorem sort_ints (blk c Bs:Nat) (ps:List Int) (w:World) (hH:Holds encI w blk 0 ps.toArray) (hblk:blk<w.heap.size) (hBs:w.cell? ⟨Bs,0,none⟩=some (.slice (some ⟨blk,0,none⟩) ps.length c)) (hB1:Bs<w.heap.size) (hB2:Bs≠blk) (hsz:ps.length<4611686018427387904) :
  Calls Tryz.prog 71 #[.iface 62 (.slice (some ⟨blk,0,none⟩) ps.length c),.func (.func 149) #[] #[.pointer (some ⟨Bs,0,none⟩)]] w fun e w' =>
   e=.returned (.tuple #[])∧∃ ps':List Int,ps'.Perm ps∧ps'.Pairwise (fun a b=>ltI b a=false)∧Holds encI w' blk 0 ps'.toArray∧w.grownBy w' (some blk):=by
 by_cases h2:2≤ps.length
 ·have hless:LessReads Tryz.prog 149 #[.pointer (some ⟨Bs,0,none⟩)] encI ltI blk 0 ps.toArray.size w:=by
   intro m os dk hs i j hi hj;have e:sortWorld encI w blk 0 m dk os=putRow encI (grow (Sort.ahead w m) os) blk 0 dk:=by
    unfold sortWorld;rw [putRow_grow _ (Sort.ahead w m) _ blk 0 _ hblk]
   have hHg:Holds encI (grow (Sort.ahead w m) os) blk 0 ps.toArray:=holds_grow _ _ _ blk 0 _ hblk (holds_ahead _ _ _ _ _ _ hH);have hHd:=holds_putRow _ _ blk 0 ps.toArray dk hHg hs;refine less_ints blk c Bs ps.toArray.size _ (fun t=>dk[t]!) ?_ (fun t ht=>?_) i j hi hj (by simpa using hsz)
   ·rw [e,cell?_putRow_other _ _ blk 0 dk _ (Or.inl (by exact hB2)),cell?_grow _ _ _ (by exact hB1)];simpa using hBs
   ·rw [e];have:=(hHd t (by omega)).1;rw [Nat.zero_add] at this;exact this
  have hS:=Any.sort_Slice_sorted Tryz.laysGg6 62 2 iT iE (by kernel_rfl) (by kernel_rfl) (by kernel_rfl) (by kernel_rfl) 6 (fun _=>by kernel_rfl) (by kernel_rfl) (fun _=>by kernel_rfl) encI (fun _=>rfl) ltI swo_ltI 149 _
   (enters_of Tryz.func149 (by kernel_rfl) rfl) blk 0 c ps.toArray (by simpa using h2) (by simpa using hsz) 162 (by rw [iK _ (by simpa using h2)];kernel_rfl) true
   (fun args W=>run_callFunc_extern Tryz.func162 (by kernel_rfl) (by kernel_rfl) (by kernel_rfl) (e:=Extern.ReflectliteSwapper.swap true) (by kernel_rfl) args W) w hless hH hblk
  have hz:ps.toArray.size=ps.length:=by simp
  rw [hz] at hS
  change Calls Tryz.prog 71 _ _ _ at hS
  refine hS.mono ?_;rintro e w' ⟨rfl,d',n',os,hp,hso,rfl⟩;obtain ⟨p1,_,p3⟩:=hp;have hd:d'.size=ps.length:=by simpa using p1
  refine ⟨rfl,d'.toList,?_,?_,?_,grow_i w n' blk d' os⟩
  ·have e1:d'.extract 0 ps.length=d':=by rw [← hd];simp
   have e2:ps.toArray.extract 0 ps.length=ps.toArray:=by rw [← hz];simp
   rw [e1,e2] at p3;simpa using p3
  ·rw [List.pairwise_iff_getElem];intro i j hi hj hij;have:=hso i j (Nat.zero_le _) hij (by simpa [hd] using hj);have hi':i<d'.size:=by simpa using hi
   have hj':j<d'.size:=by simpa using hj
   simpa [hi',hj'] using this
  ·have:=holds_putRow encI (Sort.ahead w n') blk 0 ps.toArray d' (holds_ahead _ _ _ _ _ _ hH) (by simpa using p1);simpa using holds_grow encI _ os blk 0 _ (by simpa [putRow,mapBlock] using hblk) this
 ·have ht:∀ f,Tryz.prog.funcs.findIdx? (·.name =="internal/reflectlite" ++".Swapper$" ++ toString (Lib.swapperK ps.length iE 6))=some f→_:=fun f hf =>
   Any.sort_Slice_tiny Tryz.laysGg6 62 2 iT iE (by kernel_rfl) (by kernel_rfl) (by kernel_rfl) (by kernel_rfl) 6 (fun _=>by kernel_rfl) (some ⟨blk,0,none⟩) ps.length c (by omega) f hf (.func 149) #[] #[.pointer (some ⟨Bs,0,none⟩)] w
  have hfin:Calls Tryz.prog 71 #[.iface 62 (.slice (some ⟨blk,0,none⟩) ps.length c),.func (.func 149) #[] #[.pointer (some ⟨Bs,0,none⟩)]] w fun e w'=>e=.returned (.tuple #[])∧∃ os,w'=grow w os:=by
   rcases Nat.lt_or_ge ps.length 1 with h0|h1
   ·have e0:ps.length=0:=by omega
    exact ht 158 (by rw [e0];kernel_rfl)
   ·have e1:ps.length=1:=by omega
    exact ht 159 (by rw [e1];kernel_rfl)
  refine hfin.mono ?_;rintro e w' ⟨rfl,os,rfl⟩;refine ⟨rfl,ps,List.Perm.refl _,?_,holds_grow encI w os blk 0 _ hblk hH,⟨rfl,rfl,rfl,by simp [grow],fun k hk _=>by simp only [grow];rw [Array.getElem?_append_left hk]⟩⟩
  match ps,h2 with
  | [],_=>exact List.Pairwise.nil
  | [x],_=>exact List.pairwise_singleton _ _
  | _ :: _ :: _,h=>exact absurd (by simp) h
end Go.Proofs.YtjajigkacccdgaaGreat
namespace Go.Proofs.YtjajigkacccdgaaGreat
open Go.RowKit
open Go.Sort (Holds)
open Wd
def absI (p:Int):Int:=if p<0 then -p else p
def absL (l:List (Int×Int)):List Int:=l.map fun s=>absI s.2
def absS (ls:List (List (Int×Int))):List Int:=ls.flatMap absL
def dists (os bs:List (List (Int×Int))):List Int:=0 :: (absS os ++ absS bs)
theorem absS_snoc {ls:List (List (Int×Int))} {k:Nat} (hk:k<ls.length):absS (ls.take (k+1))=absS (ls.take k) ++ absL (ls[k]?.getD []):=by
 have e:ls.take (k+1)=ls.take k ++ [ls[k]?.getD []]:=by rw [List.take_add_one,List.getElem?_eq_getElem hk];rfl
 unfold absS;rw [e,List.flatMap_append];simp
theorem absL_snoc {l:List (Int×Int)} {k:Nat} (hk:k<l.length):absL (l.take (k+1))=absL (l.take k) ++ [absI (l[k]?.getD (0,0)).2]:=by
 unfold absL;rw [take_snocS hk,List.map_append]
 rfl
theorem absL_len (l:List (Int×Int)):(absL l).length=l.length:=by simp [absL]
theorem absS_len:∀ (ls:List (List (Int×Int))),(∀ l∈ls,l.length≤3)→(absS ls).length≤3*ls.length
 | [],_=>by simp [absS]
 | l :: ls,h=>by
  have h1:=h l (List.mem_cons_self ..);have h2:=absS_len ls fun y hy=>h y (List.mem_cons_of_mem _ hy);have e:absS (l :: ls)=absL l ++ absS ls:=by simp [absS]
  rw [e,List.length_append,absL_len,List.length_cons];omega
theorem Own.side {base:Nat} {e t:TypeId} {size:Nat} {w:World} {A:Option Addr} {n c:Nat} {xs:List Value} {g:Nat} {cs:Array Value} (h:Own base e size w A n c xs) (hb:Blk w g t cs) (hne:t≠e) (i:Nat) (v:Value):Own base e size (w.setCell ⟨g,i,none⟩ v) A n c xs:=by
 refine ⟨h.1,?_⟩;rcases h.2 with h2|⟨g',cap,cur,h2,h3,h4,h5⟩
 ·exact Or.inl h2
 ·refine Or.inr ⟨g',cap,cur,h2,h3,Blk.far (t:=e) (cs:=cur) h4 (fun e9=>?_) v,h5⟩;simp only at e9;subst e9;unfold Blk at hb;rw [hb] at h4;simp at h4;exact hne h4.2
theorem Kept.side {w w':World} {A:Option Addr} {base:Nat} {e t:TypeId} {size n c:Nat} {xs:List Value} {g:Nat} {cs:Array Value} (h:Own base e size w A n c xs) (hb:Blk w g t cs) (hne:t≠e) (hk:Kept w w' A):Blk w' g t cs:=by
 refine hk.blk hb fun hA=>?_;rcases h.2 with ⟨h6,_⟩|⟨g',cap',cur',h6,_,h7,_⟩
 ·simp at h6;rw [h6.1] at hA;simp at hA
 ·simp at h6;rw [h6.1] at hA;simp at hA;subst hA;unfold Blk at hb;rw [hb] at h7;simp at h7;exact hne h7.2
def PrZ (os bs:List (List (Int×Int))) (p:Int):Prop :=
 (absI p∈dists os bs∧balB os bs ((p:Int):Rat)=true∧(∀ d∈dists os bs,d<absI p→balB os bs ((d:Int):Rat)=false∧balB os bs ((-d:Int):Rat)=false)∧(p<0→balB os bs ((-p:Int):Rat)=false)) ∨
  (p=0∧∀ d∈dists os bs,balB os bs ((d:Int):Rat)=false∧balB os bs ((-d:Int):Rat)=false)
theorem dists_nonneg {os bs:List (List (Int×Int))} {d:Int} (h:d∈dists os bs):0≤d:=by
 have key:∀ ls:List (List (Int×Int)),d∈absS ls→0≤d:=fun ls hm=>by
  obtain ⟨l,_,hd⟩:=List.mem_flatMap.1 hm;obtain ⟨s,_,rfl⟩:=List.mem_map.1 hd;unfold absI;split<;>omega
 rcases List.mem_cons.1 h with rfl|h
 ·omega
 ·rcases List.mem_append.1 h with h|h
  ·exact key os h
  ·exact key bs h
def PassK (os bs:List (List (Int×Int))) (ps:List Int) (k:Nat):Prop:=∀ j,j<k→balB os bs (((ps[j]?.getD 0:Int)):Rat)=false∧balB os bs ((-(ps[j]?.getD 0):Int):Rat)=false
theorem pass_found {os bs:List (List (Int×Int))} {ps:List Int} {k:Nat} {p:Int} (hp:ps.Perm (dists os bs)) (hs:ps.Pairwise (fun a b=>ltI b a=false)) (hk:k<ps.length) (h:PassK os bs ps k) (hb:balB os bs ((p:Int):Rat)=true)
  (hx:p=ps[k]?.getD 0∨(p = -(ps[k]?.getD 0)∧balB os bs (((ps[k]?.getD 0:Int)):Rat)=false)):PrZ os bs p:=by
 have hm:ps[k]?.getD 0∈dists os bs:=hp.mem_iff.1 (getD_mem hk);have h0:=dists_nonneg hm;have hab:absI p=ps[k]?.getD 0:=by
  unfold absI;rcases hx with rfl|⟨rfl,_⟩<;>split<;>omega
 refine Or.inl ⟨by rw [hab];exact hm,hb,fun d hd hlt=>?_,fun hn=>?_⟩
 ·obtain ⟨j,hj,e⟩:=List.getElem_of_mem (hp.mem_iff.2 hd);rw [hab] at hlt;have hjk:j<k:=by
   rcases Nat.lt_or_ge j k with h9|h9
   ·exact h9
   ·exfalso;rcases Nat.eq_or_lt_of_le h9 with h8|h8
    ·subst h8;rw [List.getElem?_eq_getElem hk] at hlt;simp at hlt;omega
    ·have:=List.pairwise_iff_getElem.1 hs k j hk hj h8;simp [ltI] at this;rw [List.getElem?_eq_getElem hk] at hlt;simp at hlt;omega
  have:=h j hjk;rw [List.getElem?_eq_getElem hj] at this;simp only [Option.getD_some] at this;rw [e] at this;exact this
 ·rcases hx with rfl|⟨rfl,h9⟩
  ·omega
  ·rw [Int.neg_neg];exact h9
theorem pass_none {os bs:List (List (Int×Int))} {ps:List Int} (hp:ps.Perm (dists os bs)) (h:PassK os bs ps ps.length):PrZ os bs 0:=by
 refine Or.inr ⟨rfl,fun d hd=>?_⟩;obtain ⟨j,hj,e⟩:=List.getElem_of_mem (hp.mem_iff.2 hd);have:=h j hj;rw [List.getElem?_eq_getElem hj] at this;simp only [Option.getD_some] at this;rw [e] at this;exact this
theorem Own.holdsI {base:Nat} {w:World} {g cap:Nat} {xs:List Int} (h:Own base 2 1 w (some ⟨g,0,none⟩) xs.length cap (xs.map (Value.int .i64))) (h0:xs.length≠0):Holds encI w g 0 xs.toArray∧g<w.heap.size∧∀ t cs g',Blk w g' t cs→t≠2→g'≠g:=by
 obtain ⟨g',cap',cur,hv,hb,hg⟩:∃ g' cap' cur,(Value.slice (some ⟨g,0,none⟩) xs.length cap)=.slice (some ⟨g',0,none⟩) xs.length cap'∧base≤g'∧w.heap[g']?=some (.cells cur 2 (0,0)):=by
  rcases h.2 with ⟨h7,_⟩|⟨g',cap',cur',h7,h8,h9,_⟩
  ·simp at h7
  ·exact ⟨g',cap',cur',h7,h8,h9⟩
 simp at hv;obtain ⟨rfl,rfl⟩:=hv;refine ⟨fun j hj=>?_,(Array.getElem?_eq_some_iff.1 hg).1,fun t cs g' hb' hne e=>?_⟩
 ·have hj':j<xs.length:=by simpa using hj
  rw [Nat.zero_add,World.ownsRow.cellAt h j (by omega)];refine ⟨?_,Blk.frozen (t:=2) hg _⟩;simp [hj',encI]
 ·subst e;unfold Blk at hb';rw [hg] at hb';simp at hb';exact hne hb'.2.symm
def DiR (w:World) (A B:Option Addr) (n c m d:Nat) (g5 gS:Nat) (xs:List Int) (wr:World):Prop :=
 Below w.heap.size w wr∧Blk wr gS 22 #[.slice A n c,.slice B m d]∧∃ Ah ch,Blk wr g5 62 #[.slice Ah xs.length ch]∧Own w.heap.size 2 1 wr Ah xs.length ch (xs.map (Value.int .i64))∧w.heap.size≤g5
theorem cprice_any (A B:Option Addr) (n c m d:Nat) (os bs:List (List (Int×Int))) (w:World) (h:CsAt w A n os) (h':CsAt w B m bs) (ho:∀ l∈os,chk true l=0) (hb:∀ l∈bs,chk false l=0) (hn:n≤5) (hm:m≤6) :
  Calls Tryz.prog 108 #[.slice A n c,.slice B m d] w fun e w'=>∃ p,e=.returned (.int .i64 p)∧PrZ os bs p∧Below w.heap.size w w':=by
 have hsd:∀ s,s<2→∃ A' n' c' ls',(#[Value.slice A n c,.slice B m d]:Array Value)[s]?=some (.slice A' n' c')∧CsAt w A' n' ls'∧n'≤6∧(∀ l∈ls',l.length≤3∧∀ s∈l,¬ Bad s.1 s.2)∧ls'=([os,bs]:List _)[s]?.getD []:=fun s hs=>by
  obtain rfl|rfl:s=0∨s=1:=by omega
  ·exact ⟨A,n,c,os,rfl,h,by omega,fun l hl=>⟨(chk_ok (ho l hl)).2.1,(chk_ok (ho l hl)).2.2.2⟩,rfl⟩
  ·exact ⟨B,m,d,bs,rfl,h',by omega,fun l hl=>⟨(chk_ok (hb l hl)).2.1,(chk_ok (hb l hl)).2.2.2⟩,rfl⟩
 have HSD:=Hj hsd;obtain ⟨ii,hii,hz0,hz1,hz2⟩:=info_parts info_int64;have HI:=Hj hii;have HZ0:=Hj hz0;have HZ1:=Hj hz1;have HZ2:=Hj hz2;have HX:=Hj h;have HY:=Hj h';have HO:=Hj ho;have HB:=Hj hb;clear h h' ho hb hsd hii hz0 hz1 hz2;go_enter Tryz.func108,Tryz.ntmps108
 go_wp2_with fail
 go_step3
 go_wp2_with fail
 have hst:DiR w A B n c m d (w.heap.size+1) (w.heap.size+1+1) [0] (((w.alloc (.cells #[.int .i64 0] 2)).alloc (.cells #[.slice (some ⟨w.heap.size,0,none⟩) 1 1] 62)).alloc (.cells #[.slice A n c,.slice B m d] 22)):=by
  refine ⟨(((Below.refl _ _).alloc (Nat.le_refl _) _).alloc (by simp only [World.size_alloc];omega) _).alloc (by simp only [World.size_alloc];omega) _,Blk.new2 w _ _ _ _,some ⟨w.heap.size,0,none⟩,1,(Blk.new1 w _ _ _).alloc _,?_,by omega⟩;refine ⟨rfl,Or.inr ⟨w.heap.size,1,#[.int .i64 0],rfl,Nat.le_refl _,((Blk.new w 2 #[.int .i64 0]).alloc _).alloc _,Nat.le_refl _,by simp only [maxLen];omega,rfl,?_⟩⟩;simp
 generalize ((w.alloc (.cells #[.int .i64 0] 2)).alloc (.cells #[.slice (some ⟨w.heap.size,0,none⟩) 1 1] 62)).alloc (.cells #[.slice A n c,.slice B m d] 22)=W0 at *;have HST:=Hj hst;clear hst
 go_loopw [22] (fun t wr=>∃ s:Nat,s≤2∧t=.int .i64 s∧Hid (DiR w A B n c m d (w.heap.size+1) (w.heap.size+1+1) (0 :: (([os,bs].take s).flatMap absS)) wr)) (fun t _=>2-(intOf t).toNat)
 case atStart=>exact ⟨0,Nat.zero_le _,rfl,HST.out⟩
 case round =>
  clear HST;obtain ⟨s,hs,rfl,hR⟩:=hrel;by_cases hlt:s<2
  ·obtain ⟨A', n',c',ls',hce,hcs,hn6,hgd,hle⟩:=HSD.out s hlt;have hcell:=(hR.out.2.1.cell s).trans hce;have s1:(0:Int)≤(s:Int):=by omega
   have s2:(s:Int)<2:=by omega
   have hsn:0 :: (([os,bs].take (s+1)).flatMap absS)=(0 :: (([os,bs].take s).flatMap absS)) ++ absS ls':=by
    have e:[os,bs].take (s+1)=[os,bs].take s ++ [[os,bs][s]?.getD []]:=by rw [List.take_add_one,List.getElem?_eq_getElem (show s < [os,bs].length by simpa using hlt)];rfl
    rw [e,List.flatMap_append,hle];simp
   have HR:=Hj hR.out;have HSN:=Hj hsn;have HCS:=Hj hcs;have HGD:=Hj hgd;have hxl:(0 :: (([os,bs].take s).flatMap absS)).length≤100:=by
    have h1:=absS_len os fun l hl=>(chk_ok (HO.out l hl)).2.1;have h2:=HX.out.1;obtain rfl|rfl:s=0∨s=1:=by omega
    ·simp
    ·simp;omega
   generalize 0 :: (([os,bs].take s).flatMap absS)=xs0 at *;clear hce hle hsn hcs hgd hR
   go_wp2_with fail
   go_loopw [28] (fun t wr=>∃ k:Nat,k≤n'∧t=.int .i64 k∧Hid (DiR w A B n c m d (w.heap.size+1) (w.heap.size+1+1) (xs0 ++ absS (ls'.take k)) wr)) (fun t _=>n'-(intOf t).toNat)
   case atStart=>exact ⟨0,Nat.zero_le _,rfl,Hj (by simpa [absS] using HR.out)⟩
   case round =>
    clear HR;obtain ⟨k,hk,rfl,hR⟩:=hrel;by_cases hlt2:k<n'
    ·obtain ⟨b1,o1,rfl,hb1,hc1⟩:=HCS.out.2 (by omega);obtain ⟨A2,n2,c2,hc2,hst2⟩:=hc1 k hlt2;have hcl2:=(hR.out.1.cell (p:=⟨b1,o1+k,none⟩) hb1).trans hc2;have hkl:k<ls'.length:=by rw [HCS.out.1];exact hlt2
     have hg2:=HGD.out _ (getD_mem (d:=([]:List (Int×Int))) hkl);have hsk:=absS_snoc hkl;have hn2:n2≤3:=by rw [← hst2.1];exact hg2.1
     have hxl2:(xs0 ++ absS (ls'.take k)).length≤200:=by
      have:=absS_len (ls'.take k) fun l hl=>(HGD.out l (List.mem_of_mem_take hl)).1;have h9:=List.length_take_le k ls';rw [List.length_append];omega
     generalize ls'[k]?.getD []=l at *;have HR:=Hj hR.out;have HSK:=Hj hsk;have HST2:=Hj hst2;have HG2:=Hj hg2.2;generalize hxs1:xs0 ++ absS (ls'.take k)=xs1 at *;have HX1:=Hj hxs1;have k1:(0:Int)≤(k:Int):=by omega
     have k2:(k:Int)<(n':Int):=by omega
     clear hc1 hc2 hst2 hkl hg2 hsk hR hxs1
     go_wp2_with fail
     go_loopw [34] (fun t wr=>∃ j:Nat,j≤n2∧t=.int .i64 j∧Hid (DiR w A B n c m d (w.heap.size+1) (w.heap.size+1+1) (xs1 ++ absL (l.take j)) wr)) (fun t _=>n2-(intOf t).toNat)
     case atStart=>exact ⟨0,Nat.zero_le _,rfl,Hj (by simpa [absL] using HR.out)⟩
     case round =>
      clear HR;obtain ⟨j,hj,rfl,hR⟩:=hrel;by_cases hlt3:j<n2
      ·obtain ⟨hBW,hSid,Ah,ch,hb5,hO,hg5⟩:=hR.out;obtain ⟨b3,o3,rfl,hb3,hc3⟩:=HST2.out.2.2 (by omega);obtain ⟨y0,y1⟩:=hc3 j hlt3;have hjl:j<l.length:=by rw [HST2.out.1];exact hlt3
       have hbad:=HG2.out _ (getD_mem (d:=((0,0):Int×Int)) hjl);have hsj:=absL_snoc hjl;generalize (l[j]?.getD (0,0)).1=s at *;generalize (l[j]?.getD (0,0)).2=p at *;replace y0:=(hBW.cell (p:=⟨b3,o3+j*2,none⟩) hb3).trans y0;replace y1:=(hBW.cell (p:=⟨b3,o3+j*2+1,none⟩) hb3).trans y1;unfold Bad at hbad;generalize ha:absI p=a at *;unfold absI at ha;have xn:IntKind.i64.wrap (-p) = -p:=IntWalk.i64_in _ (by omega);have a1:max p (-p)=a:=by rw [← ha];split<;>omega
       have a2:(if p < -p then -p else p)=a:=by rw [← ha];split<;>split<;>omega
       have a3:(if -p<p then p else -p)=a:=by rw [← ha];split<;>split<;>omega
       have a4:(if p≤-p then -p else p)=a:=by rw [← ha];split<;>split<;>omega
       have hxl3:(xs1 ++ absL (l.take j)).length≤300:=by
        have h9:=List.length_take_le j l;rw [List.length_append,absL_len];omega
       have hxsn:xs1 ++ absL (l.take (j+1))=(xs1 ++ absL (l.take j)) ++ [a]:=by rw [hsj,List.append_assoc]
       generalize xs1 ++ absL (l.take j)=xs2 at *;have HXSN:=Hj hxsn;have q1:=(Kp.refl wr).alloc (.cells #[.int .i64 s,.int .i64 p] 107);have q2:=q1.alloc (.cells #[.int .i64 a] 2);have o2:=hO.keep q2;have m2:=Blk.new1 wr (.cells #[.int .i64 s,.int .i64 p] 107) 2 #[.int .i64 a];have b5:=q2.blk hb5;have bS:=q2.blk hSid;have hB2:Below w.heap.size w ((wr.alloc (.cells #[.int .i64 s,.int .i64 p] 107)).alloc (.cells #[.int .i64 a] 2)):=hBW.trans (Below.mono q2 hBW.size);have c5:=(q1.blk hb5).cell 0;simp at c5;have j1:(0:Int)≤(j:Int):=by omega
       have j2:(j:Int)<(n2:Int):=by omega
       clear hc3 hjl hbad hsj ha hxsn hR hBW hSid hb5 hO
       go_wp2_with (first
        | (at_builtin;refine wpList_append_my rfl (base:=w.heap.size) (e:=2) (size:=1) (bytes:=8) (.tmp 38) (.tmp 45) 62 rfl Tryz.underlying62 HI.out HZ0.out HZ1.out HZ2.out rfl (by decide) (xs:=xs2.map (Value.int .i64)) (news:=[.int .i64 a]) rfl (by exact o2) rfl (by exact Blk.src m2 rfl (by simp [Value.oneCell'])) (by simp only [maxLen];omega) (by omega) (by exact hB2.size) ?_
           intro B1 cb1 w3 hO1 hbb1 hk1;have b53:=Kept.side o2 b5 (by decide) hk1;have bS3:=Kept.side o2 bS (by decide) hk1;have hB3:=hB2.trans hbb1;have c53:=b53.cell 0;have f53:=b53.frozen 0;simp at c53;have o3:=hO1.side b53 (by decide) 0 (.slice B1 (xs2.length+1) cb1);have b54:=b53.set 0 (.slice B1 (xs2.length+1) cb1);have bS4:=bS3.far (p:=⟨w.heap.size+1,0,none⟩) (by dsimp only;omega) (.slice B1 (xs2.length+1) cb1);have hB4:=hB3.setCell (p:=⟨w.heap.size+1,0,none⟩) (by dsimp only;omega) (.slice B1 (xs2.length+1) cb1);have hfin:DiR w A B n c m d (w.heap.size+1) (w.heap.size+1+1) (xs2 ++ [a]) (w3.setCell ⟨w.heap.size+1,0,none⟩ (.slice B1 (xs2.length+1) cb1)):=by
             refine ⟨hB4,bS4,B1,cb1,?_,?_,by omega⟩
             ·rw [List.length_append];exact b54
             ·rw [List.length_append,List.map_append];exact o3
           have HF:=Hj hfin;clear hbb1 hk1 b53 bS3 hB3 o3 b54 bS4 hB4 hfin hO1))
       go_roundw
       case rel=>exact ⟨j+1,by omega,by go_num,Hj (by rw [HXSN.out];exact HF.out)⟩
       case measure=>simp [intOf];omega
      ·obtain rfl:j=n2:=by omega
       have HE:=Hj (show DiR w A B n c m d (w.heap.size+1) (w.heap.size+1+1) (xs0 ++ absS (ls'.take (k+1))) wr by
        have:=hR.out;rw [List.take_of_length_le (by rw [HST2.out.1];exact Nat.le_refl _),← HX1.out,List.append_assoc,← HSK.out] at this;exact this)
       clear hR;go_wp2;go_roundw
       case rel=>exact ⟨k+1,by omega,by go_num,HE.out⟩
       case measure=>simp [intOf];omega
    ·obtain rfl:k=n':=by omega
     have HE:=Hj (show DiR w A B n c m d (w.heap.size+1) (w.heap.size+1+1) (0 :: (([os,bs].take (s+1)).flatMap absS)) wr by
      have:=hR.out;rw [List.take_of_length_le (by rw [HCS.out.1];exact Nat.le_refl _),← HSN.out] at this;exact this)
     clear hR;go_wp2;go_roundw
     case rel=>exact ⟨s+1,by omega,by go_num,HE.out⟩
     case measure=>simp [intOf];omega
  ·obtain rfl:s=2:=by omega
   obtain ⟨hBW,-,Ah,ch,hb5,hO,hg5⟩:=hR.out;have hds:0 :: (([os,bs].take 2).flatMap absS)=dists os bs:=by simp [dists]
   rw [hds] at hb5 hO;have hdl:(dists os bs).length≤100∧(dists os bs).length≠0:=by
    have h1:=absS_len os fun l hl=>(chk_ok (HO.out l hl)).2.1;have h2:=absS_len bs fun l hl=>(chk_ok (HB.out l hl)).2.1;have h3:=HX.out.1;have h4:=HY.out.1;unfold dists;rw [List.length_cons,List.length_append];omega
   have hdn:∀ x∈dists os bs,x≤1000000:=fun x hx=>by
    have key:∀ (up:Bool) (ls:List (List (Int×Int))),(∀ l∈ls,chk up l=0)→x∈absS ls→x≤1000000:=fun up ls hls hm=>by
     obtain ⟨l,hl,hd⟩:=List.mem_flatMap.1 hm;obtain ⟨s,hs,rfl⟩:=List.mem_map.1 hd;have:=(chk_ok (hls l hl)).2.2.2 s hs;unfold Bad at this;unfold absI;split<;>omega
    rcases List.mem_cons.1 hx with rfl|hx
    ·omega
    ·rcases List.mem_append.1 hx with hx|hx
     ·exact key true os HO.out hx
     ·exact key false bs HB.out hx
   obtain ⟨hdl1,hdl2⟩:=hdl;obtain ⟨g,cap,hv,hgb,hglt⟩:=World.ownsRow.form hO (by omega);simp at hv;obtain ⟨rfl,rfl⟩:=hv;obtain ⟨hH,hg1,hne⟩:=hO.holdsI hdl2;have hne5:=hne _ _ _ hb5 (by decide);have c5:=hb5.cell 0;simp at c5;have hso:=sort_ints g ch (w.heap.size+1) (dists os bs) wr hH hg1 c5 hb5.lt hne5 (by omega);have HSO:=Hj hso;have HBW:=Hj hBW;have HB5:=Hj hb5;have HDN:=Hj hdn;clear hR hH hO hso hne hds hBW hdn hb5
   go_wp2_with fail
   refine HSO.out.mono ?_;rintro e w5 ⟨rfl,ps,hperm,hpw,hH5,hgr⟩;have hB5:Below w.heap.size w w5:=HBW.out.trans ⟨hgr.os,hgr.tape,hgr.output,hgr.size,fun k hk=>hgr.block k (by have:=HBW.out.size;omega) (by simp;omega)⟩;have hbx5:Blk w5 (w.heap.size+1) 62 #[.slice (some ⟨g,0,none⟩) (dists os bs).length ch]:=(hgr.block _ HB5.out.lt (by simp;omega)).trans HB5.out;have hpl:ps.length=(dists os bs).length:=hperm.length_eq;have hg5:g<w5.heap.size:=Nat.lt_of_lt_of_le hg1 hgr.size;have HH5:=Hj (fun j (hj:j<ps.length)=>show w5.cell? ⟨g,j,none⟩=some (.int .i64 (ps[j]?.getD 0)) by
    have:=(hH5 j (by simpa using hj)).1;rw [Nat.zero_add] at this;rw [this];simp [hj,encI])
   have HPS:=Hj (And.intro hperm hpw);have HPB:=Hj (fun j (hj:j<ps.length)=>show 0≤ps[j]?.getD 0∧ps[j]?.getD 0≤1000000 by
    have:=hperm.mem_iff.1 (getD_mem (d:=0) hj);exact ⟨dists_nonneg this,HDN.out _ this⟩)
   rw [← hpl] at hbx5;have c55:=hbx5.cell 0;simp at c55;have HB55:=Hj hB5;clear hperm hpw hH5 hgr hB5 hbx5 HSO HB5 HBW HDN;rw [← hpl] at hdl1;generalize hdd:(dists os bs).length=dl at *;obtain rfl:dl=ps.length:=by rw [← hpl]
   clear hdd hpl c5
   go_wp2_with fail
   go_step3
   go_wp2_with fail
   go_loopw [12,56] (fun tp t wr=>∃ k:Nat,k≤ps.length∧t=.int .i64 k∧tp=.int .i64 0∧Hid (PassK os bs ps k∧Below w5.heap.size w5 wr)) (fun _ t _=>ps.length-(intOf t).toNat)
   case atStart=>exact ⟨0,Nat.zero_le _,rfl,rfl,fun j hj=>by omega,Below.refl _ _⟩
   case round =>
    obtain ⟨k,hk,rfl,rfl,hR⟩:=hrel;by_cases hlt4:k<ps.length
    ·have cd:=(hR.out.2.cell (p:=⟨g,k,none⟩) hg5).trans (HH5.out k hlt4);have hpb:=HPB.out k hlt4;generalize hde:ps[k]?.getD 0=dd at *;have HDE:=Hj hde;clear hde;have k1:(0:Int)≤(k:Int):=by omega
     have k2:(k:Int)<(ps.length:Int):=by omega
     have HP:=Hj hR.out.1;have hsb:=Blk.new wr 2 #[.int .i64 1,.int .i64 (-1)];have kx:=(Kp.refl wr).alloc (.cells #[.int .i64 1,.int .i64 (-1)] 2);have HK5:=Hj (hR.out.2.trans (Below.mono kx hR.out.2.size));have HSB:=Hj hsb;have HBX:=Hj hR.out.2;clear hR hsb kx
     go_wp2_with fail
     obtain ⟨wv,hwv⟩:∃ v,v=wr:=⟨_,rfl⟩;subst hwv;generalize hWW:wv.alloc (.cells #[.int .i64 1,.int .i64 (-1)] 2)=WW at *
     go_loopw [12,62] (fun tp t wr=>∃ s:Nat,s≤2∧t=.int .i64 s∧tp=.int .i64 0∧Hid ((1≤s→balB os bs ((dd:Int):Rat)=false)∧(2≤s→balB os bs ((-dd:Int):Rat)=false)∧Kp WW wr)) (fun _ t _=>2-(intOf t).toNat)
     case atStart=>exact ⟨0,Nat.zero_le _,rfl,rfl,fun h=>by omega,fun h=>by omega,Kp.refl _⟩
     case round =>
      obtain ⟨s,hs,rfl,rfl,hR⟩:=hrel;have HR:=Hj hR.out;clear hR;obtain rfl|rfl|rfl:s=0∨s=1∨s=2:=by omega
      ·have cs:=(HR.out.2.2.blk HSB.out).cell 0;simp at cs;have xw:IntKind.i64.wrap (1*dd)=dd:=by rw [show 1*dd=dd by omega];exact IntWalk.i64_in _ (by omega)
       have xw2:IntKind.i64.wrap (dd)=dd:=IntWalk.i64_in _ (by omega);have HFI:=Hj (fun W=>qfromInt64_any (dd) W (by omega) (by omega));have HBA:=Hj (fun W A2 A3 k2 c2 k3 c3 (hW:Below w.heap.size w W) (h2:WQ W ((dd:Int):Rat) A2 k2 c2 A3 k3 c3)=>balances_any A B n c m d os bs _ false A2 A3 k2 c2 k3 c3 ((dd:Int):Rat) W (HX.out.below hW) (HY.out.below hW) (h2.arg (by omega)) HO.out HB.out (by omega) (by omega));have HFD:=Hj (fun hbal=>pass_found (p:=dd) HPS.out.1 HPS.out.2 hlt4 HP.out hbal (Or.inl HDE.out.symm));have HKW:=Hj (HB55.out.trans ((HK5.out.trans (Below.mono HR.out.2.2 HK5.out.size)).mono HB55.out.size));generalize hbe:balB os bs ((dd:Int):Rat)=bb at *;have HBE:=Hj hbe;clear hbe;generalize ((dd:Int):Rat)=pq at *
       go_wp2_with fail
       refine (HFI.out wr).mono ?_;rintro e v1 ⟨A2,k2,c2,A3,k3,c3,rfl,h2,h3,hW2,hW3,-,-,hb1⟩;have HV1:=Hj (HKW.out.trans (hb1.mono HKW.out.size));have HV1k:=Hj (Kp.trans HR.out.2.2 hb1);have HC:=Hj (HBA.out v1 A2 A3 k2 c2 k3 c3 HV1.out ⟨h2,h3,hW2,hW3⟩);clear h2 h3 hW2 hW3 hb1 HFI HBA
       go_wp2_with fail
       refine HC.out.mono ?_;rintro e v2 ⟨rfl,hb2⟩;have HV2w:=Hj (HV1.out.trans (hb2.mono HV1.out.size));have HV2:=Hj (Kp.trans HV1k.out hb2);clear hb2 HC HV1 HV1k;cases bb
       ·have HBL:=HBE;clear HFD HBE;go_wp2;go_roundw
        case rel=>exact ⟨1,by omega,rfl,rfl,fun _=>by first|trivial|rfl|exact HBL.out,fun h=>by omega,HV2.out⟩
        case measure=>simp [intOf]
       ·have HPZ:=Hj (HFD.out rfl);clear HFD HBE;go_wp2;rw [Exit.noGoto_ret];go_ret;exact ⟨_,rfl,HPZ.out,HV2w.out⟩
      ·have cs:=(HR.out.2.2.blk HSB.out).cell 1;simp at cs;have xw:IntKind.i64.wrap (-1*dd) = -dd:=by rw [show -1*dd = -dd by omega];exact IntWalk.i64_in _ (by omega)
       have xw2:IntKind.i64.wrap (-dd) = -dd:=IntWalk.i64_in _ (by omega);have HFI:=Hj (fun W=>qfromInt64_any (-dd) W (by omega) (by omega));have HBA:=Hj (fun W A2 A3 k2 c2 k3 c3 (hW:Below w.heap.size w W) (h2:WQ W ((-dd:Int):Rat) A2 k2 c2 A3 k3 c3)=>balances_any A B n c m d os bs _ false A2 A3 k2 c2 k3 c3 ((-dd:Int):Rat) W (HX.out.below hW) (HY.out.below hW) (h2.arg (by omega)) HO.out HB.out (by omega) (by omega));have HFD:=Hj (fun hbal=>pass_found (p:=-dd) HPS.out.1 HPS.out.2 hlt4 HP.out hbal (Or.inr ⟨by rw [HDE.out],by rw [HDE.out];exact HR.out.1 (by omega)⟩));have HKW:=Hj (HB55.out.trans ((HK5.out.trans (Below.mono HR.out.2.2 HK5.out.size)).mono HB55.out.size));generalize hbe:balB os bs ((-dd:Int):Rat)=bb at *;have HBE:=Hj hbe;clear hbe;generalize ((-dd:Int):Rat)=pq at *
       go_wp2_with fail
       refine (HFI.out wr).mono ?_;rintro e v1 ⟨A2,k2,c2,A3,k3,c3,rfl,h2,h3,hW2,hW3,-,-,hb1⟩;have HV1:=Hj (HKW.out.trans (hb1.mono HKW.out.size));have HV1k:=Hj (Kp.trans HR.out.2.2 hb1);have HC:=Hj (HBA.out v1 A2 A3 k2 c2 k3 c3 HV1.out ⟨h2,h3,hW2,hW3⟩);clear h2 h3 hW2 hW3 hb1 HFI HBA
       go_wp2_with fail
       refine HC.out.mono ?_;rintro e v2 ⟨rfl,hb2⟩;have HV2w:=Hj (HV1.out.trans (hb2.mono HV1.out.size));have HV2:=Hj (Kp.trans HV1k.out hb2);clear hb2 HC HV1 HV1k;cases bb
       ·have HBL:=HBE;clear HFD HBE;go_wp2;go_roundw
        case rel=>exact ⟨2,by omega,rfl,rfl,fun _=>HR.out.1 (by omega),fun _=>by first|trivial|rfl|exact HBL.out,HV2.out⟩
        case measure=>simp [intOf]
       ·have HPZ:=Hj (HFD.out rfl);clear HFD HBE;go_wp2;rw [Exit.noGoto_ret];go_ret;exact ⟨_,rfl,HPZ.out,HV2w.out⟩
      ·have hps:PassK os bs ps (k+1):=fun j hj=>by
        by_cases hjk:j<k
        ·exact HP.out j hjk
        ·obtain rfl:j=k:=by omega
         rw [HDE.out];exact ⟨HR.out.1 (by omega),HR.out.2.1 (by omega)⟩
       have HPN:=Hj hps;have HKN:=Hj (HK5.out.trans (Below.mono HR.out.2.2 HK5.out.size));clear hps;go_wp2;go_roundw
       case rel=>exact ⟨k+1,by omega,by go_num,rfl,HPN.out,HKN.out⟩
       case measure=>simp [intOf];omega
    ·obtain rfl:k=ps.length:=by omega
     have HPR:=Hj (pass_none HPS.out.1 hR.out.1);have HBF:=Hj (HB55.out.trans (hR.out.2.mono HB55.out.size));clear hR;go_wp2;rw [Exit.noGoto_ret];go_ret;exact ⟨0,rfl,HPR.out,HBF.out⟩
theorem TrZ.le {S D:List St.Lv} {z:Int} (h:TrZ S D z) (hS:∀ x∈S,0<x.2.1∧x.2.1≤16000000) (hD:∀ x∈D,0<x.2.1∧x.2.1≤16000000):z≤totI S∧z≤totI D:=by
 have hs:=(tot_bd S hS).1;have hd:=(tot_bd D hD).1;constructor
 ·by_cases hz:z≤totI S
  ·exact hz
  ·obtain ⟨a,b,h1,_⟩:=h.2.1 (totI S) hs (by omega);rw [uP_out hS (Int.le_refl _)] at h1;simp at h1
 ·by_cases hz:z≤totI D
  ·exact hz
  ·obtain ⟨a,b,_,h1,_⟩:=h.2.1 (totI D) hd (by omega);rw [uP_out hD (Int.le_refl _)] at h1;simp at h1
theorem lv_some {up:Bool} {n:Nat} {ls:List (List (Int×Int))} {lv:List St.Lv} (h:St.IsLv up n (St.tri 0 ls) lv) (hk:∀ l∈ls,chk up l=0) (h0:ls.length≠0):lv.length≠0:=fun h9=>by
 have h2:lv=[]:=List.eq_nil_of_length_eq_zero h9;have h3:=getD_mem (d:=([]:List (Int×Int))) (show 0<ls.length by omega);generalize ls[0]?.getD []=l0 at *;have h4:=(chk_ok (hk _ h3)).1;have h5:=getD_mem (d:=((0,0):Int×Int)) (show 0<l0.length by omega);have h6:=(h.2.1 _).2 (St.tri_price.2 ⟨_,h3,_,h5,rfl⟩);rw [h2] at h6;simp at h6
structure RunV (os bs:List (List (Int×Int))) (z p wf:Int) (xs ys:List Int) (S D:List St.Lv):Prop where
 isS:St.IsLv true os.length (St.tri 0 os) S
 isD:St.IsLv false bs.length (St.tri 0 bs) D
 vS:VL true os.length S
 vD:VL false bs.length D
 tr:TrZ S D z
 pr:PrZ os bs p
 x:xs=shAll S os.length z S.length
 y:ys=shAll D bs.length z D.length
 w:wf=costI (lvQ D) z D.length-costI (lvQ S) z S.length
def RunP (os bs:List (List (Int×Int))) (w:World) (e:Ending) (w':World):Prop :=
 ∃ (z p wf:Int) (xs ys:List Int) (S D:List St.Lv) (g1 g2:Nat),e=.returned (.tuple #[.agg #[.int .i64 z,.int .i64 p,.int .i64 wf,.slice (some ⟨g1,0,none⟩) os.length os.length,.slice (some ⟨g2,0,none⟩) bs.length bs.length],.int .i64 0])∧RunV os bs z p wf xs ys S D ∧
  IRow w' g1 xs∧IRow w' g2 ys∧w.heap.size≤g1∧w.heap.size≤g2∧Below w.heap.size w w'
theorem Blk.five {w:World} {g:Nat} {t:TypeId} {a b c d e:Value} (h:Blk w g t #[a,b,c,d,e]):(w.cell? ⟨g,0,none⟩=some a∧w.cell? ⟨g,1,none⟩=some b∧w.cell? ⟨g,2,none⟩=some c∧w.cell? ⟨g,3,none⟩=some d∧w.cell? ⟨g,4,none⟩=some e) ∧
  w.frozen? ⟨g,0,none⟩=false∧w.frozen? ⟨g,1,none⟩=false∧w.frozen? ⟨g,2,none⟩=false∧w.frozen? ⟨g,3,none⟩=false∧w.frozen? ⟨g,4,none⟩=false :=
 ⟨⟨h.cell 0,h.cell 1,h.cell 2,h.cell 3,h.cell 4⟩,h.frozen 0,h.frozen 1,h.frozen 2,h.frozen 3,h.frozen 4⟩
def st5 (w:World) (g:Nat) (a b c d e:Value):World:=((((w.setCell ⟨g,0,none⟩ a).setCell ⟨g,1,none⟩ b).setCell ⟨g,2,none⟩ c).setCell ⟨g,3,none⟩ d).setCell ⟨g,4,none⟩ e
theorem Blk.set5 {w:World} {g:Nat} {t:TypeId} {a b c d e:Value} (h:Blk w g t #[a,b,c,d,e]) (a' b' c' d' e':Value):Blk (st5 w g a' b' c' d' e') g t #[a',b',c',d',e']:=((((h.set 0 a').set 1 b').set 2 c').set 3 d').set 4 e'
theorem Blk.far5 {w:World} {g g':Nat} {t:TypeId} {cs:Array Value} (h:Blk w g' t cs) (hne:g'≠g) (a b c d e:Value):Blk (st5 w g a b c d e) g' t cs :=
 ((((h.far (p:=⟨g,0,none⟩) hne a).far (p:=⟨g,1,none⟩) hne b).far (p:=⟨g,2,none⟩) hne c).far (p:=⟨g,3,none⟩) hne d).far (p:=⟨g,4,none⟩) hne e
theorem below_st5 {w0 w:World} {B g:Nat} (h:Below B w0 w) (hg:B≤g) (a b c d e:Value):Below B w0 (st5 w g a b c d e) :=
 ((((h.setCell (p:=⟨g,0,none⟩) hg a).setCell (p:=⟨g,1,none⟩) hg b).setCell (p:=⟨g,2,none⟩) hg c).setCell (p:=⟨g,3,none⟩) hg d).setCell (p:=⟨g,4,none⟩) hg e
theorem run_no (A B:Option Addr) (n c m d:Nat) (os bs:List (List (Int×Int))) (w:World) (h:CsAt w A n os) (h':CsAt w B m bs) (hs:∀ l∈os,l.length≤1000000000000) (ht:∀ l∈bs,l.length≤1000000000000) (hc:ckB os bs≠0) :
  Calls Tryz.prog 48 #[.slice A n c,.slice B m d] w fun e w'=>e=.returned (.tuple #[.agg #[.int .i64 0,.int .i64 0,.int .i64 0,.slice none 0 0,.slice none 0 0],.int .i64 (ckB os bs)])∧Below w.heap.size w w':=by
 have HC:=Hj (fun W (hW:Below w.heap.size w W)=>ccheck_any A B n c m d os bs W (h.below hW) (h'.below hW) hs ht);generalize ckB os bs=x at *;have dx:(x != 0)=true:=by simpa using hc
 clear h h' hs ht hc;go_enter Tryz.func48,Tryz.ntmps48
 go_wp2_with fail
 have hbx:=Blk.new w 81 #[.int .i64 0,.int .i64 0,.int .i64 0,.slice none 0 0,.slice none 0 0];have hb0:Below w.heap.size w (w.alloc (.cells #[.int .i64 0,.int .i64 0,.int .i64 0,.slice none 0 0,.slice none 0 0] 81)):=(Below.refl _ _).alloc (Nat.le_refl _) _;generalize w.alloc (.cells #[.int .i64 0,.int .i64 0,.int .i64 0,.slice none 0 0,.slice none 0 0] 81)=W0 at *;refine (HC.out W0 hb0).mono ?_;rintro e w1 ⟨rfl,hb1⟩;have hbx1:=hbx.below hb1 hbx.lt;have hB1:=hb0.trans (hb1.mono hb0.size);obtain ⟨⟨c0,c1,c2,c3,c4⟩,f0,f1,f2,f3,f4⟩:=hbx1.five;obtain ⟨⟨d0,d1,d2,d3,d4⟩,-⟩:=(hbx1.set5 (.int .i64 0) (.int .i64 0) (.int .i64 0) (.slice none 0 0) (.slice none 0 0)).five;have HB2:=Hj (below_st5 hB1 (Nat.le_refl w.heap.size) (.int .i64 0) (.int .i64 0) (.int .i64 0) (.slice none 0 0) (.slice none 0 0));unfold st5 at d0 d1 d2 d3 d4 HB2;clear hbx hb0 hb1 HC hbx1 hB1;go_wp2;refine bodyPost_ret (v:=.tuple #[.agg #[.int .i64 0,.int .i64 0,.int .i64 0,.slice none 0 0,.slice none 0 0],.int .i64 x]) ?_ rfl ⟨rfl,HB2.out⟩;simp [results,Tryz.results48,go_sem,d0,d1,d2,d3,d4]
theorem run_ok (A B:Option Addr) (n c m d:Nat) (os bs:List (List (Int×Int))) (w:World) (h:CsAt w A n os) (h':CsAt w B m bs) (hc:ckB os bs=0) :
  Calls Tryz.prog 48 #[.slice A n c,.slice B m d] w (RunP os bs w):=by
 obtain ⟨hl5,hl6,hco,hcb⟩:=ckB_iff.1 hc;have hs:∀ l∈os,l.length≤1000000000000:=fun l hl=>by have:=(chk_ok (hco l hl)).2.1;omega
 have ht:∀ l∈bs,l.length≤1000000000000:=fun l hl=>by have:=(chk_ok (hcb l hl)).2.1;omega
 have hn:=h.1;have hm:=h'.1;subst hn;subst hm;have HC:=Hj (fun W (hW:Below w.heap.size w W)=>ccheck_any A B os.length c bs.length d os bs W (h.below hW) (h'.below hW) hs ht);rw [hc] at HC;have hcS:(ckC true os).2=0:=ckC_iff.2 ⟨by omega,hco⟩;have hcD:(ckC false bs).2=0:=ckC_iff.2 ⟨by omega,hcb⟩;have HMO:=Hj (fun W (hW:Below w.heap.size w W)=>merge_offers_any A os.length c os W (h.below hW) hs);have HMB:=Hj (fun W (hW:Below w.heap.size w W)=>merge_bids_any B bs.length d bs W (h'.below hW) ht);have HCP:=Hj (fun W (hW:Below w.heap.size w W)=>cprice_any A B os.length c bs.length d os bs W (h.below hW) (h'.below hW) hco hcb hl5 hl6);have HCO:=Hj (And.intro hco hcb);clear h h' hs ht hc;go_enter Tryz.func48,Tryz.ntmps48
 go_wp2_with fail
 have hbx:=Blk.new w 81 #[.int .i64 0,.int .i64 0,.int .i64 0,.slice none 0 0,.slice none 0 0];have hb0:Below w.heap.size w (w.alloc (.cells #[.int .i64 0,.int .i64 0,.int .i64 0,.slice none 0 0,.slice none 0 0] 81)):=(Below.refl _ _).alloc (Nat.le_refl _) _;generalize w.alloc (.cells #[.int .i64 0,.int .i64 0,.int .i64 0,.slice none 0 0,.slice none 0 0] 81)=W0 at *;refine (HC.out W0 hb0).mono ?_;rintro e w1 ⟨rfl,hb1⟩;have HBX1:=Hj (hbx.below hb1 hbx.lt);have HB1:=Hj (hb0.trans (hb1.mono hb0.size));clear hbx hb0 hb1 HC
 go_wp2_with fail
 refine (HMO.out w1 HB1.out).mono ?_;rintro e w2 ⟨A1,m1,cap1,pl1,S,rfl,hL1,hV1,-,hb2⟩;rw [hcS];have HV1:=Hj (hV1 hcS);have HL1:=Hj hL1;have HBX2:=Hj (HBX1.out.below hb2 HBX1.out.lt);have HB2:=Hj (HB1.out.trans (hb2.mono HB1.out.size));clear hL1 hV1 hb2 HMO HB1 HBX1
 go_wp2_with fail
 refine (HMB.out w2 HB2.out).mono ?_;rintro e w3 ⟨A2,m2,cap2,pl2,D,rfl,hL2,hV2,-,hb3⟩;rw [hcD];have HV2:=Hj (hV2 hcD);have HL2:=Hj hL2;have HL1:=Hj (HL1.out.below hb3);have HBX3:=Hj (HBX2.out.below hb3 HBX2.out.lt);have HB3:=Hj (HB2.out.trans (hb3.mono HB2.out.size));clear hL2 hV2 hb3 HMB HB2 HBX2;have hm1:m1≤48:=by rw [← HL1.out.1];exact HV1.out.2.len
 have hm2:m2≤48:=by rw [← HL2.out.1];exact HV2.out.2.len
 have HTR:=Hj (traded_any A1 A2 m1 os.length cap1 m2 bs.length cap2 S D w3 HL1.out HL2.out HV1.out.2.qty HV2.out.2.qty hm1 hm2)
 go_wp2_with fail
 refine HTR.out.mono ?_;rintro e w4 ⟨z,rfl,htr,hb4⟩;have hz:=htr.le HV1.out.2.qty HV2.out.2.qty;have hz0:=htr.1;have HT:=Hj htr;have HL1:=Hj (HL1.out.below hb4);have HL2:=Hj (HL2.out.below hb4);have HBX4:=Hj (HBX3.out.below hb4 HBX3.out.lt);have HB4:=Hj (HB3.out.trans (hb4.mono HB3.out.size));have HS1:=Hj (cshares_ok true A1 m1 os.length cap1 S z w4 HL1.out HV1.out.2 hz0 hz.1 (fun h0=>by rw [← HL1.out.1];exact lv_some HV1.out.1 HCO.out.1 h0));have HS2:=Hj (fun W (hW:Below w4.heap.size w4 W)=>cshares_ok false A2 m2 bs.length cap2 D z W (HL2.out.below hW) HV2.out.2 hz0 hz.2 (fun h0=>by rw [← HL2.out.1];exact lv_some HV2.out.1 HCO.out.2 h0));have HGA:=Hj (fun W (hW:Below w4.heap.size w4 W)=>gain_ok true false A1 A2 m1 os.length cap1 m2 bs.length cap2 S D z W (HL1.out.below hW) HV1.out.2 (HL2.out.below hW) HV2.out.2 hz0 hz.1 hz.2);have HLN:=Hj (And.intro HL1.out.1 HL2.out.1);clear htr hb4 HTR HB3 HBX3 hz hz0 HL1 HL2
 go_wp2_with fail
 refine HS1.out.mono ?_;rintro e w5 ⟨g1,rfl,hI1,hgg1,hb5⟩;have HI1:=Hj hI1;have HW5:=Hj hb5;have HG1:=Hj hgg1;clear hI1 hgg1 hb5 HS1
 go_wp2_with fail
 refine (HS2.out w5 HW5.out).mono ?_;rintro e w6 ⟨g2,rfl,hI2,hgg2,hb6⟩;have HI2:=Hj hI2;have HI1:=Hj (HI1.out.below hb6);have HW6:=Hj (HW5.out.trans (hb6.mono HW5.out.size));have HG2:=Hj (Nat.le_trans HW5.out.size hgg2);clear hI2 hgg2 hb6 HS2 HW5
 go_wp2_with fail
 refine (HGA.out w6 HW6.out).mono ?_;rintro e w7 ⟨rfl,hb7⟩;have HI1:=Hj (HI1.out.below hb7);have HI2:=Hj (HI2.out.below hb7);have HW7:=Hj (HW6.out.trans (hb7.mono HW6.out.size));have HB7:=Hj (HB4.out.trans (HW7.out.mono HB4.out.size));clear hb7 HGA HW6
 go_wp2_with fail
 refine (HCP.out w7 HB7.out).mono ?_;rintro e w8 ⟨p,rfl,hpz,hb8⟩;have hI1:=HI1.out.below hb8;have hI2:=HI2.out.below hb8;have hW8:=HW7.out.trans (hb8.mono HW7.out.size);have hbx8:=HBX4.out.below hW8 HBX4.out.lt;have hB8:=HB4.out.trans (hW8.mono HB4.out.size);have hv:RunV os bs z p (costI (lvQ D) z m2-costI (lvQ S) z m1) (shAll S os.length z m1) (shAll D bs.length z m2) S D:=by
  obtain ⟨e1,e2⟩:=HLN.out;exact ⟨HV1.out.1,HV2.out.1,HV1.out.2,HV2.out.2,HT.out,hpz,by rw [e1],by rw [e2],by rw [e1,e2]⟩
 generalize costI (lvQ D) z m2-costI (lvQ S) z m1=wf at *;generalize shAll S os.length z m1=xs at *;generalize shAll D bs.length z m2=ys at *;obtain ⟨⟨c0,c1,c2,c3,c4⟩,f0,f1,f2,f3,f4⟩:=hbx8.five;have hset:=hbx8.set5 (.int .i64 z) (.int .i64 p) (.int .i64 wf) (.slice (some ⟨g1,0,none⟩) os.length os.length) (.slice (some ⟨g2,0,none⟩) bs.length bs.length);obtain ⟨⟨d0,d1,d2,d3,d4⟩,-⟩:=hset.five;have hw4:w.heap.size<w4.heap.size:=HBX4.out.lt;have hfin:RunP os bs w (.returned (.tuple #[.agg #[.int .i64 z,.int .i64 p,.int .i64 wf,.slice (some ⟨g1,0,none⟩) os.length os.length,.slice (some ⟨g2,0,none⟩) bs.length bs.length],.int .i64 0])) (st5 w8 w.heap.size (.int .i64 z) (.int .i64 p) (.int .i64 wf) (.slice (some ⟨g1,0,none⟩) os.length os.length) (.slice (some ⟨g2,0,none⟩) bs.length bs.length)):=by
  have k1:=HG1.out;have k2:=HG2.out;exact ⟨z,p,wf,xs,ys,S,D,g1,g2,rfl,hv,Blk.far5 hI1 (by omega) _ _ _ _ _,Blk.far5 hI2 (by omega) _ _ _ _ _,by omega,by omega,below_st5 hB8 (Nat.le_refl _) _ _ _ _ _⟩
 have HFIN:=Hj hfin;unfold st5 at d0 d1 d2 d3 d4 HFIN;clear hfin hset hbx8 hI1 hI2 hW8 hB8 hv hb8 hpz HCP HB7 HW7 HI1 HI2 HBX4 HB4 HT HV1 HV2;go_wp2;refine bodyPost_ret (v:=.tuple #[.agg #[.int .i64 z,.int .i64 p,.int .i64 wf,.slice (some ⟨g1,0,none⟩) os.length os.length,.slice (some ⟨g2,0,none⟩) bs.length bs.length],.int .i64 0]) ?_ rfl HFIN.out;simp [results,Tryz.results48,go_sem,d0,d1,d2,d3,d4]
end Go.Proofs.YtjajigkacccdgaaGreat
