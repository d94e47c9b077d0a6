/-
Lemmas of the walk; no further conditions.
-/
import Derived.Test.YtjajigkacccdgaaGreatTiAP
set_option linter.unusedVariables false
set_option linter.unusedSimpArgs false
set_option maxRecDepth 100000
set_option maxHeartbeats 16000000
namespace Go.Proofs.YtjajigkacccdgaaGreat
open Go.Shelf Go.RowKit Go.Lib Go.Sort
open Wd
noncomputable def lvT:TypeInfo:=(Tryz.prog.info? 30).get (by kernel_rfl)
noncomputable def lvE:TypeInfo:=(Tryz.prog.info? 64).get (by kernel_rfl)
theorem lvK (n:Nat) (h2:2≤n):Lib.swapperK n lvE 25=9:=by
 have a:lvE.hasPointers=true:=by kernel_rfl
 have b:lvE.bytes=40:=by kernel_rfl
 have c:(n == 0)=false:=by simp;omega
 have d:(n == 1)=false:=by simp;omega
 simp [Lib.swapperK,a,b,c,d]
theorem grow_lv (m:Nat) (T:List St.Tr) (w:World) (n blk:Nat) (d:Array (Int×Nat)) (os:Array Obj):w.grownBy (grow (putRowK (encL m T) 3 (Sort.ahead w n) blk 0 d) os) (some blk):=by
 refine ⟨rfl,rfl,rfl,?_,fun k hk hne=>?_⟩
 ·simp [grow,putRowK,putRow,mapBlock]
 ·have hkb:blk≠k:=fun e=>hne (by rw [e]);have e:(putRowK (encL m T) 3 (Sort.ahead w n) blk 0 d).heap[k]?=w.heap[k]?:=by simp only [putRowK,putRow,mapBlock,Array.getElem?_modify,if_neg hkb];rfl
  rw [← e];simp only [grow];rw [Array.getElem?_append_left];simpa [putRowK,putRow,mapBlock] using hk
def ltO (a b:Int×Nat):Bool:=decide (a.1<b.1)
theorem swo_ltO:SWO ltO where
 irrefl:=by intro a;simp [ltO]
 trans:=by intro a b c h1 h2;simp [ltO] at *;omega
 ntrans:=by intro a b c h1 h2;simp [ltO] at *;omega
theorem less_offers (blk c Bs size:Nat) (W:World) (G:Nat→Int) (hs:W.cell? ⟨Bs,0,none⟩=some (.slice (some ⟨blk,0,none⟩) size c))
  (hc:∀ t,t<size→W.cell? ⟨blk,t*3,none⟩=some (.int .i64 (G t))) (i j:Nat) (hi:i<size) (hj:j<size) (_hsz:size<4611686018427387904) :
  Calls Tryz.prog 72 #[.int .i64 i,.int .i64 j,.pointer (some ⟨Bs,0,none⟩)] W fun e w'=>e=.returned (.bool (decide (G i<G j)))∧∃ q,w'=W.drewN q:=by
 have ci:=hc i hi;have cj:=hc j hj;clear hc;go_enter Tryz.func72,Tryz.ntmps72;go_wp2
 go_quiet (fail)
 rename Nat=>n1
 go_wp2;go_ret;exact ⟨rfl,n1,rfl⟩
theorem sort_offers (n:Nat) (T:List St.Tr) (blk c Bs:Nat) (ps:List (Int×Nat)) (w:World) (hH:HoldsK (encL n T) 3 w blk 0 ps.toArray) (hblk:blk<w.heap.size) (hBs:w.cell? ⟨Bs,0,none⟩=some (.slice (some ⟨blk,0,none⟩) ps.length c)) (hB1:Bs<w.heap.size) (hB2:Bs≠blk) (hsz:ps.length<4611686018427387904) :
  Calls Tryz.prog 71 #[.iface 30 (.slice (some ⟨blk,0,none⟩) ps.length c),.func (.func 72) #[] #[.pointer (some ⟨Bs,0,none⟩)]] w fun e w' =>
   e=.returned (.tuple #[])∧∃ ps':List (Int×Nat),ps'.Perm ps∧ps'.Pairwise (fun a b=>ltO b a=false)∧HoldsK (encL n T) 3 w' blk 0 ps'.toArray∧w.grownBy w' (some blk):=by
 by_cases h2:2≤ps.length
 ·have hless:LessReadsK Tryz.prog 72 #[.pointer (some ⟨Bs,0,none⟩)] (encL n T) 3 ltO blk 0 ps.toArray.size w:=by
   intro m os dk hs i j hi hj;have e:sortWorldK (encL n T) 3 w blk 0 m dk os=putRowK (encL n T) 3 (grow (Sort.ahead w m) os) blk 0 dk:=by
    unfold sortWorldK;rw [putRowK_grow _ _ (Sort.ahead w m) _ blk 0 _ hblk]
   have hHg:HoldsK (encL n T) 3 (grow (Sort.ahead w m) os) blk 0 ps.toArray:=holdsK_grow _ _ _ _ blk 0 _ hblk (holdsK_ahead _ _ _ _ _ _ _ hH);have hHd:=holdsK_putRowK _ _ _ blk 0 ps.toArray dk hHg hs;refine less_offers blk c Bs ps.toArray.size _ (fun t=>dk[t]!.1) ?_ (fun t ht=>?_) i j hi hj (by simpa using hsz)
   ·rw [e,cell?_putRowK_other _ _ _ blk 0 dk _ (by exact hB2),cell?_grow _ _ _ (by exact hB1)];simpa using hBs
   ·rw [e];have:=(hHd.cell (i:=t) (c:=0) (by omega) (by omega)).1;rw [Nat.zero_add] at this;exact this
  have hS:=Any.sort_Slice_cells_sorted Tryz.laysGg6 30 64 lvT lvE (by kernel_rfl) (by kernel_rfl) (by kernel_rfl) (by kernel_rfl) 25 (fun _=>by kernel_rfl) (encL n T) 3 (fun _=>rfl) (by kernel_rfl) (fun _=>by kernel_rfl)
   (fun x v hv=>by simp [encL] at hv;rcases hv with rfl|rfl|rfl<;>rfl) ltO swo_ltO 72 _
   (enters_of Tryz.func72 (by kernel_rfl) rfl) blk 0 c ps.toArray (by simpa using h2) (by simpa using hsz) 166 (by rw [lvK _ (by simpa using h2)];kernel_rfl) false
   (fun args W=>run_callFunc_extern Tryz.func166 (by kernel_rfl) (by kernel_rfl) (by kernel_rfl) (e:=Extern.ReflectliteSwapper.swap false) (by kernel_rfl) args W) w hless hH hblk
  have hz:ps.toArray.size=ps.length:=by simp
  rw [hz] at hS
  change Calls Tryz.prog 71 _ _ _ at hS
  refine hS.mono ?_;rintro e w' ⟨rfl,d',n',os,hp,hso,rfl⟩;obtain ⟨p1,_,p3⟩:=hp;have hd:d'.size=ps.length:=by simpa using p1
  refine ⟨rfl,d'.toList,?_,?_,?_,grow_lv n T w n' blk d' os⟩
  ·have e1:d'.extract 0 ps.length=d':=by rw [← hd];simp
   have e2:ps.toArray.extract 0 ps.length=ps.toArray:=by rw [← hz];simp
   rw [e1,e2] at p3;simpa using p3
  ·rw [List.pairwise_iff_getElem];intro i j hi hj hij;have:=hso i j (Nat.zero_le _) hij (by simpa [hd] using hj);have hi':i<d'.size:=by simpa using hi
   have hj':j<d'.size:=by simpa using hj
   simpa [hi',hj'] using this
  ·have:=holdsK_putRowK (encL n T) 3 (Sort.ahead w n') blk 0 ps.toArray d' (holdsK_ahead _ _ _ _ _ _ _ hH) (by simpa using p1);simpa using holdsK_grow (encL n T) 3 _ os blk 0 _ (by simpa [putRowK] using hblk) this
 ·have ht:∀ f,Tryz.prog.funcs.findIdx? (·.name =="internal/reflectlite" ++".Swapper$" ++ toString (Lib.swapperK ps.length lvE 25))=some f→_:=fun f hf =>
   Any.sort_Slice_tiny Tryz.laysGg6 30 64 lvT lvE (by kernel_rfl) (by kernel_rfl) (by kernel_rfl) (by kernel_rfl) 25 (fun _=>by kernel_rfl) (some ⟨blk,0,none⟩) ps.length c (by omega) f hf (.func 72) #[] #[.pointer (some ⟨Bs,0,none⟩)] w
  have hfin:Calls Tryz.prog 71 #[.iface 30 (.slice (some ⟨blk,0,none⟩) ps.length c),.func (.func 72) #[] #[.pointer (some ⟨Bs,0,none⟩)]] w fun e w'=>e=.returned (.tuple #[])∧∃ os,w'=grow w os:=by
   rcases Nat.lt_or_ge ps.length 1 with h0|h1
   ·have e0:ps.length=0:=by omega
    exact ht 158 (by rw [e0];kernel_rfl)
   ·have e1:ps.length=1:=by omega
    exact ht 159 (by rw [e1];kernel_rfl)
  refine hfin.mono ?_;rintro e w' ⟨rfl,os,rfl⟩;refine ⟨rfl,ps,List.Perm.refl _,?_,holdsK_grow (encL n T) 3 w os blk 0 _ hblk hH,⟨rfl,rfl,rfl,by simp [grow],fun k hk _=>by simp only [grow];rw [Array.getElem?_append_left hk]⟩⟩
  match ps,h2 with
  | [],_=>exact List.Pairwise.nil
  | [x],_=>exact List.pairwise_singleton _ _
  | _ :: _ :: _,h=>exact absurd (by simp) h
def ltB (a b:Int×Nat):Bool:=decide (b.1<a.1)
theorem swo_ltB:SWO ltB where
 irrefl:=by intro a;simp [ltB]
 trans:=by intro a b c h1 h2;simp [ltB] at *;omega
 ntrans:=by intro a b c h1 h2;simp [ltB] at *;omega
theorem less_bids (blk c Bs size:Nat) (W:World) (G:Nat→Int) (hs:W.cell? ⟨Bs,0,none⟩=some (.slice (some ⟨blk,0,none⟩) size c))
  (hc:∀ t,t<size→W.cell? ⟨blk,t*3,none⟩=some (.int .i64 (G t))) (i j:Nat) (hi:i<size) (hj:j<size) (_hsz:size<4611686018427387904) :
  Calls Tryz.prog 74 #[.int .i64 i,.int .i64 j,.pointer (some ⟨Bs,0,none⟩)] W fun e w'=>e=.returned (.bool (decide (G j<G i)))∧∃ q,w'=W.drewN q:=by
 have ci:=hc i hi;have cj:=hc j hj;clear hc;go_enter Tryz.func74,Tryz.ntmps74;go_wp2
 go_quiet (fail)
 rename Nat=>n1
 go_wp2;go_ret;exact ⟨rfl,n1,rfl⟩
theorem sort_bids (n:Nat) (T:List St.Tr) (blk c Bs:Nat) (ps:List (Int×Nat)) (w:World) (hH:HoldsK (encL n T) 3 w blk 0 ps.toArray) (hblk:blk<w.heap.size) (hBs:w.cell? ⟨Bs,0,none⟩=some (.slice (some ⟨blk,0,none⟩) ps.length c)) (hB1:Bs<w.heap.size) (hB2:Bs≠blk) (hsz:ps.length<4611686018427387904) :
  Calls Tryz.prog 71 #[.iface 30 (.slice (some ⟨blk,0,none⟩) ps.length c),.func (.func 74) #[] #[.pointer (some ⟨Bs,0,none⟩)]] w fun e w' =>
   e=.returned (.tuple #[])∧∃ ps':List (Int×Nat),ps'.Perm ps∧ps'.Pairwise (fun a b=>ltB b a=false)∧HoldsK (encL n T) 3 w' blk 0 ps'.toArray∧w.grownBy w' (some blk):=by
 by_cases h2:2≤ps.length
 ·have hless:LessReadsK Tryz.prog 74 #[.pointer (some ⟨Bs,0,none⟩)] (encL n T) 3 ltB blk 0 ps.toArray.size w:=by
   intro m os dk hs i j hi hj;have e:sortWorldK (encL n T) 3 w blk 0 m dk os=putRowK (encL n T) 3 (grow (Sort.ahead w m) os) blk 0 dk:=by
    unfold sortWorldK;rw [putRowK_grow _ _ (Sort.ahead w m) _ blk 0 _ hblk]
   have hHg:HoldsK (encL n T) 3 (grow (Sort.ahead w m) os) blk 0 ps.toArray:=holdsK_grow _ _ _ _ blk 0 _ hblk (holdsK_ahead _ _ _ _ _ _ _ hH);have hHd:=holdsK_putRowK _ _ _ blk 0 ps.toArray dk hHg hs;refine less_bids blk c Bs ps.toArray.size _ (fun t=>dk[t]!.1) ?_ (fun t ht=>?_) i j hi hj (by simpa using hsz)
   ·rw [e,cell?_putRowK_other _ _ _ blk 0 dk _ (by exact hB2),cell?_grow _ _ _ (by exact hB1)];simpa using hBs
   ·rw [e];have:=(hHd.cell (i:=t) (c:=0) (by omega) (by omega)).1;rw [Nat.zero_add] at this;exact this
  have hS:=Any.sort_Slice_cells_sorted Tryz.laysGg6 30 64 lvT lvE (by kernel_rfl) (by kernel_rfl) (by kernel_rfl) (by kernel_rfl) 25 (fun _=>by kernel_rfl) (encL n T) 3 (fun _=>rfl) (by kernel_rfl) (fun _=>by kernel_rfl)
   (fun x v hv=>by simp [encL] at hv;rcases hv with rfl|rfl|rfl<;>rfl) ltB swo_ltB 74 _
   (enters_of Tryz.func74 (by kernel_rfl) rfl) blk 0 c ps.toArray (by simpa using h2) (by simpa using hsz) 166 (by rw [lvK _ (by simpa using h2)];kernel_rfl) false
   (fun args W=>run_callFunc_extern Tryz.func166 (by kernel_rfl) (by kernel_rfl) (by kernel_rfl) (e:=Extern.ReflectliteSwapper.swap false) (by kernel_rfl) args W) w hless hH hblk
  have hz:ps.toArray.size=ps.length:=by simp
  rw [hz] at hS
  change Calls Tryz.prog 71 _ _ _ at hS
  refine hS.mono ?_;rintro e w' ⟨rfl,d',n',os,hp,hso,rfl⟩;obtain ⟨p1,_,p3⟩:=hp;have hd:d'.size=ps.length:=by simpa using p1
  refine ⟨rfl,d'.toList,?_,?_,?_,grow_lv n T w n' blk d' os⟩
  ·have e1:d'.extract 0 ps.length=d':=by rw [← hd];simp
   have e2:ps.toArray.extract 0 ps.length=ps.toArray:=by rw [← hz];simp
   rw [e1,e2] at p3;simpa using p3
  ·rw [List.pairwise_iff_getElem];intro i j hi hj hij;have:=hso i j (Nat.zero_le _) hij (by simpa [hd] using hj);have hi':i<d'.size:=by simpa using hi
   have hj':j<d'.size:=by simpa using hj
   simpa [hi',hj'] using this
  ·have:=holdsK_putRowK (encL n T) 3 (Sort.ahead w n') blk 0 ps.toArray d' (holdsK_ahead _ _ _ _ _ _ _ hH) (by simpa using p1);simpa using holdsK_grow (encL n T) 3 _ os blk 0 _ (by simpa [putRowK] using hblk) this
 ·have ht:∀ f,Tryz.prog.funcs.findIdx? (·.name =="internal/reflectlite" ++".Swapper$" ++ toString (Lib.swapperK ps.length lvE 25))=some f→_:=fun f hf =>
   Any.sort_Slice_tiny Tryz.laysGg6 30 64 lvT lvE (by kernel_rfl) (by kernel_rfl) (by kernel_rfl) (by kernel_rfl) 25 (fun _=>by kernel_rfl) (some ⟨blk,0,none⟩) ps.length c (by omega) f hf (.func 74) #[] #[.pointer (some ⟨Bs,0,none⟩)] w
  have hfin:Calls Tryz.prog 71 #[.iface 30 (.slice (some ⟨blk,0,none⟩) ps.length c),.func (.func 74) #[] #[.pointer (some ⟨Bs,0,none⟩)]] w fun e w'=>e=.returned (.tuple #[])∧∃ os,w'=grow w os:=by
   rcases Nat.lt_or_ge ps.length 1 with h0|h1
   ·have e0:ps.length=0:=by omega
    exact ht 158 (by rw [e0];kernel_rfl)
   ·have e1:ps.length=1:=by omega
    exact ht 159 (by rw [e1];kernel_rfl)
  refine hfin.mono ?_;rintro e w' ⟨rfl,os,rfl⟩;refine ⟨rfl,ps,List.Perm.refl _,?_,holdsK_grow (encL n T) 3 w os blk 0 _ hblk hH,⟨rfl,rfl,rfl,by simp [grow],fun k hk _=>by simp only [grow];rw [Array.getElem?_append_left hk]⟩⟩
  match ps,h2 with
  | [],_=>exact List.Pairwise.nil
  | [x],_=>exact List.pairwise_singleton _ _
  | _ :: _ :: _,h=>exact absurd (by simp) h
theorem flat_get (n:Nat) (T:List St.Tr):∀ (D:List (Int×Nat)) (j c:Nat),j<D.length→c<3→(D.flatMap (encL n T))[j*3+c]?=(encL n T (D[j]?.getD (0,0)))[c]?
 | [],j,c,hj,_=>absurd hj (by simp)
 | d :: D,0,c,_,hc=>by
  rw [List.flatMap_cons,List.getElem?_append_left (by rw [encL_len];omega),Nat.zero_mul,Nat.zero_add]
  rfl
 | d :: D,j+1,c,hj,hc=>by
  rw [List.flatMap_cons,List.getElem?_append_right (by rw [encL_len];omega),encL_len,show (j+1)*3+c-3=j*3+c by omega,flat_get n T D j c (by simpa using hj) hc]
  rfl
theorem Own.holds {base n:Nat} {T:List St.Tr} {w:World} {g cap:Nat} {D:List (Int×Nat)} (h:Own base 64 3 w (some ⟨g,0,none⟩) D.length cap (D.flatMap (encL n T))):HoldsK (encL n T) 3 w g 0 D.toArray∧base≤g∧g<w.heap.size:=by
 obtain ⟨g',cap',cur,hv,hb,hg,_⟩:∃ g' cap' cur,(Value.slice (some ⟨g,0,none⟩) D.length cap)=.slice (some ⟨g',0,none⟩) D.length cap'∧base≤g'∧w.heap[g']?=some (.cells cur 64 (0,0))∧True:=by
  rcases h.2 with ⟨h7,_⟩|⟨g',cap',cur',h7,h8,h9,_⟩
  ·simp at h7
  ·exact ⟨g',cap',cur',h7,h8,h9,trivial⟩
 simp at hv;obtain ⟨rfl,rfl⟩:=hv;refine ⟨fun j hj=>?_,hb,(Array.getElem?_eq_some_iff.1 hg).1⟩;have hj':j<D.length*3:=by simpa using hj
 rw [get_flatK _ _ _ _ (by simpa using hj')];have hd:j / 3<D.length:=by omega
 have h3:j % 3<3:=Nat.mod_lt _ (by omega);have eg:D.toArray[j / 3]! = D[j / 3]?.getD (0,0):=by
  simp [hd,List.getElem?_eq_getElem hd]
 refine ⟨?_,Blk.frozen (t:=64) hg _⟩;rw [Nat.zero_add,World.ownsRow.cellAt h j (by omega)];have ej:j=j / 3*3+j % 3:=by omega
 have:=flat_get n T D (j / 3) (j % 3) hd h3;rw [← ej] at this;rw [this,eg,List.getElem?_eq_getElem (by rw [encL_len];exact h3),getElem!_pos _ _ (by rw [encL_len];exact h3)]
 rfl
end Go.Proofs.YtjajigkacccdgaaGreat
namespace Go.Proofs.YtjajigkacccdgaaGreat
open Go.RowKit
open Go.Sort (HoldsK)
open Wd
def ckF (up:Bool):Nat→List (List (Int×Int))→Int×Int
 | _,[]=>(0,0)
 | k,l :: ls=>if chk up l≠0 then ((k:Int),chk up l) else ckF up (k+1) ls
def ckC (up:Bool) (ls:List (List (Int×Int))):Int×Int:=if 16<ls.length then (0,5) else ckF up 0 ls
theorem dropL {ls:List (List (Int×Int))} {k:Nat} (hk:k<ls.length):ls.drop k=(ls[k]?.getD []) :: ls.drop (k+1):=by
 rw [List.drop_eq_getElem_cons hk,List.getElem?_eq_getElem hk];rfl
theorem ckF_good {up:Bool}:∀ {ls:List (List (Int×Int))} {k:Nat},(ckF up k ls).2=0→∀ l∈ls,chk up l=0
 | [],_,_,l,hl=>by simp at hl
 | x :: ls,k,h,l,hl=>by
  rw [ckF] at h;by_cases hx:chk up x=0
  ·rw [if_neg (by simpa using hx)] at h;rcases List.mem_cons.1 hl with rfl|hl
   ·exact hx
   ·exact ckF_good h l hl
  ·rw [if_pos hx] at h;exact absurd h hx
theorem ckC_good {up:Bool} {ls:List (List (Int×Int))} (h:(ckC up ls).2=0):ls.length≤16∧(∀ l∈ls,chk up l=0)∧Good ls:=by
 unfold ckC at h;split at h
 ·simp at h
 ·rename_i hn
  have hg:=ckF_good h;exact ⟨by omega,hg,fun l hl=>⟨(chk_ok (hg l hl)).2.1,(chk_ok (hg l hl)).2.2.2⟩⟩
theorem ccurves_offers (A:Option Addr) (n c:Nat) (ls:List (List (Int×Int))) (w:World) (h:CsAt w A n ls) (hs:∀ l∈ls,l.length≤1000000000000) :
  Calls Tryz.prog 68 #[.slice A n c,.func (.func 69) #[] #[]] w fun e w'=>e=.returned (.tuple #[.int .i64 (ckC true ls).1,.int .i64 (ckC true ls).2])∧Below w.heap.size w w':=by
 by_cases h5:16<n
 ·have e:ckC true ls=(0,5):=by unfold ckC;rw [if_pos (by rw [h.1];exact h5)]
  have d5:decide ((16:Int)<(n:Int))=true:=by simp;omega
  rw [e];clear h e hs;go_enter Tryz.func68,Tryz.ntmps68;go_wp2;go_ret2;exact ⟨rfl,Below.refl _ _⟩
 ·have e:ckC true ls=ckF true 0 ls:=by unfold ckC;rw [if_neg (by rw [h.1];exact h5)]
  have d5:decide ((16:Int)<(n:Int))=false:=by simp;omega
  have HE:=Hj e;have HC:=Hj h;have HLN:=Hj h.1;have HS:=Hj hs;clear e h hs;go_enter Tryz.func68,Tryz.ntmps68
  go_wp2_with fail
  go_loopw [14] (fun t wr=>∃ k:Nat,k≤n∧t=.int .i64 k∧Hid (ckF true 0 ls=ckF true k (ls.drop k))∧Hid (Below w.heap.size w wr)) (fun t _=>n-(intOf t).toNat)
  case atStart=>exact ⟨0,Nat.zero_le _,rfl,rfl,Below.refl _ _⟩
  case round =>
   obtain ⟨k,hk,rfl,hR,hB⟩:=hrel;by_cases hlt:k<n
   ·obtain ⟨b,o,rfl,hb,hcell⟩:=HC.out.2 (by omega);obtain ⟨A',n',c',hci,hsi⟩:=hcell k hlt;have hc2:=(hB.out.cell (p:=⟨b,o+k,none⟩) hb).trans hci;have hn':n'≤1000000000000:=by
     rw [← hsi.1];exact HS.out _ (getD_mem (d:=[]) (show k<ls.length by rw [HLN.out];exact hlt))
    have hr:=hR.out;rw [dropL (by rw [HLN.out];exact hlt),ckF] at hr;have T:=checkOffer_any A' n' c' _ wr (hsi.below hB.out) hn';have hki1:(0:Int)≤(k:Int):=by omega
    have hki2:(k:Int)<(n:Int):=by omega
    generalize ls[k]?.getD []=l at *;clear hcell hci hsi;by_cases hz:chk true l=0
    ·rw [if_neg (by simpa using hz)] at hr;rw [hz] at T;have HT:=Hj T;have HR:=Hj hr;clear T hr hz hR
     go_wp2_with fail
     refine HT.out.mono ?_;rintro e w2 ⟨rfl,hb2⟩;have HB2:=Hj (hB.out.trans (hb2.mono hB.out.size));clear hb2 HT;go_wp2;go_roundw
     case rel=>exact ⟨k+1,by omega,by go_num,HR.out,HB2.out⟩
     case measure=>simp [intOf];omega
    ·rw [if_pos hz] at hr;generalize chk true l=x at *;have hx:(x != 0)=true:=by simpa using hz
     have HT:=Hj T;have HR:=Hj hr;clear T hr hz hR
     go_wp2_with fail
     refine HT.out.mono ?_;rintro e w2 ⟨rfl,hb2⟩;have HB2:=Hj (hB.out.trans (hb2.mono hB.out.size));clear hb2 HT;go_wp2;go_ret2;rw [HE.out,HR.out];exact ⟨rfl,HB2.out⟩
   ·obtain rfl:k=n:=by omega
    have hr:=hR.out;rw [List.drop_of_length_le (by rw [HLN.out];exact Nat.le_refl _),ckF] at hr;have HR:=Hj hr;clear hr hR;go_wp2;go_ret2;rw [HE.out,HR.out];exact ⟨rfl,hB.out⟩
theorem ccurves_bids (A:Option Addr) (n c:Nat) (ls:List (List (Int×Int))) (w:World) (h:CsAt w A n ls) (hs:∀ l∈ls,l.length≤1000000000000) :
  Calls Tryz.prog 68 #[.slice A n c,.func (.func 73) #[] #[]] w fun e w'=>e=.returned (.tuple #[.int .i64 (ckC false ls).1,.int .i64 (ckC false ls).2])∧Below w.heap.size w w':=by
 by_cases h5:16<n
 ·have e:ckC false ls=(0,5):=by unfold ckC;rw [if_pos (by rw [h.1];exact h5)]
  have d5:decide ((16:Int)<(n:Int))=true:=by simp;omega
  rw [e];clear h e hs;go_enter Tryz.func68,Tryz.ntmps68;go_wp2;go_ret2;exact ⟨rfl,Below.refl _ _⟩
 ·have e:ckC false ls=ckF false 0 ls:=by unfold ckC;rw [if_neg (by rw [h.1];exact h5)]
  have d5:decide ((16:Int)<(n:Int))=false:=by simp;omega
  have HE:=Hj e;have HC:=Hj h;have HLN:=Hj h.1;have HS:=Hj hs;clear e h hs;go_enter Tryz.func68,Tryz.ntmps68
  go_wp2_with fail
  go_loopw [14] (fun t wr=>∃ k:Nat,k≤n∧t=.int .i64 k∧Hid (ckF false 0 ls=ckF false k (ls.drop k))∧Hid (Below w.heap.size w wr)) (fun t _=>n-(intOf t).toNat)
  case atStart=>exact ⟨0,Nat.zero_le _,rfl,rfl,Below.refl _ _⟩
  case round =>
   obtain ⟨k,hk,rfl,hR,hB⟩:=hrel;by_cases hlt:k<n
   ·obtain ⟨b,o,rfl,hb,hcell⟩:=HC.out.2 (by omega);obtain ⟨A',n',c',hci,hsi⟩:=hcell k hlt;have hc2:=(hB.out.cell (p:=⟨b,o+k,none⟩) hb).trans hci;have hn':n'≤1000000000000:=by
     rw [← hsi.1];exact HS.out _ (getD_mem (d:=[]) (show k<ls.length by rw [HLN.out];exact hlt))
    have hr:=hR.out;rw [dropL (by rw [HLN.out];exact hlt),ckF] at hr;have T:=checkBid_any A' n' c' _ wr (hsi.below hB.out) hn';have hki1:(0:Int)≤(k:Int):=by omega
    have hki2:(k:Int)<(n:Int):=by omega
    generalize ls[k]?.getD []=l at *;clear hcell hci hsi;by_cases hz:chk false l=0
    ·rw [if_neg (by simpa using hz)] at hr;rw [hz] at T;have HT:=Hj T;have HR:=Hj hr;clear T hr hz hR
     go_wp2_with fail
     refine HT.out.mono ?_;rintro e w2 ⟨rfl,hb2⟩;have HB2:=Hj (hB.out.trans (hb2.mono hB.out.size));clear hb2 HT;go_wp2;go_roundw
     case rel=>exact ⟨k+1,by omega,by go_num,HR.out,HB2.out⟩
     case measure=>simp [intOf];omega
    ·rw [if_pos hz] at hr;generalize chk false l=x at *;have hx:(x != 0)=true:=by simpa using hz
     have HT:=Hj T;have HR:=Hj hr;clear T hr hz hR
     go_wp2_with fail
     refine HT.out.mono ?_;rintro e w2 ⟨rfl,hb2⟩;have HB2:=Hj (hB.out.trans (hb2.mono hB.out.size));clear hb2 HT;go_wp2;go_ret2;rw [HE.out,HR.out];exact ⟨rfl,HB2.out⟩
   ·obtain rfl:k=n:=by omega
    have hr:=hR.out;rw [List.drop_of_length_le (by rw [HLN.out];exact Nat.le_refl _),ckF] at hr;have HR:=Hj hr;clear hr hR;go_wp2;go_ret2;rw [HE.out,HR.out];exact ⟨rfl,hB.out⟩
def LvO (base n:Nat) (w:World) (mg:Nat) (T:List St.Tr) (D:List (Int×Nat)):Prop :=
 base≤mg∧mg<w.heap.size∧HoldsK (encL n T) 3 w mg 0 D.toArray∧(∀ d∈D,base≤d.2∧d.2≠mg∧IRow w d.2 (St.parts n T d.1))∧(D.map (·.2)).Nodup
def Stk (up:Bool) (n:Nat) (T:List St.Tr) (w:World) (e:Ending) (w':World):Prop :=
 ∃ (D:List (Int×Nat)) (mg cap:Nat),e=.returned (.tuple #[.slice (some ⟨mg,0,none⟩) D.length cap,.int .i64 0,.int .i64 0])∧(D.map (·.1)).Pairwise (St.ltU up)∧(D.map (·.1)).Perm (St.pr T)∧LvO w.heap.size n w' mg T D∧Below w.heap.size w w'
theorem pair_strict {up:Bool} {D:List (Int×Nat)} (hn:(D.map (·.1)).Nodup) (h:D.Pairwise fun a b=>¬ St.ltU up b.1 a.1):(D.map (·.1)).Pairwise (St.ltU up):=by
 rw [List.pairwise_map];have h2:D.Pairwise fun a b=>a.1≠b.1:=List.pairwise_map.1 hn;refine (h.and h2).imp fun {a b} hab=>?_;obtain ⟨h3,h4⟩:=hab;unfold St.ltU at *;split<;>rename_i hu<;>simp [hu] at h3<;>omega
theorem merge_offers_ok (A:Option Addr) (n c:Nat) (ls:List (List (Int×Int))) (w:World) (h:CsAt w A n ls) (hs:∀ l∈ls,l.length≤1000000000000) (hc:(ckC true ls).2=0) :
  Calls Tryz.prog 16 #[.slice A n c] w (Stk true n (St.tri 0 ls) w):=by
 have T1:=fun W (hW:Below w.heap.size w W)=>ccurves_offers A n c ls W (h.below hW) hs;obtain ⟨hn,_,hg⟩:=ckC_good hc;rw [hc] at T1;have T2:=fun W (hW:Below w.heap.size w W)=>collect_any A n c ls W (h.below hW) (by rw [← h.1];exact hn) hg;have hT:(St.pr (St.tri 0 ls)).length≤48:=by
  have a1:=St.pr_len (St.tri 0 ls);have a2:=St.tri_len ls 0 fun l hl=>(hg l hl).1;omega
 generalize (ckC true ls).1=pl at *;have HT1:=Hj T1;have HT2:=Hj T2;generalize St.tri 0 ls=T at *;clear T1 T2 h hs hc hg;go_enter Tryz.func16,Tryz.ntmps16
 go_wp2_with fail
 have hbx:=Blk.new w 30 #[.slice none 0 0];have hb0:Below w.heap.size w (w.alloc (.cells #[.slice none 0 0] 30)):=(Below.refl _ _).alloc (Nat.le_refl _) _;generalize w.alloc (.cells #[.slice none 0 0] 30)=W at *;refine (HT1.out W hb0).mono ?_;rintro e w1 ⟨rfl,hb1⟩;have HBX1:=Hj (hbx.below hb1 hbx.lt);have HB1:=Hj (hb0.trans (hb1.mono hb0.size));clear hbx hb0 hb1 HT1
 go_wp2_with fail
 refine (HT2.out w1 HB1.out).mono ?_;rintro e w2 ⟨D,mg,cap,rfl,hp,hO,hrow,hnd,hb2⟩;have hbx2:=HBX1.out.below hb2 HBX1.out.lt;have hB2:=HB1.out.trans (hb2.mono HB1.out.size);have hx1:=HBX1.out.lt;obtain ⟨hH,hmg1,hmg2⟩:=hO.holds;have hfz:=hbx2.frozen 0;have hbx3:=hbx2.set 0 (.slice (some ⟨mg,0,none⟩) D.length cap);have hcell:=hbx2.cell 0;have hcell3:=hbx3.cell 0;simp at hcell3;have hH3:HoldsK (encL n T) 3 (w2.setCell ⟨w.heap.size,0,none⟩ (.slice (some ⟨mg,0,none⟩) D.length cap)) mg 0 D.toArray:=(hO.aside (p:=⟨w.heap.size,0,none⟩) hx1 _).holds.1;have hrow3:∀ d∈D,w1.heap.size≤d.2∧IRow (w2.setCell ⟨w.heap.size,0,none⟩ (.slice (some ⟨mg,0,none⟩) D.length cap)) d.2 (St.parts n T d.1):=fun d hd=>⟨(hrow d hd).1,Blk.far (hrow d hd).2 (p:=⟨w.heap.size,0,none⟩) (by have:=(hrow d hd).1;simp;omega) _⟩;have hB3:=hB2.setCell (p:=⟨w.heap.size,0,none⟩) (Nat.le_refl _) (.slice (some ⟨mg,0,none⟩) D.length cap);have hs3:(w2.setCell ⟨w.heap.size,0,none⟩ (.slice (some ⟨mg,0,none⟩) D.length cap)).heap.size=w2.heap.size:=by simp [World.setCell]
 have hsm:=sort_offers n T mg cap w.heap.size D _ hH3 (by rw [hs3];exact hmg2) hcell3 (by rw [hs3];exact Nat.lt_of_lt_of_le hx1 hb2.size) (by omega) (by
  have a1:=hp.length_eq;rw [List.length_map] at a1;omega)
 have HSM:=Hj hsm;have HROW:=Hj hrow3;have HP:=Hj hp;have HND:=Hj hnd;have HB3:=Hj hB3;have HOB:=Hj hO;have HBX3:=Hj hbx3;clear hsm hrow3 hp hnd hB3 hO hbx3 hH hH3 hrow hbx2 hB2 hb2 HT2
 go_wp2_with fail
 refine HSM.out.mono ?_;rintro e w3 ⟨rfl,D',q1,q2,q3,q4⟩;have hbx4:=(q4.block w.heap.size HBX3.out.lt (by simp;omega)).trans HBX3.out;have hB4:Below w.heap.size w w3:=HB3.out.trans ⟨q4.os,q4.tape,q4.output,q4.size,fun k hk=>q4.block k (by have:=HB3.out.size;omega) (by simp;omega)⟩;have hmgr:∀ d∈D,d.2≠mg:=fun d hd e=>by
  have h1:=(HROW.out d hd).2;rw [e] at h1;have h2:=HOB.out.aside (p:=⟨w.heap.size,0,none⟩) hx1 (.slice (some ⟨mg,0,none⟩) D.length cap);rcases h2.2 with ⟨h7,_⟩|⟨g',cap',cur',h7,_,h8,_⟩
  ·simp at h7
  ·simp at h7;obtain ⟨rfl,_⟩:=h7;unfold IRow Blk at h1;rw [h8] at h1;simp at h1
 have hdl:D'.length=D.length:=q1.length_eq;have hfin:LvO w.heap.size n w3 mg T D':=by
  refine ⟨by have:=HB1.out.size;omega,Nat.lt_of_lt_of_le (by rw [hs3];exact hmg2) q4.size,q3,fun d hd=>?_,(q1.map (·.2)).nodup_iff.2 HND.out⟩;have hd':=q1.mem_iff.1 hd;have h1:=HROW.out d hd';refine ⟨by have:=HB1.out.size;omega,hmgr d hd',(q4.block d.2 (Blk.lt h1.2) (by have:=hmgr d hd';simp;omega)).trans h1.2⟩
 have hps:(D'.map (·.1)).Pairwise (St.ltU true):=pair_strict ((q1.map (·.1)).nodup_iff.2 (HP.out.nodup_iff.2 (St.pr_nodup T))) (q2.imp fun {a b} hab=>by simpa [ltO,St.ltU] using hab);have hpp:(D'.map (·.1)).Perm (St.pr T):=(q1.map (·.1)).trans HP.out;have HF:=Hj hfin;have HPS:=Hj hps;have HPP:=Hj hpp;have HB4:=Hj hB4
 change Blk w3 _ _ _ at hbx4
 have hc4:=hbx4.cell 0;have hf4:=hbx4.frozen 0;simp at hc4;have hbx5:=hbx4.set 0 (.slice (some ⟨mg,0,none⟩) D.length cap);have hc5:=hbx5.cell 0;simp at hc5;have hfin2:Stk true n T w (.returned (.tuple #[.slice (some ⟨mg,0,none⟩) D.length cap,.int .i64 0,.int .i64 0])) (w3.setCell ⟨w.heap.size,0,none⟩ (.slice (some ⟨mg,0,none⟩) D.length cap)):=by
  obtain ⟨g1,g2,g3,g4,g5⟩:=hfin;refine ⟨D',mg,cap,by rw [hdl],hps,hpp,⟨g1,by simpa [World.setCell] using g2,?_,fun d hd=>⟨(g4 d hd).1,(g4 d hd).2.1,Blk.far (g4 d hd).2.2 (p:=⟨w.heap.size,0,none⟩) (by have:=HROW.out d (q1.mem_iff.1 hd);simp;omega) _⟩,g5⟩,hB4.setCell (p:=⟨w.heap.size,0,none⟩) (Nat.le_refl _) _⟩;intro j hj;have:=g3 j hj;have hne:mg≠w.heap.size:=by omega
  have hblk:=Below.heap_setCell w3 ⟨w.heap.size,0,none⟩ (.slice (some ⟨mg,0,none⟩) D.length cap) mg hne;exact ⟨(World.cell?_of_block hblk).trans this.1,(World.frozen?_of_block hblk).trans this.2⟩
 have HFIN:=Hj hfin2;clear hfin2 hfin hps hpp hB4 HF HPS HPP HB4 q1 q2 q3 q4 HROW HP HND HB3 HOB HBX3 hbx4 hbx5 hcell hcell3 hfz;go_wp2;refine bodyPost_ret (v:=.tuple #[.slice (some ⟨mg,0,none⟩) D.length cap,.int .i64 0,.int .i64 0]) ?_ rfl HFIN.out;simp [results,Tryz.results16,go_sem,hc5]
theorem merge_bids_ok (A:Option Addr) (n c:Nat) (ls:List (List (Int×Int))) (w:World) (h:CsAt w A n ls) (hs:∀ l∈ls,l.length≤1000000000000) (hc:(ckC false ls).2=0) :
  Calls Tryz.prog 17 #[.slice A n c] w (Stk false n (St.tri 0 ls) w):=by
 have T1:=fun W (hW:Below w.heap.size w W)=>ccurves_bids A n c ls W (h.below hW) hs;obtain ⟨hn,_,hg⟩:=ckC_good hc;rw [hc] at T1;have T2:=fun W (hW:Below w.heap.size w W)=>collect_any A n c ls W (h.below hW) (by rw [← h.1];exact hn) hg;have hT:(St.pr (St.tri 0 ls)).length≤48:=by
  have a1:=St.pr_len (St.tri 0 ls);have a2:=St.tri_len ls 0 fun l hl=>(hg l hl).1;omega
 generalize (ckC false ls).1=pl at *;have HT1:=Hj T1;have HT2:=Hj T2;generalize St.tri 0 ls=T at *;clear T1 T2 h hs hc hg;go_enter Tryz.func17,Tryz.ntmps17
 go_wp2_with fail
 have hbx:=Blk.new w 30 #[.slice none 0 0];have hb0:Below w.heap.size w (w.alloc (.cells #[.slice none 0 0] 30)):=(Below.refl _ _).alloc (Nat.le_refl _) _;generalize w.alloc (.cells #[.slice none 0 0] 30)=W at *;refine (HT1.out W hb0).mono ?_;rintro e w1 ⟨rfl,hb1⟩;have HBX1:=Hj (hbx.below hb1 hbx.lt);have HB1:=Hj (hb0.trans (hb1.mono hb0.size));clear hbx hb0 hb1 HT1
 go_wp2_with fail
 refine (HT2.out w1 HB1.out).mono ?_;rintro e w2 ⟨D,mg,cap,rfl,hp,hO,hrow,hnd,hb2⟩;have hbx2:=HBX1.out.below hb2 HBX1.out.lt;have hB2:=HB1.out.trans (hb2.mono HB1.out.size);have hx1:=HBX1.out.lt;obtain ⟨hH,hmg1,hmg2⟩:=hO.holds;have hfz:=hbx2.frozen 0;have hbx3:=hbx2.set 0 (.slice (some ⟨mg,0,none⟩) D.length cap);have hcell:=hbx2.cell 0;have hcell3:=hbx3.cell 0;simp at hcell3;have hH3:HoldsK (encL n T) 3 (w2.setCell ⟨w.heap.size,0,none⟩ (.slice (some ⟨mg,0,none⟩) D.length cap)) mg 0 D.toArray:=(hO.aside (p:=⟨w.heap.size,0,none⟩) hx1 _).holds.1;have hrow3:∀ d∈D,w1.heap.size≤d.2∧IRow (w2.setCell ⟨w.heap.size,0,none⟩ (.slice (some ⟨mg,0,none⟩) D.length cap)) d.2 (St.parts n T d.1):=fun d hd=>⟨(hrow d hd).1,Blk.far (hrow d hd).2 (p:=⟨w.heap.size,0,none⟩) (by have:=(hrow d hd).1;simp;omega) _⟩;have hB3:=hB2.setCell (p:=⟨w.heap.size,0,none⟩) (Nat.le_refl _) (.slice (some ⟨mg,0,none⟩) D.length cap);have hs3:(w2.setCell ⟨w.heap.size,0,none⟩ (.slice (some ⟨mg,0,none⟩) D.length cap)).heap.size=w2.heap.size:=by simp [World.setCell]
 have hsm:=sort_bids n T mg cap w.heap.size D _ hH3 (by rw [hs3];exact hmg2) hcell3 (by rw [hs3];exact Nat.lt_of_lt_of_le hx1 hb2.size) (by omega) (by
  have a1:=hp.length_eq;rw [List.length_map] at a1;omega)
 have HSM:=Hj hsm;have HROW:=Hj hrow3;have HP:=Hj hp;have HND:=Hj hnd;have HB3:=Hj hB3;have HOB:=Hj hO;have HBX3:=Hj hbx3;clear hsm hrow3 hp hnd hB3 hO hbx3 hH hH3 hrow hbx2 hB2 hb2 HT2
 go_wp2_with fail
 refine HSM.out.mono ?_;rintro e w3 ⟨rfl,D',q1,q2,q3,q4⟩;have hbx4:=(q4.block w.heap.size HBX3.out.lt (by simp;omega)).trans HBX3.out;have hB4:Below w.heap.size w w3:=HB3.out.trans ⟨q4.os,q4.tape,q4.output,q4.size,fun k hk=>q4.block k (by have:=HB3.out.size;omega) (by simp;omega)⟩;have hmgr:∀ d∈D,d.2≠mg:=fun d hd e=>by
  have h1:=(HROW.out d hd).2;rw [e] at h1;have h2:=HOB.out.aside (p:=⟨w.heap.size,0,none⟩) hx1 (.slice (some ⟨mg,0,none⟩) D.length cap);rcases h2.2 with ⟨h7,_⟩|⟨g',cap',cur',h7,_,h8,_⟩
  ·simp at h7
  ·simp at h7;obtain ⟨rfl,_⟩:=h7;unfold IRow Blk at h1;rw [h8] at h1;simp at h1
 have hdl:D'.length=D.length:=q1.length_eq;have hfin:LvO w.heap.size n w3 mg T D':=by
  refine ⟨by have:=HB1.out.size;omega,Nat.lt_of_lt_of_le (by rw [hs3];exact hmg2) q4.size,q3,fun d hd=>?_,(q1.map (·.2)).nodup_iff.2 HND.out⟩;have hd':=q1.mem_iff.1 hd;have h1:=HROW.out d hd';refine ⟨by have:=HB1.out.size;omega,hmgr d hd',(q4.block d.2 (Blk.lt h1.2) (by have:=hmgr d hd';simp;omega)).trans h1.2⟩
 have hps:(D'.map (·.1)).Pairwise (St.ltU false):=pair_strict ((q1.map (·.1)).nodup_iff.2 (HP.out.nodup_iff.2 (St.pr_nodup T))) (q2.imp fun {a b} hab=>by simpa [ltB,St.ltU] using hab);have hpp:(D'.map (·.1)).Perm (St.pr T):=(q1.map (·.1)).trans HP.out;have HF:=Hj hfin;have HPS:=Hj hps;have HPP:=Hj hpp;have HB4:=Hj hB4
 change Blk w3 _ _ _ at hbx4
 have hc4:=hbx4.cell 0;have hf4:=hbx4.frozen 0;simp at hc4;have hbx5:=hbx4.set 0 (.slice (some ⟨mg,0,none⟩) D.length cap);have hc5:=hbx5.cell 0;simp at hc5;have hfin2:Stk false n T w (.returned (.tuple #[.slice (some ⟨mg,0,none⟩) D.length cap,.int .i64 0,.int .i64 0])) (w3.setCell ⟨w.heap.size,0,none⟩ (.slice (some ⟨mg,0,none⟩) D.length cap)):=by
  obtain ⟨g1,g2,g3,g4,g5⟩:=hfin;refine ⟨D',mg,cap,by rw [hdl],hps,hpp,⟨g1,by simpa [World.setCell] using g2,?_,fun d hd=>⟨(g4 d hd).1,(g4 d hd).2.1,Blk.far (g4 d hd).2.2 (p:=⟨w.heap.size,0,none⟩) (by have:=HROW.out d (q1.mem_iff.1 hd);simp;omega) _⟩,g5⟩,hB4.setCell (p:=⟨w.heap.size,0,none⟩) (Nat.le_refl _) _⟩;intro j hj;have:=g3 j hj;have hne:mg≠w.heap.size:=by omega
  have hblk:=Below.heap_setCell w3 ⟨w.heap.size,0,none⟩ (.slice (some ⟨mg,0,none⟩) D.length cap) mg hne;exact ⟨(World.cell?_of_block hblk).trans this.1,(World.frozen?_of_block hblk).trans this.2⟩
 have HFIN:=Hj hfin2;clear hfin2 hfin hps hpp hB4 HF HPS HPP HB4 q1 q2 q3 q4 HROW HP HND HB3 HOB HBX3 hbx4 hbx5 hcell hcell3 hfz;go_wp2;refine bodyPost_ret (v:=.tuple #[.slice (some ⟨mg,0,none⟩) D.length cap,.int .i64 0,.int .i64 0]) ?_ rfl HFIN.out;simp [results,Tryz.results17,go_sem,hc5]
structure KW (W:World) where
 w:World
 h:Kp W w
instance KW.some (W:World):Nonempty (KW W):=⟨⟨W,Kp.refl W⟩⟩
theorem wp_region_kw {P:Program} {id:Nat} {Q:Exit→Act→World→Prop} {a:Act} {W:World} {l:List Oper} (hm:P.follows .mixedOrders=true) (hB:Region.lexB .any l.toArray=true)
  (h:wpQuiet P l.toArray (fun w'=>∃ s:KW W,w'=s.w) (fun a'=>∀ w',(∃ s:KW W,w'=s.w)→Q .normal a' w') l a):(Code.region id l.toArray true).wp P Q a W :=
 wp_region_quiet (C:=fun w'=>∃ s:KW W,w'=s.w) hm hB ⟨⟨W.drew,Kp.drew (Kp.refl W)⟩,rfl⟩ (by simpa using h)
theorem kw_call {P:Program} {f:FuncId} {args:Array Value} {W:World} {s:KW W} {v:Value} (h:Calls P f args s.w fun e w'=>e=.returned v∧Below s.w.heap.size s.w w') :
  Calls P f args s.w fun e w''=>e=.returned v∧∃ s':KW W,w''=s'.w :=
 h.mono fun _ w' ⟨he,hb⟩=>⟨he,⟨w',Kp.trans s.h hb⟩,rfl⟩
end Go.Proofs.YtjajigkacccdgaaGreat
