/-
Lemmas of the walk; no further conditions.
-/
import Derived.Ground.GgsProg
import Derived.Shelf.GgSortFunc.Small
import Derived.Shelf.GgSortFunc.Tiny
import Derived.Shelf.SlSortFuncK.WholeK
import Derived.Test.YtjajigkacccdgaaGreatProg
import Derived.Test.YtjajigkacccdgaaGreatThAS
set_option linter.unusedVariables false
set_option linter.unusedSimpArgs false
set_option maxRecDepth 100000
set_option maxHeartbeats 16000000
namespace Go.Proofs.YtjajigkacccdgaaGreat
open Go.Shelf
def Tryz.laysGg6_ren:Go.Shelf.Ren:=⟨fun|6=>71|10=>121|11=>122|12=>123|13=>124|14=>125|24=>167|25=>168|26=>169|27=>170|28=>171|29=>172|30=>173|31=>174|32=>175|33=>176|34=>205|35=>206|36=>207|37=>208|38=>209|39=>221|n=>n,fun|20=>20|26=>104|35=>153|0=>0|37=>155|3=>3|41=>159|44=>162|49=>59|51=>164|4=>4|54=>191|53=>190|58=>195|5=>5|9=>9|60=>209|64=>213|66=>227|67=>228|17=>17|32=>150|33=>151|82=>247|12=>12|75=>240|76=>241|77=>242|78=>243|79=>244|80=>245|n=>n,fun|n=>n⟩
theorem Tryz.laysGg6:LaysGg.n6 Tryz.prog Tryz.laysGg6_ren:={
 mixed:=by kernel_rfl
 f6:=Tryz.func71.trans (congrArg some (by kernel_rfl))
 f10:=Tryz.func121.trans (congrArg some (by kernel_rfl))
 f11:=Tryz.func122.trans (congrArg some (by kernel_rfl))
 f12:=Tryz.func123.trans (congrArg some (by kernel_rfl))
 f13:=Tryz.func124.trans (congrArg some (by kernel_rfl))
 f14:=Tryz.func125.trans (congrArg some (by kernel_rfl))
 f24:=Tryz.func167.trans (congrArg some (by kernel_rfl))
 f25:=Tryz.func168.trans (congrArg some (by kernel_rfl))
 f26:=Tryz.func169.trans (congrArg some (by kernel_rfl))
 f27:=Tryz.func170.trans (congrArg some (by kernel_rfl))
 f28:=Tryz.func171.trans (congrArg some (by kernel_rfl))
 f29:=Tryz.func172.trans (congrArg some (by kernel_rfl))
 f30:=Tryz.func173.trans (congrArg some (by kernel_rfl))
 f31:=Tryz.func174.trans (congrArg some (by kernel_rfl))
 f32:=Tryz.func175.trans (congrArg some (by kernel_rfl))
 f33:=Tryz.func176.trans (congrArg some (by kernel_rfl))
 f34:=Tryz.func205.trans (congrArg some (by kernel_rfl))
 f35:=Tryz.func206.trans (congrArg some (by kernel_rfl))
 f36:=Tryz.func207.trans (congrArg some (by kernel_rfl))
 f37:=Tryz.func208.trans (congrArg some (by kernel_rfl))
 f38:=Tryz.func209.trans (congrArg some (by kernel_rfl))
 f39:=Tryz.func221.trans (congrArg some (by kernel_rfl))
 t0:=Tryz.underlying0
 a0:=Tryz.isAgg0
 z0:=Tryz.sizeOf0
 v0:=Tryz.zeroValue0
 i0:=by kernel_rfl
 t3:=Tryz.underlying3
 a3:=Tryz.isAgg3
 z3:=Tryz.sizeOf3
 v3:=Tryz.zeroValue3
 i3:=by kernel_rfl
 t4:=Tryz.underlying4
 a4:=Tryz.isAgg4
 z4:=Tryz.sizeOf4
 v4:=Tryz.zeroValue4
 i4:=by kernel_rfl
 t5:=Tryz.underlying5
 a5:=Tryz.isAgg5
 z5:=Tryz.sizeOf5
 v5:=Tryz.zeroValue5
 i5:=by kernel_rfl
 t9:=Tryz.underlying9
 a9:=Tryz.isAgg9
 z9:=Tryz.sizeOf9
 v9:=Tryz.zeroValue9
 i9:=by kernel_rfl
 t12:=Tryz.underlying12
 a12:=Tryz.isAgg12
 z12:=Tryz.sizeOf12
 v12:=Tryz.zeroValue12
 i12:=by kernel_rfl
 t17:=Tryz.underlying17
 a17:=Tryz.isAgg17
 z17:=Tryz.sizeOf17
 v17:=Tryz.zeroValue17
 i17:=by kernel_rfl
 t20:=Tryz.underlying20
 a20:=Tryz.isAgg20
 z20:=Tryz.sizeOf20
 v20:=Tryz.zeroValue20
 i20:=by kernel_rfl
 t26:=Tryz.underlying104
 a26:=Tryz.isAgg104
 z26:=Tryz.sizeOf104
 v26:=Tryz.zeroValue104
 i26:=by kernel_rfl
 t32:=Tryz.underlying150
 a32:=Tryz.isAgg150
 z32:=Tryz.sizeOf150
 v32:=Tryz.zeroValue150
 i32:=by kernel_rfl
 t33:=Tryz.underlying151
 a33:=Tryz.isAgg151
 z33:=Tryz.sizeOf151
 v33:=Tryz.zeroValue151
 i33:=by kernel_rfl
 t35:=Tryz.underlying153
 a35:=Tryz.isAgg153
 z35:=Tryz.sizeOf153
 v35:=Tryz.zeroValue153
 i35:=by kernel_rfl
 t37:=Tryz.underlying155
 a37:=Tryz.isAgg155
 z37:=Tryz.sizeOf155
 v37:=Tryz.zeroValue155
 i37:=by kernel_rfl
 t41:=Tryz.underlying159
 a41:=Tryz.isAgg159
 z41:=Tryz.sizeOf159
 v41:=Tryz.zeroValue159
 i41:=by kernel_rfl
 t44:=Tryz.underlying162
 a44:=Tryz.isAgg162
 z44:=Tryz.sizeOf162
 v44:=Tryz.zeroValue162
 i44:=by kernel_rfl
 t49:=Tryz.underlying59
 a49:=Tryz.isAgg59
 z49:=Tryz.sizeOf59
 v49:=Tryz.zeroValue59
 i49:=by kernel_rfl
 t51:=Tryz.underlying164
 a51:=Tryz.isAgg164
 z51:=Tryz.sizeOf164
 v51:=Tryz.zeroValue164
 i51:=by kernel_rfl
 t53:=Tryz.underlying190
 a53:=Tryz.isAgg190
 z53:=Tryz.sizeOf190
 v53:=Tryz.zeroValue190
 i53:=by kernel_rfl
 t54:=Tryz.underlying191
 a54:=Tryz.isAgg191
 z54:=Tryz.sizeOf191
 v54:=Tryz.zeroValue191
 i54:=by kernel_rfl
 t58:=Tryz.underlying195
 a58:=Tryz.isAgg195
 z58:=Tryz.sizeOf195
 v58:=Tryz.zeroValue195
 i58:=by kernel_rfl
 t60:=Tryz.underlying209
 a60:=Tryz.isAgg209
 z60:=Tryz.sizeOf209
 v60:=Tryz.zeroValue209
 i60:=by kernel_rfl
 t64:=Tryz.underlying213
 a64:=Tryz.isAgg213
 z64:=Tryz.sizeOf213
 v64:=Tryz.zeroValue213
 i64:=by kernel_rfl
 t66:=Tryz.underlying227
 a66:=Tryz.isAgg227
 z66:=Tryz.sizeOf227
 v66:=Tryz.zeroValue227
 i66:=by kernel_rfl
 t67:=Tryz.underlying228
 a67:=Tryz.isAgg228
 z67:=Tryz.sizeOf228
 v67:=Tryz.zeroValue228
 i67:=by kernel_rfl
 t75:=Tryz.underlying240
 a75:=Tryz.isAgg240
 z75:=Tryz.sizeOf240
 v75:=Tryz.zeroValue240
 i75:=by kernel_rfl
 t76:=Tryz.underlying241
 a76:=Tryz.isAgg241
 z76:=Tryz.sizeOf241
 v76:=Tryz.zeroValue241
 i76:=by kernel_rfl
 t77:=Tryz.underlying242
 a77:=Tryz.isAgg242
 z77:=Tryz.sizeOf242
 v77:=Tryz.zeroValue242
 i77:=by kernel_rfl
 t78:=Tryz.underlying243
 a78:=Tryz.isAgg243
 z78:=Tryz.sizeOf243
 v78:=Tryz.zeroValue243
 i78:=by kernel_rfl
 t79:=Tryz.underlying244
 a79:=Tryz.isAgg244
 z79:=Tryz.sizeOf244
 v79:=Tryz.zeroValue244
 i79:=by kernel_rfl
 t80:=Tryz.underlying245
 a80:=Tryz.isAgg245
 z80:=Tryz.sizeOf245
 v80:=Tryz.zeroValue245
 i80:=by kernel_rfl
 t82:=Tryz.underlying247
 a82:=Tryz.isAgg247
 z82:=Tryz.sizeOf247
 v82:=Tryz.zeroValue247
 i82:=by kernel_rfl }
end Go.Proofs.YtjajigkacccdgaaGreat
namespace Go.Proofs.YtjajigkacccdgaaGreat
open Go.Shelf Go.RowKit Go.Lib Go.Sort
open Wd
noncomputable def lvT:TypeInfo:=(Tryz.prog.info? 30).get (by kernel_rfl)
noncomputable def lvE:TypeInfo:=(Tryz.prog.info? 64).get (by kernel_rfl)
theorem lvK (n:Nat) (h2:2≤n):Lib.swapperK n lvE 25=9:=by
 have a:lvE.hasPointers=true:=by kernel_rfl
 have b:lvE.bytes=40:=by kernel_rfl
 have c:(n == 0)=false:=by simp;omega
 have d:(n == 1)=false:=by simp;omega
 simp [Lib.swapperK,a,b,c,d]
theorem grow_lv (m:Nat) (T:List St.Tr) (w:World) (n blk:Nat) (d:Array (Int×Nat)) (os:Array Obj):w.grownBy (grow (putRowK (encL m T) 3 (Sort.ahead w n) blk 0 d) os) (some blk):=by
 refine ⟨rfl,rfl,rfl,?_,fun k hk hne=>?_⟩
 ·simp [grow,putRowK,putRow,mapBlock]
 ·have hkb:blk≠k:=fun e=>hne (by rw [e]);have e:(putRowK (encL m T) 3 (Sort.ahead w n) blk 0 d).heap[k]?=w.heap[k]?:=by simp only [putRowK,putRow,mapBlock,Array.getElem?_modify,if_neg hkb];rfl
  rw [← e];simp only [grow];rw [Array.getElem?_append_left];simpa [putRowK,putRow,mapBlock] using hk
def ltO (a b:Int×Nat):Bool:=decide (a.1<b.1)
theorem swo_ltO:SWO ltO where
 irrefl:=by intro a;simp [ltO]
 trans:=by intro a b c h1 h2;simp [ltO] at *;omega
 ntrans:=by intro a b c h1 h2;simp [ltO] at *;omega
theorem less_offers (blk c Bs size:Nat) (W:World) (G:Nat→Int) (hs:W.cell? ⟨Bs,0,none⟩=some (.slice (some ⟨blk,0,none⟩) size c))
  (hc:∀ t,t<size→W.cell? ⟨blk,t*3,none⟩=some (.int .i64 (G t))) (i j:Nat) (hi:i<size) (hj:j<size) (_hsz:size<4611686018427387904) :
  Calls Tryz.prog 72 #[.int .i64 i,.int .i64 j,.pointer (some ⟨Bs,0,none⟩)] W fun e w'=>e=.returned (.bool (decide (G i<G j)))∧∃ q,w'=W.drewN q:=by
 have ci:=hc i hi;have cj:=hc j hj;clear hc;go_enter Tryz.func72,Tryz.ntmps72;go_wp2
 go_quiet (fail)
 rename Nat=>n1
 go_wp2;go_ret;exact ⟨rfl,n1,rfl⟩
theorem sort_offers (n:Nat) (T:List St.Tr) (blk c Bs:Nat) (ps:List (Int×Nat)) (w:World) (hH:HoldsK (encL n T) 3 w blk 0 ps.toArray) (hblk:blk<w.heap.size) (hBs:w.cell? ⟨Bs,0,none⟩=some (.slice (some ⟨blk,0,none⟩) ps.length c)) (hB1:Bs<w.heap.size) (hB2:Bs≠blk) (hsz:ps.length<4611686018427387904) :
  Calls Tryz.prog 71 #[.iface 30 (.slice (some ⟨blk,0,none⟩) ps.length c),.func (.func 72) #[] #[.pointer (some ⟨Bs,0,none⟩)]] w fun e w' =>
   e=.returned (.tuple #[])∧∃ ps':List (Int×Nat),ps'.Perm ps∧ps'.Pairwise (fun a b=>ltO b a=false)∧HoldsK (encL n T) 3 w' blk 0 ps'.toArray∧w.grownBy w' (some blk):=by
 by_cases h2:2≤ps.length
 ·have hless:LessReadsK Tryz.prog 72 #[.pointer (some ⟨Bs,0,none⟩)] (encL n T) 3 ltO blk 0 ps.toArray.size w:=by
   intro m os dk hs i j hi hj;have e:sortWorldK (encL n T) 3 w blk 0 m dk os=putRowK (encL n T) 3 (grow (Sort.ahead w m) os) blk 0 dk:=by
    unfold sortWorldK;rw [putRowK_grow _ _ (Sort.ahead w m) _ blk 0 _ hblk]
   have hHg:HoldsK (encL n T) 3 (grow (Sort.ahead w m) os) blk 0 ps.toArray:=holdsK_grow _ _ _ _ blk 0 _ hblk (holdsK_ahead _ _ _ _ _ _ _ hH);have hHd:=holdsK_putRowK _ _ _ blk 0 ps.toArray dk hHg hs;refine less_offers blk c Bs ps.toArray.size _ (fun t=>dk[t]!.1) ?_ (fun t ht=>?_) i j hi hj (by simpa using hsz)
   ·rw [e,cell?_putRowK_other _ _ _ blk 0 dk _ (by exact hB2),cell?_grow _ _ _ (by exact hB1)];simpa using hBs
   ·rw [e];have:=(hHd.cell (i:=t) (c:=0) (by omega) (by omega)).1;rw [Nat.zero_add] at this;exact this
  have hS:=Any.sort_Slice_cells_sorted Tryz.laysGg6 30 64 lvT lvE (by kernel_rfl) (by kernel_rfl) (by kernel_rfl) (by kernel_rfl) 25 (fun _=>by kernel_rfl) (encL n T) 3 (fun _=>rfl) (by kernel_rfl) (fun _=>by kernel_rfl)
   (fun x v hv=>by simp [encL] at hv;rcases hv with rfl|rfl|rfl<;>rfl) ltO swo_ltO 72 _
   (enters_of Tryz.func72 (by kernel_rfl) rfl) blk 0 c ps.toArray (by simpa using h2) (by simpa using hsz) 166 (by rw [lvK _ (by simpa using h2)];kernel_rfl) false
   (fun args W=>run_callFunc_extern Tryz.func166 (by kernel_rfl) (by kernel_rfl) (by kernel_rfl) (e:=Extern.ReflectliteSwapper.swap false) (by kernel_rfl) args W) w hless hH hblk
  have hz:ps.toArray.size=ps.length:=by simp
  rw [hz] at hS
  change Calls Tryz.prog 71 _ _ _ at hS
  refine hS.mono ?_;rintro e w' ⟨rfl,d',n',os,hp,hso,rfl⟩;obtain ⟨p1,_,p3⟩:=hp;have hd:d'.size=ps.length:=by simpa using p1
  refine ⟨rfl,d'.toList,?_,?_,?_,grow_lv n T w n' blk d' os⟩
  ·have e1:d'.extract 0 ps.length=d':=by rw [← hd];simp
   have e2:ps.toArray.extract 0 ps.length=ps.toArray:=by rw [← hz];simp
   rw [e1,e2] at p3;simpa using p3
  ·rw [List.pairwise_iff_getElem];intro i j hi hj hij;have:=hso i j (Nat.zero_le _) hij (by simpa [hd] using hj);have hi':i<d'.size:=by simpa using hi
   have hj':j<d'.size:=by simpa using hj
   simpa [hi',hj'] using this
  ·have:=holdsK_putRowK (encL n T) 3 (Sort.ahead w n') blk 0 ps.toArray d' (holdsK_ahead _ _ _ _ _ _ _ hH) (by simpa using p1);simpa using holdsK_grow (encL n T) 3 _ os blk 0 _ (by simpa [putRowK] using hblk) this
 ·have ht:∀ f,Tryz.prog.funcs.findIdx? (·.name =="internal/reflectlite" ++".Swapper$" ++ toString (Lib.swapperK ps.length lvE 25))=some f→_:=fun f hf =>
   Any.sort_Slice_tiny Tryz.laysGg6 30 64 lvT lvE (by kernel_rfl) (by kernel_rfl) (by kernel_rfl) (by kernel_rfl) 25 (fun _=>by kernel_rfl) (some ⟨blk,0,none⟩) ps.length c (by omega) f hf (.func 72) #[] #[.pointer (some ⟨Bs,0,none⟩)] w
  have hfin:Calls Tryz.prog 71 #[.iface 30 (.slice (some ⟨blk,0,none⟩) ps.length c),.func (.func 72) #[] #[.pointer (some ⟨Bs,0,none⟩)]] w fun e w'=>e=.returned (.tuple #[])∧∃ os,w'=grow w os:=by
   rcases Nat.lt_or_ge ps.length 1 with h0|h1
   ·have e0:ps.length=0:=by omega
    exact ht 158 (by rw [e0];kernel_rfl)
   ·have e1:ps.length=1:=by omega
    exact ht 159 (by rw [e1];kernel_rfl)
  refine hfin.mono ?_;rintro e w' ⟨rfl,os,rfl⟩;refine ⟨rfl,ps,List.Perm.refl _,?_,holdsK_grow (encL n T) 3 w os blk 0 _ hblk hH,⟨rfl,rfl,rfl,by simp [grow],fun k hk _=>by simp only [grow];rw [Array.getElem?_append_left hk]⟩⟩
  match ps,h2 with
  | [],_=>exact List.Pairwise.nil
  | [x],_=>exact List.pairwise_singleton _ _
  | _ :: _ :: _,h=>exact absurd (by simp) h
def ltB (a b:Int×Nat):Bool:=decide (b.1<a.1)
theorem swo_ltB:SWO ltB where
 irrefl:=by intro a;simp [ltB]
 trans:=by intro a b c h1 h2;simp [ltB] at *;omega
 ntrans:=by intro a b c h1 h2;simp [ltB] at *;omega
theorem less_bids (blk c Bs size:Nat) (W:World) (G:Nat→Int) (hs:W.cell? ⟨Bs,0,none⟩=some (.slice (some ⟨blk,0,none⟩) size c))
  (hc:∀ t,t<size→W.cell? ⟨blk,t*3,none⟩=some (.int .i64 (G t))) (i j:Nat) (hi:i<size) (hj:j<size) (_hsz:size<4611686018427387904) :
  Calls Tryz.prog 74 #[.int .i64 i,.int .i64 j,.pointer (some ⟨Bs,0,none⟩)] W fun e w'=>e=.returned (.bool (decide (G j<G i)))∧∃ q,w'=W.drewN q:=by
 have ci:=hc i hi;have cj:=hc j hj;clear hc;go_enter Tryz.func74,Tryz.ntmps74;go_wp2
 go_quiet (fail)
 rename Nat=>n1
 go_wp2;go_ret;exact ⟨rfl,n1,rfl⟩
theorem sort_bids (n:Nat) (T:List St.Tr) (blk c Bs:Nat) (ps:List (Int×Nat)) (w:World) (hH:HoldsK (encL n T) 3 w blk 0 ps.toArray) (hblk:blk<w.heap.size) (hBs:w.cell? ⟨Bs,0,none⟩=some (.slice (some ⟨blk,0,none⟩) ps.length c)) (hB1:Bs<w.heap.size) (hB2:Bs≠blk) (hsz:ps.length<4611686018427387904) :
  Calls Tryz.prog 71 #[.iface 30 (.slice (some ⟨blk,0,none⟩) ps.length c),.func (.func 74) #[] #[.pointer (some ⟨Bs,0,none⟩)]] w fun e w' =>
   e=.returned (.tuple #[])∧∃ ps':List (Int×Nat),ps'.Perm ps∧ps'.Pairwise (fun a b=>ltB b a=false)∧HoldsK (encL n T) 3 w' blk 0 ps'.toArray∧w.grownBy w' (some blk):=by
 by_cases h2:2≤ps.length
 ·have hless:LessReadsK Tryz.prog 74 #[.pointer (some ⟨Bs,0,none⟩)] (encL n T) 3 ltB blk 0 ps.toArray.size w:=by
   intro m os dk hs i j hi hj;have e:sortWorldK (encL n T) 3 w blk 0 m dk os=putRowK (encL n T) 3 (grow (Sort.ahead w m) os) blk 0 dk:=by
    unfold sortWorldK;rw [putRowK_grow _ _ (Sort.ahead w m) _ blk 0 _ hblk]
   have hHg:HoldsK (encL n T) 3 (grow (Sort.ahead w m) os) blk 0 ps.toArray:=holdsK_grow _ _ _ _ blk 0 _ hblk (holdsK_ahead _ _ _ _ _ _ _ hH);have hHd:=holdsK_putRowK _ _ _ blk 0 ps.toArray dk hHg hs;refine less_bids blk c Bs ps.toArray.size _ (fun t=>dk[t]!.1) ?_ (fun t ht=>?_) i j hi hj (by simpa using hsz)
   ·rw [e,cell?_putRowK_other _ _ _ blk 0 dk _ (by exact hB2),cell?_grow _ _ _ (by exact hB1)];simpa using hBs
   ·rw [e];have:=(hHd.cell (i:=t) (c:=0) (by omega) (by omega)).1;rw [Nat.zero_add] at this;exact this
  have hS:=Any.sort_Slice_cells_sorted Tryz.laysGg6 30 64 lvT lvE (by kernel_rfl) (by kernel_rfl) (by kernel_rfl) (by kernel_rfl) 25 (fun _=>by kernel_rfl) (encL n T) 3 (fun _=>rfl) (by kernel_rfl) (fun _=>by kernel_rfl)
   (fun x v hv=>by simp [encL] at hv;rcases hv with rfl|rfl|rfl<;>rfl) ltB swo_ltB 74 _
   (enters_of Tryz.func74 (by kernel_rfl) rfl) blk 0 c ps.toArray (by simpa using h2) (by simpa using hsz) 166 (by rw [lvK _ (by simpa using h2)];kernel_rfl) false
   (fun args W=>run_callFunc_extern Tryz.func166 (by kernel_rfl) (by kernel_rfl) (by kernel_rfl) (e:=Extern.ReflectliteSwapper.swap false) (by kernel_rfl) args W) w hless hH hblk
  have hz:ps.toArray.size=ps.length:=by simp
  rw [hz] at hS
  change Calls Tryz.prog 71 _ _ _ at hS
  refine hS.mono ?_;rintro e w' ⟨rfl,d',n',os,hp,hso,rfl⟩;obtain ⟨p1,_,p3⟩:=hp;have hd:d'.size=ps.length:=by simpa using p1
  refine ⟨rfl,d'.toList,?_,?_,?_,grow_lv n T w n' blk d' os⟩
  ·have e1:d'.extract 0 ps.length=d':=by rw [← hd];simp
   have e2:ps.toArray.extract 0 ps.length=ps.toArray:=by rw [← hz];simp
   rw [e1,e2] at p3;simpa using p3
  ·rw [List.pairwise_iff_getElem];intro i j hi hj hij;have:=hso i j (Nat.zero_le _) hij (by simpa [hd] using hj);have hi':i<d'.size:=by simpa using hi
   have hj':j<d'.size:=by simpa using hj
   simpa [hi',hj'] using this
  ·have:=holdsK_putRowK (encL n T) 3 (Sort.ahead w n') blk 0 ps.toArray d' (holdsK_ahead _ _ _ _ _ _ _ hH) (by simpa using p1);simpa using holdsK_grow (encL n T) 3 _ os blk 0 _ (by simpa [putRowK] using hblk) this
 ·have ht:∀ f,Tryz.prog.funcs.findIdx? (·.name =="internal/reflectlite" ++".Swapper$" ++ toString (Lib.swapperK ps.length lvE 25))=some f→_:=fun f hf =>
   Any.sort_Slice_tiny Tryz.laysGg6 30 64 lvT lvE (by kernel_rfl) (by kernel_rfl) (by kernel_rfl) (by kernel_rfl) 25 (fun _=>by kernel_rfl) (some ⟨blk,0,none⟩) ps.length c (by omega) f hf (.func 74) #[] #[.pointer (some ⟨Bs,0,none⟩)] w
  have hfin:Calls Tryz.prog 71 #[.iface 30 (.slice (some ⟨blk,0,none⟩) ps.length c),.func (.func 74) #[] #[.pointer (some ⟨Bs,0,none⟩)]] w fun e w'=>e=.returned (.tuple #[])∧∃ os,w'=grow w os:=by
   rcases Nat.lt_or_ge ps.length 1 with h0|h1
   ·have e0:ps.length=0:=by omega
    exact ht 158 (by rw [e0];kernel_rfl)
   ·have e1:ps.length=1:=by omega
    exact ht 159 (by rw [e1];kernel_rfl)
  refine hfin.mono ?_;rintro e w' ⟨rfl,os,rfl⟩;refine ⟨rfl,ps,List.Perm.refl _,?_,holdsK_grow (encL n T) 3 w os blk 0 _ hblk hH,⟨rfl,rfl,rfl,by simp [grow],fun k hk _=>by simp only [grow];rw [Array.getElem?_append_left hk]⟩⟩
  match ps,h2 with
  | [],_=>exact List.Pairwise.nil
  | [x],_=>exact List.pairwise_singleton _ _
  | _ :: _ :: _,h=>exact absurd (by simp) h
theorem flat_get (n:Nat) (T:List St.Tr):∀ (D:List (Int×Nat)) (j c:Nat),j<D.length→c<3→(D.flatMap (encL n T))[j*3+c]?=(encL n T (D[j]?.getD (0,0)))[c]?
 | [],j,c,hj,_=>absurd hj (by simp)
 | d :: D,0,c,_,hc=>by
  rw [List.flatMap_cons,List.getElem?_append_left (by rw [encL_len];omega),Nat.zero_mul,Nat.zero_add]
  rfl
 | d :: D,j+1,c,hj,hc=>by
  rw [List.flatMap_cons,List.getElem?_append_right (by rw [encL_len];omega),encL_len,show (j+1)*3+c-3=j*3+c by omega,flat_get n T D j c (by simpa using hj) hc]
  rfl
theorem Own.holds {base n:Nat} {T:List St.Tr} {w:World} {g cap:Nat} {D:List (Int×Nat)} (h:Own base 64 3 w (some ⟨g,0,none⟩) D.length cap (D.flatMap (encL n T))):HoldsK (encL n T) 3 w g 0 D.toArray∧base≤g∧g<w.heap.size:=by
 obtain ⟨g',cap',cur,hv,hb,hg,_⟩:∃ g' cap' cur,(Value.slice (some ⟨g,0,none⟩) D.length cap)=.slice (some ⟨g',0,none⟩) D.length cap'∧base≤g'∧w.heap[g']?=some (.cells cur 64 (0,0))∧True:=by
  rcases h.2 with ⟨h7,_⟩|⟨g',cap',cur',h7,h8,h9,_⟩
  ·simp at h7
  ·exact ⟨g',cap',cur',h7,h8,h9,trivial⟩
 simp at hv;obtain ⟨rfl,rfl⟩:=hv;refine ⟨fun j hj=>?_,hb,(Array.getElem?_eq_some_iff.1 hg).1⟩;have hj':j<D.length*3:=by simpa using hj
 rw [get_flatK _ _ _ _ (by simpa using hj')];have hd:j / 3<D.length:=by omega
 have h3:j % 3<3:=Nat.mod_lt _ (by omega);have eg:D.toArray[j / 3]! = D[j / 3]?.getD (0,0):=by
  simp [hd,List.getElem?_eq_getElem hd]
 refine ⟨?_,Blk.frozen (t:=64) hg _⟩;rw [Nat.zero_add,World.ownsRow.cellAt h j (by omega)];have ej:j=j / 3*3+j % 3:=by omega
 have:=flat_get n T D (j / 3) (j % 3) hd h3;rw [← ej] at this;rw [this,eg,List.getElem?_eq_getElem (by rw [encL_len];exact h3),getElem!_pos _ _ (by rw [encL_len];exact h3)]
 rfl
end Go.Proofs.YtjajigkacccdgaaGreat
namespace Go.Proofs.YtjajigkacccdgaaGreat
open Go.RowKit
open Go.Sort (HoldsK)
open Wd
def ckF (up:Bool):Nat→List (List (Int×Int))→Int×Int
 | _,[]=>(0,0)
 | k,l :: ls=>if chk up l≠0 then ((k:Int),chk up l) else ckF up (k+1) ls
def ckC (up:Bool) (ls:List (List (Int×Int))):Int×Int:=if 16<ls.length then (0,5) else ckF up 0 ls
theorem dropL {ls:List (List (Int×Int))} {k:Nat} (hk:k<ls.length):ls.drop k=(ls[k]?.getD []) :: ls.drop (k+1):=by
 rw [List.drop_eq_getElem_cons hk,List.getElem?_eq_getElem hk];rfl
theorem ckF_good {up:Bool}:∀ {ls:List (List (Int×Int))} {k:Nat},(ckF up k ls).2=0→∀ l∈ls,chk up l=0
 | [],_,_,l,hl=>by simp at hl
 | x :: ls,k,h,l,hl=>by
  rw [ckF] at h;by_cases hx:chk up x=0
  ·rw [if_neg (by simpa using hx)] at h;rcases List.mem_cons.1 hl with rfl|hl
   ·exact hx
   ·exact ckF_good h l hl
  ·rw [if_pos hx] at h;exact absurd h hx
theorem ckC_good {up:Bool} {ls:List (List (Int×Int))} (h:(ckC up ls).2=0):ls.length≤16∧(∀ l∈ls,chk up l=0)∧Good ls:=by
 unfold ckC at h;split at h
 ·simp at h
 ·rename_i hn
  have hg:=ckF_good h;exact ⟨by omega,hg,fun l hl=>⟨(chk_ok (hg l hl)).2.1,(chk_ok (hg l hl)).2.2.2⟩⟩
theorem ccurves_offers (A:Option Addr) (n c:Nat) (ls:List (List (Int×Int))) (w:World) (h:CsAt w A n ls) (hs:∀ l∈ls,l.length≤1000000000000) :
  Calls Tryz.prog 68 #[.slice A n c,.func (.func 69) #[] #[]] w fun e w'=>e=.returned (.tuple #[.int .i64 (ckC true ls).1,.int .i64 (ckC true ls).2])∧Below w.heap.size w w':=by
 by_cases h5:16<n
 ·have e:ckC true ls=(0,5):=by unfold ckC;rw [if_pos (by rw [h.1];exact h5)]
  have d5:decide ((16:Int)<(n:Int))=true:=by simp;omega
  rw [e];clear h e hs;go_enter Tryz.func68,Tryz.ntmps68;go_wp2;go_ret2;exact ⟨rfl,Below.refl _ _⟩
 ·have e:ckC true ls=ckF true 0 ls:=by unfold ckC;rw [if_neg (by rw [h.1];exact h5)]
  have d5:decide ((16:Int)<(n:Int))=false:=by simp;omega
  have HE:=Hj e;have HC:=Hj h;have HLN:=Hj h.1;have HS:=Hj hs;clear e h hs;go_enter Tryz.func68,Tryz.ntmps68
  go_wp2_with fail
  go_loopw [14] (fun t wr=>∃ k:Nat,k≤n∧t=.int .i64 k∧Hid (ckF true 0 ls=ckF true k (ls.drop k))∧Hid (Below w.heap.size w wr)) (fun t _=>n-(intOf t).toNat)
  case atStart=>exact ⟨0,Nat.zero_le _,rfl,rfl,Below.refl _ _⟩
  case round =>
   obtain ⟨k,hk,rfl,hR,hB⟩:=hrel;by_cases hlt:k<n
   ·obtain ⟨b,o,rfl,hb,hcell⟩:=HC.out.2 (by omega);obtain ⟨A',n',c',hci,hsi⟩:=hcell k hlt;have hc2:=(hB.out.cell (p:=⟨b,o+k,none⟩) hb).trans hci;have hn':n'≤1000000000000:=by
     rw [← hsi.1];exact HS.out _ (getD_mem (d:=[]) (show k<ls.length by rw [HLN.out];exact hlt))
    have hr:=hR.out;rw [dropL (by rw [HLN.out];exact hlt),ckF] at hr;have T:=checkOffer_any A' n' c' _ wr (hsi.below hB.out) hn';have hki1:(0:Int)≤(k:Int):=by omega
    have hki2:(k:Int)<(n:Int):=by omega
    generalize ls[k]?.getD []=l at *;clear hcell hci hsi;by_cases hz:chk true l=0
    ·rw [if_neg (by simpa using hz)] at hr;rw [hz] at T;have HT:=Hj T;have HR:=Hj hr;clear T hr hz hR
     go_wp2_with fail
     refine HT.out.mono ?_;rintro e w2 ⟨rfl,hb2⟩;have HB2:=Hj (hB.out.trans (hb2.mono hB.out.size));clear hb2 HT;go_wp2;go_roundw
     case rel=>exact ⟨k+1,by omega,by go_num,HR.out,HB2.out⟩
     case measure=>simp [intOf];omega
    ·rw [if_pos hz] at hr;generalize chk true l=x at *;have hx:(x != 0)=true:=by simpa using hz
     have HT:=Hj T;have HR:=Hj hr;clear T hr hz hR
     go_wp2_with fail
     refine HT.out.mono ?_;rintro e w2 ⟨rfl,hb2⟩;have HB2:=Hj (hB.out.trans (hb2.mono hB.out.size));clear hb2 HT;go_wp2;go_ret2;rw [HE.out,HR.out];exact ⟨rfl,HB2.out⟩
   ·obtain rfl:k=n:=by omega
    have hr:=hR.out;rw [List.drop_of_length_le (by rw [HLN.out];exact Nat.le_refl _),ckF] at hr;have HR:=Hj hr;clear hr hR;go_wp2;go_ret2;rw [HE.out,HR.out];exact ⟨rfl,hB.out⟩
theorem ccurves_bids (A:Option Addr) (n c:Nat) (ls:List (List (Int×Int))) (w:World) (h:CsAt w A n ls) (hs:∀ l∈ls,l.length≤1000000000000) :
  Calls Tryz.prog 68 #[.slice A n c,.func (.func 73) #[] #[]] w fun e w'=>e=.returned (.tuple #[.int .i64 (ckC false ls).1,.int .i64 (ckC false ls).2])∧Below w.heap.size w w':=by
 by_cases h5:16<n
 ·have e:ckC false ls=(0,5):=by unfold ckC;rw [if_pos (by rw [h.1];exact h5)]
  have d5:decide ((16:Int)<(n:Int))=true:=by simp;omega
  rw [e];clear h e hs;go_enter Tryz.func68,Tryz.ntmps68;go_wp2;go_ret2;exact ⟨rfl,Below.refl _ _⟩
 ·have e:ckC false ls=ckF false 0 ls:=by unfold ckC;rw [if_neg (by rw [h.1];exact h5)]
  have d5:decide ((16:Int)<(n:Int))=false:=by simp;omega
  have HE:=Hj e;have HC:=Hj h;have HLN:=Hj h.1;have HS:=Hj hs;clear e h hs;go_enter Tryz.func68,Tryz.ntmps68
  go_wp2_with fail
  go_loopw [14] (fun t wr=>∃ k:Nat,k≤n∧t=.int .i64 k∧Hid (ckF false 0 ls=ckF false k (ls.drop k))∧Hid (Below w.heap.size w wr)) (fun t _=>n-(intOf t).toNat)
  case atStart=>exact ⟨0,Nat.zero_le _,rfl,rfl,Below.refl _ _⟩
  case round =>
   obtain ⟨k,hk,rfl,hR,hB⟩:=hrel;by_cases hlt:k<n
   ·obtain ⟨b,o,rfl,hb,hcell⟩:=HC.out.2 (by omega);obtain ⟨A',n',c',hci,hsi⟩:=hcell k hlt;have hc2:=(hB.out.cell (p:=⟨b,o+k,none⟩) hb).trans hci;have hn':n'≤1000000000000:=by
     rw [← hsi.1];exact HS.out _ (getD_mem (d:=[]) (show k<ls.length by rw [HLN.out];exact hlt))
    have hr:=hR.out;rw [dropL (by rw [HLN.out];exact hlt),ckF] at hr;have T:=checkBid_any A' n' c' _ wr (hsi.below hB.out) hn';have hki1:(0:Int)≤(k:Int):=by omega
    have hki2:(k:Int)<(n:Int):=by omega
    generalize ls[k]?.getD []=l at *;clear hcell hci hsi;by_cases hz:chk false l=0
    ·rw [if_neg (by simpa using hz)] at hr;rw [hz] at T;have HT:=Hj T;have HR:=Hj hr;clear T hr hz hR
     go_wp2_with fail
     refine HT.out.mono ?_;rintro e w2 ⟨rfl,hb2⟩;have HB2:=Hj (hB.out.trans (hb2.mono hB.out.size));clear hb2 HT;go_wp2;go_roundw
     case rel=>exact ⟨k+1,by omega,by go_num,HR.out,HB2.out⟩
     case measure=>simp [intOf];omega
    ·rw [if_pos hz] at hr;generalize chk false l=x at *;have hx:(x != 0)=true:=by simpa using hz
     have HT:=Hj T;have HR:=Hj hr;clear T hr hz hR
     go_wp2_with fail
     refine HT.out.mono ?_;rintro e w2 ⟨rfl,hb2⟩;have HB2:=Hj (hB.out.trans (hb2.mono hB.out.size));clear hb2 HT;go_wp2;go_ret2;rw [HE.out,HR.out];exact ⟨rfl,HB2.out⟩
   ·obtain rfl:k=n:=by omega
    have hr:=hR.out;rw [List.drop_of_length_le (by rw [HLN.out];exact Nat.le_refl _),ckF] at hr;have HR:=Hj hr;clear hr hR;go_wp2;go_ret2;rw [HE.out,HR.out];exact ⟨rfl,hB.out⟩
end Go.Proofs.YtjajigkacccdgaaGreat
