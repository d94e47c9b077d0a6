/-
Lemmas of the walk; no further conditions.
-/
import Derived.Test.YtjajigkacccdgaaGreatTgBH
import Derived.ArgAppend
set_option linter.unusedVariables false
set_option linter.unusedSimpArgs false
set_option maxRecDepth 100000
set_option maxHeartbeats 16000000
namespace Go.Proofs.YtjajigkacccdgaaGreat
open Go.RowKit
open Wd
theorem fits_big {xs:List Int} (h:xs.all (fun x=>decide (-10000000≤x∧x≤10000000))=true):∀ i:Nat,Fits (xs[i]?.getD 0):=fun i=>by
 by_cases hi:i<xs.length
 ·have:=of_decide_eq_true (List.all_eq_true.1 h _ (getD_mem (d:=0) hi));exact ⟨by omega,by omega⟩
 ·rw [List.getElem?_eq_none (by omega)];exact ⟨by decide,by decide⟩
theorem StAt.nil (w:World):StAt w none 0 []:=⟨rfl,fun s hs=>absurd hs (by simp),fun h=>absurd rfl h⟩
def AllSt (w:World):List (Option Addr×Nat×Nat)→List (List (Int×Int))→Prop
 | [],[]=>True
 | v :: vs,l :: ls=>StAt w v.1 v.2.1 l∧AllSt w vs ls
 | _,_=>False
theorem AllSt.get {w:World}:∀ {vs:List (Option Addr×Nat×Nat)} {ls:List (List (Int×Int))},AllSt w vs ls→vs.length=ls.length∧∀ j,j<vs.length→StAt w (vs[j]?.getD (none,0,0)).1 (vs[j]?.getD (none,0,0)).2.1 (ls[j]?.getD [])
 | [],[],_=>⟨rfl,fun j hj=>absurd hj (by simp)⟩
 | v :: vs,l :: ls,h=>by
  obtain ⟨e,ih⟩:=AllSt.get h.2;refine ⟨by simp [e],fun j hj=>?_⟩;cases j with
  | zero=>exact h.1
  | succ j=>simpa using ih j (by simpa using hj)
 | [],_ :: _,h=>h.elim
 | _ :: _,[],h=>h.elim
theorem Own.litv {base g:Nat} {e:TypeId} {w:World} {vs:List (Option Addr×Nat×Nat)} (h:Blk w g e (vs.map slv).toArray) (hb:base≤g) (hn:vs.length≤1000):Own base e 1 w (some ⟨g,0,none⟩) vs.length vs.length (vs.map slv):=by
 refine ⟨by simp,Or.inr ⟨g,vs.length,(vs.map slv).toArray,rfl,hb,h,Nat.le_refl _,by simp only [maxLen];omega,by simp,?_⟩⟩;simp;exact List.take_of_length_le (by simp)
theorem CsAt.lits {w:World} {g:Nat} {e:TypeId} {vs:List (Option Addr×Nat×Nat)} {ls:List (List (Int×Int))} (h:Blk w g e (vs.map slv).toArray) (hn:vs.length≤1000) (hv:AllSt w vs ls):CsAt w (some ⟨g,0,none⟩) vs.length ls :=
 Own.css (Own.litv h (Nat.zero_le _) hn) hv.get.1.symm hv.get.2
theorem grown_below {w w':World} (h:w.grownBy w' none):Below w.heap.size w w' :=
 ⟨h.os,h.tape,h.output,h.size,fun k hk=>h.block k hk (by simp)⟩
theorem small_of {ls:List (List (Int×Int))} (h:ls.all (fun l=>decide (l.length≤1000))=true):∀ l∈ls,l.length≤1000000000000:=fun l hl=>by
 have:=of_decide_eq_true (List.all_eq_true.1 h l hl);omega
theorem run_err (A B:Option Addr) (n c m d:Nat) (os bs:List (List (Int×Int))) (w:World) (x:Int) (hk:ckB os bs=x) (hx:x≠0) (hs:os.all (fun l=>decide (l.length≤1000))=true) (ht:bs.all (fun l=>decide (l.length≤1000))=true) (h:CsAt w A n os) (h':CsAt w B m bs) :
  Calls Tryz.prog 48 #[.slice A n c,.slice B m d] w fun e w'=>e=.returned (.tuple #[.agg #[.int .i64 0,.int .i64 0,.int .i64 0,.slice none 0 0,.slice none 0 0],.int .i64 x])∧Below w.heap.size w w':=by
 subst hk;exact run_no A B n c m d os bs w h h' (small_of hs) (small_of ht) hx
theorem clears_val (A B:Option Addr) (n c m d:Nat) (os bs:List (List (Int×Int))) (R R':Option Addr) (k e k' e':Nat) (q:Rat) (w:World) (b:Bool) (x:Int) (hk:ckB os bs=x) (hv:(decide (ckB os bs=0) && balB os bs q)=b) (hs:os.all (fun l=>decide (l.length≤1000))=true) (ht:bs.all (fun l=>decide (l.length≤1000))=true) (h:CsAt w A n os) (h':CsAt w B m bs) (hq:RQ w q R k e R' k' e') (hl:Ls 7 q) :
  Calls Tryz.prog 51 #[.slice A n c,.slice B m d,.agg #[.bool (decide (q.num<0)),.slice R k e,.bool false,.slice R' k' e']] w fun en w'=>en=.returned (.tuple #[.bool b,.int .i64 x])∧Below w.heap.size w w':=by
 subst hk;subst hv;exact clears_any A B n c m d os bs _ _ R R' k e k' e' q w h h' (hq.qs hl (by decide)).arg (small_of hs) (small_of ht)
theorem wel_err (A B G H:Option Addr) (n c k d gn gc hn hc:Nat) (os bs:List (List (Int×Int))) (gs ts:List Rat) (w:World) (x:Int) (he:wfE os bs gs ts=x) (hx:x≠0) (hs:os.all (fun l=>decide (l.length≤1000))=true) (hr:bs.all (fun l=>decide (l.length≤1000))=true) (h:CsAt w A n os) (h':CsAt w B k bs) (hg:QsS 7 w G gn gs) (ht:QsS 7 w H hn ts) :
  Calls Tryz.prog 56 #[.slice A n c,.slice B k d,.slice G gn gc,.slice H hn hc] w fun e w'=>e=.returned (.tuple #[.agg #[.bool false,.slice none 0 0,.bool false,.slice none 0 0],.int .i64 x])∧Below w.heap.size w w':=by
 subst he;refine (welfare_any A B G H n c k d gn gc hn hc os bs gs ts w h h' hg ht (small_of hs) (small_of hr)).mono ?_;rintro e w' (⟨h0,-⟩|⟨-,h1⟩)
 ·exact absurd h0 hx
 ·exact h1
theorem wel_ok (A B G H:Option Addr) (n c k d gn gc hn hc:Nat) (os bs:List (List (Int×Int))) (gs ts:List Rat) (w:World) (v:Rat) (he:wfE os bs gs ts=0) (hv:wfV os bs gs ts=v) (hs:os.all (fun l=>decide (l.length≤1000))=true) (hr:bs.all (fun l=>decide (l.length≤1000))=true) (h:CsAt w A n os) (h':CsAt w B k bs) (hg:QsS 7 w G gn gs) (ht:QsS 7 w H hn ts) :
  Calls Tryz.prog 56 #[.slice A n c,.slice B k d,.slice G gn gc,.slice H hn hc] w fun e w'=>∃ A k c A' k' c',e=.returned (.tuple #[.agg #[.bool (decide (v.num<0)),.slice A k c,.bool false,.slice A' k' c'],.int .i64 0])∧RQ w' v A k c A' k' c'∧Below w.heap.size w w':=by
 subst hv;refine (welfare_any A B G H n c k d gn gc hn hc os bs gs ts w h h' hg ht (small_of hs) (small_of hr)).mono ?_;rintro e w' (⟨-,A,k,c,A',k',c',h1,h2,h3⟩|⟨h0,-⟩)
 ·exact ⟨A,k,c,A',k',c',h1,h2.wq,h3⟩
 ·exact absurd he h0
theorem of_val (a b:Int) (q:Rat) (w:World) (h1:a.natAbs≤9223372036854775807) (h2:b.natAbs≤9223372036854775807) (hq:mkRat (qnum a b) (qden b).natAbs=q) :
  Calls Tryz.prog 38 #[.int .i64 a,.int .i64 b] w (RetQ w q):=by
 subst hq;exact rofq a b w h1 h2
theorem int_val (z:Int) (q:Rat) (w:World) (h1 : -9223372036854775808≤z) (h2:z≤9223372036854775807) (hq:((z:Int):Rat)=q):Calls Tryz.prog 37 #[.int .i64 z] w (RetQ w q):=by
 subst hq;exact rint_any z w h1 h2
theorem QsS.nil (s:Nat) (w:World):QsS s w none 0 []:=⟨rfl,fun h=>absurd rfl h⟩
theorem QsS.lit1 {w:World} {g:Nat} {t:TypeId} {q:Rat} {A A':Option Addr} {k c k' c':Nat} (h:Blk w g t #[.bool (decide (q.num<0)),.slice A k c,.bool false,.slice A' k' c']) (hq:RQ w q A k c A' k' c') (hl:Ls 7 q):QsS 7 w (some ⟨g,0,none⟩) 1 [q]:=by
 refine ⟨rfl,fun _=>⟨g,0,rfl,h.lt,fun j hj=>?_⟩⟩;obtain rfl:j=0:=by omega
 exact ⟨_,_,_,_,_,_,_,_,h.cell 0,h.cell 1,h.cell 2,h.cell 3,hq.qs hl (by decide)⟩
theorem QsAt.qs7 {w:World} {A:Option Addr} {n:Nat} {xs:List Int} (h:QsAt w A n (castR xs)) (hl:∀ i:Nat,Fits (xs[i]?.getD 0)):QsS 7 w A n (castR xs) :=
 ⟨h.1,fun hn=>by
  obtain ⟨b,o,e,hb,hc⟩:=h.2 hn;refine ⟨b,o,e,hb,fun j hj=>?_⟩;obtain ⟨A1,k,c,A2,k',c',h0,h1,h2,h3,hw⟩:=hc j hj;refine ⟨_,_,_,_,_,_,_,_,h0,h1,h2,h3,RQ.qs hw ?_ (by decide)⟩;rw [castR_get];exact (ls_int (Nat.le_refl 3) (by obtain ⟨h1,h2⟩:=hl j;omega)).mono (by decide)⟩
def BoxQ (w:World) (g:Nat) (q:Rat) (A:Option Addr) (k c:Nat) (A':Option Addr) (k' c':Nat):Prop:=Blk w g 42 #[.bool (decide (q.num<0)),.slice A k c,.bool false,.slice A' k' c']∧RQ w q A k c A' k' c'
theorem BoxQ.below {w w':World} {g:Nat} {q:Rat} {A A':Option Addr} {k c k' c':Nat} (h:BoxQ w g q A k c A' k' c') (hb:Below w.heap.size w w'):BoxQ w' g q A k c A' k' c':=⟨Blk.below h.1 hb h.1.lt,h.2.below hb⟩
theorem rwhole_any (A:Option Addr) (n c:Nat) (xs:List Int) (w:World) (h:IsAt w A n xs) (hn:n≤1000) (hx:∀ i,i<n→Fits (xs[i]?.getD 0)) :
  Calls Tryz.prog 62 #[.slice A n c] w fun e w'=>∃ B d,e=.returned (.slice B n d)∧QsAt w' B n (castR xs)∧Below w.heap.size w w':=by
 have HX:=Hj h;have HF:=Hj hx;have HL:=Hj (show (castR xs).length=n by rw [castR,List.length_map];exact h.1);obtain ⟨ii,hii,hz0,hz1,hz2⟩:=info_parts info_q;have HI:=Hj hii;have HZ0:=Hj hz0;have HZ1:=Hj hz1;have HZ2:=Hj hz2;clear hii hz0 hz1 hz2 h hx;go_enter Tryz.func62,Tryz.ntmps62
 go_wp2_with fail
 go_loopw [3,4] (fun th t wr=>∃ (i:Nat) (Ah:Option Addr) (ch:Nat) (es:List QEnt),i≤n∧th=.slice Ah i ch∧t=.int .i64 (i:Int)∧Hid (Below w.heap.size w wr∧Own w.heap.size 42 4 wr Ah i ch (qCells es)∧QEnts Ah (castR xs) wr i es)) (fun _ t _=>n-(intOf t).toNat)
 case atStart=>exact ⟨0,none,0,[],Nat.zero_le _,rfl,rfl,Hj ⟨Below.refl _ _,Own.nil _ _ _ _,QEnts.start⟩⟩
 case round =>
  obtain ⟨i,Ah,ch,es,hi,rfl,rfl,HR⟩:=hrel;by_cases hlt:i<n
  ·obtain ⟨b,o,rfl,hb,hc⟩:=(HX.out.below HR.out.1).2 (by omega);have y0:=hc i hlt;have hfit:=HF.out i hlt;have hci:=castR_get xs i;generalize xs[i]?.getD 0=x at *;have TI:=Hj (fun W=>rint_any x W hfit.1 hfit.2);generalize hyq:((x:Int):Rat)=yq at *;have HCI:=Hj hci;have i1:(0:Int)≤(i:Int):=by omega
   have i2:(i:Int)<(n:Int):=by omega
   clear hc hfit hci hyq
   go_wp2_with fail
   refine (TI.out wr).mono ?_;rintro e v1 ⟨A1,k1,c1,A2,k2,c2,rfl,hk1,hk2,hW1,hW2,hF1,hF2,hb1⟩;have hO1:=(HR.out.2.1.keep hb1).keep ((Kp.refl v1).alloc (.cells #[.bool (decide (yq.num<0)),.slice A1 k1 c1,.bool false,.slice A2 k2 c2] 42));have m1:=Blk.new v1 42 #[.bool (decide (yq.num<0)),.slice A1 k1 c1,.bool false,.slice A2 k2 c2];have s1:Kp wr (v1.alloc (.cells #[.bool (decide (yq.num<0)),.slice A1 k1 c1,.bool false,.slice A2 k2 c2] 42)):=Kp.alloc hb1 _;have hs0:w.heap.size≤(v1.alloc (.cells #[.bool (decide (yq.num<0)),.slice A1 k1 c1,.bool false,.slice A2 k2 c2] 42)).heap.size:=Nat.le_trans HR.out.1.size (Below.size s1);have hlt2:=HR.out.2.1.blk_lt;have he1:=(HR.out.2.2.below hb1).snoc (s:=decide (yq.num<0)) (by rw [HCI.out]) (by rw [HCI.out];exact (show WQ v1 yq A1 k1 c1 A2 k2 c2 from ⟨hk1,hk2,hW1,hW2⟩)) (Off.fresh hF1 (fun b hb=>hlt2 b hb)) (Off.fresh hF2 (fun b hb=>hlt2 b hb));have HE1:=Hj (he1.below ((Kp.refl v1).alloc (.cells #[.bool (decide (yq.num<0)),.slice A1 k1 c1,.bool false,.slice A2 k2 c2] 42)));have HB1:=Hj (HR.out.1.trans (Below.mono s1 HR.out.1.size));clear hk1 hk2 hW1 hW2 hF1 hF2 hb1 he1 hlt2 s1 y0
   go_wp2_with (first
    | (at_builtin;refine wpList_append_at rfl (base:=w.heap.size) (e:=42) (size:=4) (bytes:=64) (.tmp 11) (.tmp 17) 46 rfl Tryz.underlying46 HI.out HZ0.out HZ1.out HZ2.out rfl (by decide) (xs:=qCells es) (news:=[.bool (decide (yq.num<0)),.slice A1 k1 c1,.bool false,.slice A2 k2 c2]) rfl (by exact hO1) rfl (by exact Blk.src m1 rfl (qCells_one [(decide (yq.num<0),(A1,k1,c1),(A2,k2,c2))])) (by simp only [maxLen];omega) (by omega) (by exact hs0) ?_
       intro B2 cb2 w2' hO2 hb2 hk2 hs2;have HP:=Hj (And.intro hO2 (And.intro hb2 (And.intro hk2 hs2)));clear hO2 hb2 hk2 hs2))
   have hfin:Below w.heap.size w w2'∧Own w.heap.size 42 4 w2' B2 (i+1) cb2 (qCells (es ++ [(decide (yq.num<0),(A1,k1,c1),(A2,k2,c2))]))∧QEnts B2 (castR xs) w2' (i+1) (es ++ [(decide (yq.num<0),(A1,k1,c1),(A2,k2,c2))]):=by
    obtain ⟨hO2,hb2,hk2,hs2⟩:=HP.out;exact ⟨HB1.out.trans hb2,by rw [qCells_append];exact hO2,HE1.out.app hk2 hs2⟩
   have HFN:=Hj hfin;clear hfin HP hO1 m1 HE1 HB1;go_wp2;go_roundw
   case rel=>exact ⟨i+1,B2,cb2,_,by omega,rfl,by first|rfl|go_num,HFN.out⟩
   case measure=>simp [intOf];omega
  ·obtain rfl:i=n:=by omega
   have HFN:=Hj (And.intro (HR.out.2.1.qs (ps:=castR xs) HL.out HR.out.2.2) HR.out.1);clear HR;go_wp2;go_ret;exact ⟨Ah,ch,rfl,HFN.out.1,HFN.out.2⟩
theorem is_same {s:Nat} (hs:s≤1000000) {q:Rat} (hl:Ls s q) {w:World} {A A' B B':Option Addr} {k c k' c' j d j' d':Nat} (h:RQ w q A k c A' k' c') (h':RQ w q B j d B' j' d') :
  Calls Tryz.prog 34 #[.agg #[.bool (decide (q.num<0)),.slice A k c,.bool false,.slice A' k' c'],.agg #[.bool (decide (q.num<0)),.slice B j d,.bool false,.slice B' j' d']] w fun e w'=>e=.returned (.bool true)∧Below w.heap.size w w':=by
 have e1:=h.2.2.1.len.trans h'.2.2.1.len.symm;have e2:=h.2.2.2.len.trans h'.2.2.2.len.symm;subst e1;subst e2;have:=RQ.lens h hl;exact ris_yes q A B A' B' k c k' c' d d' w h h' (by omega) (by omega)
end Go.Proofs.YtjajigkacccdgaaGreat
