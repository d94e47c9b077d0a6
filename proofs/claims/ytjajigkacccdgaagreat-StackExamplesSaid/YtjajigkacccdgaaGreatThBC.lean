/-
Lemmas of the walk; no further conditions.
-/
import Derived.Test.YtjajigkacccdgaaGreatThAW
set_option linter.unusedVariables false
set_option linter.unusedSimpArgs false
set_option maxRecDepth 100000
set_option maxHeartbeats 16000000
namespace Go.Proofs.YtjajigkacccdgaaGreat
open Go.RowKit
open Wd
def vh:List Int→Nat
 | []=>0
 | d :: l=>d.toNat+65536*vh l
theorem vh_cons (d:Int) (l:List Int):vh (d :: l)=d.toNat+65536*vh l:=rfl
theorem Dg.nil:Dg []:=fun i=>by simp
theorem Dg.head {d:Int} {l:List Int} (h:Dg (d :: l)):0≤d∧d<65536:=by have:=h 0;simpa using this
theorem Dg.tail {d:Int} {l:List Int} (h:Dg (d :: l)):Dg l:=fun i=>by have:=h (i+1);simpa using this
theorem Dg.cons {d:Int} {l:List Int} (h0:0≤d) (h1:d<65536) (h:Dg l):Dg (d :: l):=fun i=>by
 match i with
 | 0=>simp;omega
 | i+1=>have:=h i;simpa using this
theorem Dg.snoc {d:Int} {l:List Int} (h:Dg l) (h0:0≤d) (h1:d<65536):Dg (l ++ [d]):=by
 induction l with
 | nil=>exact Dg.cons h0 h1 Dg.nil
 | cons e l ih=>exact Dg.cons h.head.1 h.head.2 (ih h.tail)
theorem vh_snoc (a:List Int) (d:Int):vh (a ++ [d])=vh a+65536 ^ a.length*d.toNat:=by
 induction a with
 | nil=>simp [vh]
 | cons e a ih =>
  simp only [List.cons_append,vh_cons,ih,List.length_cons,Nat.pow_succ,Nat.mul_add];rw [show 65536*(65536 ^ a.length*d.toNat)=65536 ^ a.length*65536*d.toNat by
   rw [← Nat.mul_assoc,Nat.mul_comm 65536 (65536 ^ a.length)]]
  omega
theorem vh_lt {l:List Int} (h:Dg l):vh l<65536 ^ l.length:=by
 induction l with
 | nil=>simp [vh]
 | cons d l ih =>
  have h1:=ih h.tail;have h2:=h.head;simp only [vh_cons,List.length_cons,Nat.pow_succ];omega
theorem vh_get {l:List Int} (h:Dg l) (i:Nat):l[i]?.getD 0=((vh l / 65536 ^ i % 65536:Nat):Int):=by
 induction l generalizing i with
 | nil=>simp [vh]
 | cons d l ih =>
  have h2:=h.head
  match i with
  | 0=>simp [vh_cons];omega
  | i+1 =>
   rw [List.getElem?_cons_succ,ih h.tail i,vh_cons,Nat.pow_succ,Nat.mul_comm (65536 ^ i),← Nat.div_div_eq_div_mul,show (d.toNat+65536*vh l) / 65536=vh l by omega]
def hd (n:Nat):List Int:=if h:n=0 then [] else ((n % 65536:Nat):Int) :: hd (n / 65536)
 termination_by n
 decreasing_by exact Nat.div_lt_self (Nat.pos_of_ne_zero h) (by decide)
theorem hd_zero:hd 0=[]:=by rw [hd];simp
theorem hd_pos {n:Nat} (h:n≠0):hd n=((n % 65536:Nat):Int) :: hd (n / 65536):=by
 rw [hd];simp [h]
theorem vh_hd (n:Nat):vh (hd n)=n:=by
 induction n using Nat.strongRecOn with
 | _ n ih =>
  rcases Nat.eq_zero_or_pos n with h0|h0
  ·subst h0;rw [hd_zero];rfl
  ·rw [hd_pos (by omega),vh_cons,ih _ (Nat.div_lt_self h0 (by decide)),Int.toNat_natCast];omega
theorem hd_Dg (n:Nat):Dg (hd n):=by
 induction n using Nat.strongRecOn with
 | _ n ih =>
  rcases Nat.eq_zero_or_pos n with h0|h0
  ·subst h0;rw [hd_zero];exact Dg.nil
  ·rw [hd_pos (by omega)];exact Dg.cons (by omega) (by omega) (ih _ (Nat.div_lt_self h0 (by decide)))
theorem hd_len_le {n k:Nat}:(hd n).length≤k↔n<65536 ^ k:=by
 induction k generalizing n with
 | zero =>
  constructor
  ·intro h;rcases Nat.eq_zero_or_pos n with h0|h0
   ·omega
   ·rw [hd_pos (by omega)] at h;simp at h
  ·intro h;have:n=0:=by simpa using h
   subst this;rw [hd_zero];simp
 | succ k ih =>
  rcases Nat.eq_zero_or_pos n with h0|h0
  ·subst h0;rw [hd_zero];simp [Nat.pow_pos]
  ·rw [hd_pos (by omega),List.length_cons,Nat.pow_succ];have:=@ih (n / 65536);rw [Nat.add_le_add_iff_right,this,Nat.div_lt_iff_lt_mul (by decide)]
theorem hd_len_zero {n:Nat}:(hd n).length=0↔n=0:=by
 have:=@hd_len_le n 0;simp only [Nat.pow_zero] at this;omega
theorem hd_len_mono {m n:Nat} (h:m≤n):(hd m).length≤(hd n).length:=by
 rw [hd_len_le];have:=(@hd_len_le n (hd n).length).1 (Nat.le_refl _);omega
theorem hd_vh {l:List Int} (h:Dg l) (hl:∀ j,l.length=j+1→l[j]?.getD 0≠0):hd (vh l)=l:=by
 induction l with
 | nil=>exact hd_zero
 | cons d l ih =>
  have h2:=h.head;have hl2:∀ j,l.length=j+1→l[j]?.getD 0≠0:=fun j hj=>by
   have:=hl (j+1) (by rw [List.length_cons,hj])
   rwa [List.getElem?_cons_succ] at this
  have e:=ih h.tail hl2;have hne:vh (d :: l)≠0:=by
   intro h0;rw [vh_cons] at h0;have hv:vh l=0:=by omega
   rw [hv,hd_zero] at e;subst e;have:=hl 0 rfl;simp at this;omega
  rw [vh_cons] at hne ⊢;rw [hd_pos hne,show (d.toNat+65536*vh l) / 65536=vh l by omega,e,show (d.toNat+65536*vh l) % 65536=d.toNat by omega,Int.toNat_of_nonneg h2.1]
theorem vh_take_zero {l:List Int} {k:Nat} (h:∀ i,k≤i→l[i]?.getD 0=0):vh (l.take k)=vh l:=by
 induction l generalizing k with
 | nil=>simp
 | cons d l ih =>
  match k with
  | 0 =>
   have h0:=h 0 (Nat.le_refl _);have:=ih (k:=0) fun i hi=>by have:=h (i+1) (by omega);rwa [List.getElem?_cons_succ] at this
   simp at h0;simp [vh] at this ⊢;omega
  | k+1 =>
   rw [List.take_succ_cons,vh_cons,vh_cons,ih fun i hi=>by have:=h (i+1) (by omega);rwa [List.getElem?_cons_succ] at this]
theorem tl_hd {l:List Int} (h:Dg l):l.take (tl l l.length)=hd (vh l)∧tl l l.length=(hd (vh l)).length:=by
 have h1:vh (l.take (tl l l.length))=vh l:=vh_take_zero fun i hi=>by
  by_cases h:i<l.length
  ·exact tl_zero _ hi h
  ·rw [List.getElem?_eq_none (by omega)];rfl
 have h2:(l.take (tl l l.length)).length=tl l l.length:=by rw [List.length_take,Nat.min_eq_left (tl_le _ _)]
 have h3:=hd_vh (l:=l.take (tl l l.length)) (h.take _) fun j hj=>by
  rw [h2] at hj;rw [List.getElem?_take,if_pos (by omega)];exact tl_last l hj
 rw [h1] at h3;exact ⟨h3.symm,by rw [h3,h2]⟩
theorem vh_halves {l:List Nat} (hw:Ws l):vh (halvesL l)=val l:=by
 induction l with
 | nil=>rfl
 | cons d l ih =>
  have e:halvesL (d :: l)=[((d:Nat):Int) % 65536,((d:Nat):Int) / 65536] ++ halvesL l:=by unfold halvesL;rw [List.flatMap_cons]
  have hd:=hw.head;rw [e,val_cons];simp only [List.cons_append,List.nil_append,vh_cons,ih hw.tail];omega
theorem half_len {v K:Nat} (h:v<4294967296 ^ K):(hd v).length≤2*K:=by
 rw [hd_len_le,Nat.pow_mul];exact h
theorem words_hd (v:Nat):wdsL (hd v) (((hd v).length+1) / 2)=digs v:=by
 have h:=least_digs (digs_Ws v);have e:=tl_hd (halvesL_Dg (digs_Ws v));rw [vh_halves (digs_Ws v),val_digs,halvesL_len] at e;rw [e.1,e.2,val_digs] at h;exact h
def cmpN (a b:Nat):Int:=if a<b then -1 else if b<a then 1 else 0
theorem div_step (a i:Nat):a / 65536 ^ i=65536*(a / 65536 ^ (i+1))+a / 65536 ^ i % 65536:=by
 rw [Nat.pow_succ,← Nat.div_div_eq_div_mul];omega
theorem lt_of_div {a b i:Nat} (h:a / 65536 ^ i<b / 65536 ^ i):a<b:=by
 rcases Nat.lt_or_ge a b with h1|h1
 ·exact h1
 ·have:=Nat.div_le_div_right (c:=65536 ^ i) h1;omega
theorem mod_step (a i:Nat):a % 65536 ^ (i+1)=a % 65536 ^ i+65536 ^ i*(a / 65536 ^ i % 65536):=by
 rw [Nat.pow_succ,Nat.mod_mul]
theorem quo_step (a b i:Nat) (hb:0<b):(a / 65536 ^ (i+1) % b*65536+a / 65536 ^ i % 65536) / b=a / b / 65536 ^ i % 65536∧(a / 65536 ^ (i+1) % b*65536+a / 65536 ^ i % 65536) % b=a / 65536 ^ i % b:=by
 have e1:=div_step a i;have e2:=Nat.div_add_mod (a / 65536 ^ (i+1)) b;have e3:=Nat.mod_lt (a / 65536 ^ (i+1)) hb;have e4:a / b / 65536 ^ i=a / 65536 ^ i / b:=by rw [Nat.div_div_eq_div_mul,Nat.mul_comm,← Nat.div_div_eq_div_mul]
 have e5:a / 65536 ^ i % 65536<65536:=Nat.mod_lt _ (by decide);rw [e4];generalize a / 65536 ^ (i+1)=X at *;generalize a / 65536 ^ i=Y at *;generalize X % b=R at *;generalize hQ:X / b=Q at *;generalize Y % 65536=D at *;have e6:Y=b*(65536*Q)+(R*65536+D):=by
  rw [e1,← e2,Nat.mul_add,Nat.mul_left_comm];omega
 have e7:(R*65536+D) / b<65536:=by
  rw [Nat.div_lt_iff_lt_mul hb];have:(R+1)*65536≤b*65536:=Nat.mul_le_mul_right _ e3;omega
 refine ⟨?_,by rw [e6,Nat.mul_add_mod]⟩;rw [e6,Nat.mul_add_div hb,Nat.mul_add_mod,Nat.mod_eq_of_lt e7]
def RA (w:World) (A:Option Addr) (n c v:Nat):Prop:=∃ hs,IsAt w A n hs∧Dg hs∧vh hs=v∧n≤c
def HA (w:World) (A:Option Addr) (n c v:Nat):Prop:=n=(hd v).length∧IsAt w A n (hd v)∧n≤c
section
variable {w w':World} {A:Option Addr} {n c v:Nat}
theorem HA.ra (h:HA w A n c v):RA w A n c v:=⟨hd v,h.2.1,hd_Dg v,vh_hd v,h.2.2⟩
theorem RA.below (h:RA w A n c v) (hb:Below w.heap.size w w'):RA w' A n c v:=by
 obtain ⟨hs,h1,h2⟩:=h;exact ⟨hs,h1.below hb,h2⟩
theorem HA.below (h:HA w A n c v) (hb:Below w.heap.size w w'):HA w' A n c v:=⟨h.1,h.2.1.below hb,h.2.2⟩
theorem RA.lt (h:RA w A n c v):v<65536 ^ n:=by
 obtain ⟨hs,h1,h2,h3,h4⟩:=h;have:=vh_lt h2;rw [h1.1,h3] at this;exact this
theorem HA.len (h:HA w A n c v) {k:Nat} (hk:v<65536 ^ k):n≤k:=by rw [h.1];exact hd_len_le.2 hk
theorem HA.zero (h:HA w A n c v):n=0↔v=0:=by rw [h.1];exact hd_len_zero
end
def dg (v i:Nat):Nat:=v / 65536 ^ i % 65536
theorem dg_lt (v i:Nat):dg v i<65536:=Nat.mod_lt _ (by decide)
theorem trim_at (A:Option Addr) (n c v:Nat) (w:World) (h:RA w A n c v) (hn:n≤1000000000000) :
  Calls Tryz.prog 211 #[.slice A n c] w fun e w'=>∃ A1 n1,e=.returned (.slice A1 n1 c)∧HA w' A1 n1 c v∧w'=w∧∀ b o,A=some ⟨b,o,none⟩→A1=some ⟨b,o,none⟩:=by
 obtain ⟨hs,h1,h2,h3,h4⟩:=h;refine (rtrim_at A n c hs w h1 h4 hn).mono ?_;rintro e w' ⟨A1,rfl,hI,rfl,hAA⟩;have e1:=tl_hd h2;rw [h1.1,h3] at e1;rw [e1.1] at hI;exact ⟨A1,tl hs n,rfl,⟨e1.2,hI,Nat.le_trans (tl_le _ _) h4⟩,rfl,hAA⟩
theorem trim_ra (A:Option Addr) (n c v:Nat) (w:World) (h:RA w A n c v) (hn:n≤1000000000000) :
  Calls Tryz.prog 211 #[.slice A n c] w fun e w'=>∃ A1 n1,e=.returned (.slice A1 n1 c)∧HA w' A1 n1 c v∧w'=w :=
 (trim_at A n c v w h hn).mono fun e w' ⟨A1,n1,h1,h2,h3,_⟩=>⟨A1,n1,h1,h2,h3⟩
theorem at_ra (A:Option Addr) (n c v i:Nat) (w:World) (h:RA w A n c v) :
  Calls Tryz.prog 212 #[.slice A n c,.int .i64 i] w fun e w'=>e=.returned (.int .i64 ((dg v i:Nat):Int))∧w'=w:=by
 obtain ⟨hs,h1,h2,h3,h4⟩:=h;have:=rat_any A n c i hs w h1;rw [vh_get h2,h3] at this;exact this
theorem halves_any (A:Option Addr) (n c:Nat) (l:List Nat) (w:World) (h:Wat w A n l) (hn:n≤100000000000) :
  Calls Tryz.prog 186 #[.slice A n c] w fun e w'=>∃ A1 n1 c1,e=.returned (.slice A1 n1 c1)∧HA w' A1 n1 c1 (val l)∧Below w.heap.size w w':=by
 refine (rhalves_any A n c l w h hn).mono ?_;rintro e w' ⟨A1,c1,rfl,hI,hb,hc⟩;have e1:=tl_hd (halvesL_Dg h.2.1);rw [halvesL_len,h.1,vh_halves h.2.1] at e1;rw [e1.1] at hI;exact ⟨A1,_,c1,rfl,⟨e1.2,hI,hc⟩,hb⟩
theorem of_any (neg:Bool) (A:Option Addr) (n c v:Nat) (w:World) (h:RA w A n c v) (hn:n≤1000000000000) :
  Calls Tryz.prog 184 #[.bool neg,.slice A n c] w (RetZ w (sg neg v)):=by
 obtain ⟨hs,h1,h2,h3,h4⟩:=h;refine (rof_any neg A n c hs w h1 h4 hn h2).mono fun e w' hr=>?_;have e1:=tl_hd h2;rw [h1.1,h3] at e1;rw [e1.1,e1.2,words_hd] at hr;have h2:=val_digs v;rw [← h2] at hr;have:=hr.toZ (digs_Ws v)
 rwa [h2] at this
theorem cmp_step {a b k:Nat} (h:a / 65536 ^ (k+1)=b / 65536 ^ (k+1)):(dg a k<dg b k→a<b)∧(dg b k<dg a k→b<a)∧(dg a k=dg b k→a / 65536 ^ k=b / 65536 ^ k):=by
 have e1:=div_step a k;have e2:=div_step b k;unfold dg;exact ⟨fun h1=>lt_of_div (i:=k) (by omega),fun h1=>lt_of_div (i:=k) (by omega),fun h1=>by omega⟩
theorem cmp_lt {a b:Nat} (h:a<b):cmpN a b = -1:=by unfold cmpN;rw [if_pos h]
theorem cmp_gt {a b:Nat} (h:b<a):cmpN a b=1:=by unfold cmpN;rw [if_neg (by omega),if_pos h]
theorem cmp_eq (a:Nat):cmpN a a=0:=by unfold cmpN;simp
theorem cmp_ra (A B:Option Addr) (n c m d a b:Nat) (w:World) (h:RA w A n c a) (h':RA w B m d b) (hn:n≤1000000000000) (hm:m≤1000000000000) :
  Calls Tryz.prog 188 #[.slice A n c,.slice B m d] w fun e w'=>e=.returned (.int .i64 (cmpN a b))∧w'=w:=by
 have TA:=Hj (fun (i:Nat)=>at_ra A n c a i w h);have TB:=Hj (fun (i:Nat)=>at_ra B m d b i w h');obtain ⟨p,hp1,hp2,hp3⟩:∃ p:Nat,max (n:Int) (m:Int)=(p:Int)∧a / 65536 ^ p=b / 65536 ^ p∧p≤1000000000000:=by
  refine ⟨max n m,by omega,?_,by omega⟩;rw [Nat.div_eq_of_lt (Nat.lt_of_lt_of_le h.lt (Nat.pow_le_pow_right (by decide) (Nat.le_max_left n m))),Nat.div_eq_of_lt (Nat.lt_of_lt_of_le h'.lt (Nat.pow_le_pow_right (by decide) (Nat.le_max_right n m)))]
 have hp4:(if (n:Int)<(m:Int) then (m:Int) else (n:Int))=(p:Int):=by rw [← hp1];split<;>omega
 have hp5:(if n<m then (m:Int) else (n:Int))=(p:Int):=by rw [← hp1];split<;>omega
 have HP:=Hj hp2;clear hp2 h h';go_enter Tryz.func188,Tryz.ntmps188
 go_wp2_with fail
 go_loopw [5] (fun t wr=>∃ k:Nat,k≤p∧t=.int .i64 ((k:Int)-1)∧Hid (a / 65536 ^ k=b / 65536 ^ k∧wr=w)) (fun t _=>(intOf t+1).toNat)
 case atStart=>exact ⟨p,Nat.le_refl _,by first|rfl|go_num,HP.out,rfl⟩
 case round =>
  obtain ⟨k,hk,rfl,hR⟩:=hrel;obtain ⟨hR1,rfl⟩:=hR.out;by_cases h0:k=0
  ·subst h0;have hab:a=b:=by simpa using hR1
   subst hab;have HC:=Hj (cmp_eq a);clear hR hR1;go_wp2;go_ret;exact ⟨by rw [HC.out];rfl,rfl⟩
  ·obtain ⟨j,rfl⟩:∃ j,k=j+1:=⟨k-1,by omega⟩;have ej:(((j+1:Nat):Int)-1)=(j:Int):=by omega
   have hs:=Hj (cmp_step hR1);have T1:=Hj (TA.out j);have T2:=Hj (TB.out j);generalize dg a j=x at *;generalize dg b j=y at *;simp only [ej];clear hR hR1 TA TB HP;have tri:x<y∨y<x∨x=y:=by omega
   rcases tri with h1|h1|h1
   ·have d1:decide (x<y)=true:=decide_eq_true (by omega);have HC:=Hj (cmp_lt (hs.out.1 h1));clear h1
    go_wp2_with fail
    refine T1.out.mono ?_;rintro e w2 ⟨rfl,rfl⟩
    go_wp2_with fail
    refine T2.out.mono ?_;rintro e w3 ⟨rfl,rfl⟩;go_wp2;go_ret;exact ⟨by rw [HC.out];rfl,rfl⟩
   ·have d1:decide (x<y)=false:=decide_eq_false (by omega);have d2:decide (y<x)=true:=decide_eq_true (by omega);have HC:=Hj (cmp_gt (hs.out.2.1 h1));clear h1
    go_wp2_with fail
    refine T1.out.mono ?_;rintro e w2 ⟨rfl,rfl⟩
    go_wp2_with fail
    refine T2.out.mono ?_;rintro e w3 ⟨rfl,rfl⟩
    go_wp2_with fail
    refine T1.out.mono ?_;rintro e w2 ⟨rfl,rfl⟩
    go_wp2_with fail
    refine T2.out.mono ?_;rintro e w3 ⟨rfl,rfl⟩;go_wp2;go_ret;exact ⟨by rw [HC.out];rfl,rfl⟩
   ·subst h1;have HC:=Hj (hs.out.2.2 rfl);have d1:decide (x<x)=false:=decide_eq_false (by omega)
    go_wp2_with fail
    refine T1.out.mono ?_;rintro e w2 ⟨rfl,rfl⟩
    go_wp2_with fail
    refine T2.out.mono ?_;rintro e w3 ⟨rfl,rfl⟩
    go_wp2_with fail
    refine T1.out.mono ?_;rintro e w2 ⟨rfl,rfl⟩
    go_wp2_with fail
    refine T2.out.mono ?_;rintro e w3 ⟨rfl,rfl⟩;go_wp2;go_roundw
    case rel=>exact ⟨j,by omega,by first|rfl|go_num,HC.out,by first|rfl|trivial⟩
    case measure=>simp [intOf]
theorem mod_dg (a i:Nat):a % 65536 ^ (i+1)=a % 65536 ^ i+65536 ^ i*dg a i:=mod_step a i
theorem snoc_val {hs:List Int} {i x:Nat} (hl:hs.length=i):vh (hs ++ [((x % 65536:Nat):Int)])+65536 ^ (i+1)*(x / 65536)=vh hs+65536 ^ i*x:=by
 rw [vh_snoc,hl,Int.toNat_natCast,Nat.pow_succ,Nat.mul_assoc,Nat.add_assoc,← Nat.mul_add,Nat.mod_add_div]
def SubI (a b i:Nat) (hs:List Int) (lt:Nat):Prop:=hs.length=i∧Dg hs∧vh hs+b % 65536 ^ i=a % 65536 ^ i+65536 ^ i*lt∧lt≤1
theorem SubI.start (a b:Nat):SubI a b 0 [] 0:=⟨rfl,Dg.nil,by simp [vh,Nat.mod_one],by omega⟩
theorem SubI.step0 {a b i lt:Nat} {hs:List Int} (h:SubI a b i hs lt) (hv:dg b i+lt≤dg a i):SubI a b (i+1) (hs ++ [((dg a i:Nat):Int)-(dg b i:Nat)-(lt:Nat)]) 0:=by
 obtain ⟨h1,h2,h3,h4⟩:=h;have:=dg_lt a i;refine ⟨by simp [h1],h2.snoc (by omega) (by omega),?_,by omega⟩;rw [vh_snoc,h1,mod_dg,mod_dg,show (((dg a i:Nat):Int)-(dg b i:Nat)-(lt:Nat)).toNat=dg a i-dg b i-lt by omega];obtain ⟨k,hk⟩:∃ k,dg a i=dg b i+lt+k:=⟨dg a i-dg b i-lt,by omega⟩;rw [hk,show dg b i+lt+k-dg b i-lt=k by omega,Nat.mul_add,Nat.mul_add];omega
theorem SubI.step1 {a b i lt:Nat} {hs:List Int} (h:SubI a b i hs lt) (hv:dg a i<dg b i+lt):SubI a b (i+1) (hs ++ [((dg a i:Nat):Int)-(dg b i:Nat)-(lt:Nat)+65536]) 1:=by
 obtain ⟨h1,h2,h3,h4⟩:=h;have:=dg_lt a i;have:=dg_lt b i;refine ⟨by simp [h1],h2.snoc (by omega) (by omega),?_,by omega⟩;rw [vh_snoc,h1,mod_dg,mod_dg,show (((dg a i:Nat):Int)-(dg b i:Nat)-(lt:Nat)+65536).toNat=dg a i+65536-dg b i-lt by omega];obtain ⟨k,hk⟩:∃ k,dg a i+65536=dg b i+lt+k:=⟨dg a i+65536-dg b i-lt,by omega⟩;have e:=congrArg (65536 ^ i * ·) hk;simp only [Nat.mul_add] at e;rw [hk,show dg b i+lt+k-dg b i-lt=k by omega,Nat.pow_succ];omega
theorem SubI.done {a b i lt:Nat} {hs:List Int} (h:SubI a b i hs lt) (ha:a<65536 ^ i) (hb:b≤a):vh hs=a-b:=by
 obtain ⟨h1,h2,h3,h4⟩:=h;have hl:=vh_lt h2;rw [h1] at hl;rw [Nat.mod_eq_of_lt ha,Nat.mod_eq_of_lt (by omega)] at h3;obtain rfl|rfl:lt=0∨lt=1:=by omega
 ·omega
 ·omega
def TimI (b n i:Nat) (hs:List Int) (cy:Nat):Prop:=hs.length=i∧Dg hs∧vh hs+65536 ^ i*cy=b % 65536 ^ i*n∧cy<65536
theorem TimI.start (b n:Nat):TimI b n 0 [] 0:=⟨rfl,Dg.nil,by simp [vh,Nat.mod_one],by omega⟩
theorem dg_mul_le (b i:Nat) {n:Nat} (hn:n≤65536):dg b i*n≤65535*65536:=Nat.mul_le_mul (by have:=dg_lt b i;omega) hn
theorem TimI.step {b n i cy:Nat} {hs:List Int} (h:TimI b n i hs cy) (hn:n≤65536):TimI b n (i+1) (hs ++ [(((dg b i*n+cy) % 65536:Nat):Int)]) ((dg b i*n+cy) / 65536):=by
 obtain ⟨h1,h2,h3,h4⟩:=h;have:=dg_mul_le b i hn;refine ⟨by simp [h1],h2.snoc (by omega) (by omega),?_,by omega⟩;rw [snoc_val h1,mod_dg,Nat.mul_add,Nat.add_mul,Nat.mul_assoc];omega
theorem TimI.done {b n i:Nat} {hs:List Int} (h:TimI b n i hs 0) (hb:b<65536 ^ i):vh hs=b*n:=by
 have:=h.2.2.1;rw [Nat.mod_eq_of_lt hb] at this;omega
theorem dg_over {b i:Nat} (hb:b<65536 ^ i):dg b i=0:=by unfold dg;rw [Nat.div_eq_of_lt hb]
theorem lt_pow_le {b i k:Nat} (hb:b<65536 ^ i) (h:i≤k):b<65536 ^ k:=Nat.lt_of_lt_of_le hb (Nat.pow_le_pow_right (by decide) h)
theorem vh_list (v:Nat):∀ n,vh ((List.range n).map fun j=>((dg v j:Nat):Int))=v % 65536 ^ n
 | 0=>by simp [vh,Nat.mod_one]
 | n+1=>by
  rw [List.range_succ,List.map_append,List.map_cons,List.map_nil,vh_snoc,vh_list v n,mod_dg];simp
theorem Dg_of {hs:List Int} {v:Nat} (h:∀ j,j<hs.length→hs[j]?.getD 0=((dg v j:Nat):Int)):Dg hs:=fun j=>by
 by_cases hj:j<hs.length
 ·rw [h j hj];have:=dg_lt v j;omega
 ·rw [List.getElem?_eq_none (by omega)];simp
theorem vh_of {hs:List Int} {v:Nat} (h:∀ j,j<hs.length→hs[j]?.getD 0=((dg v j:Nat):Int)) (hv:v<65536 ^ hs.length):vh hs=v:=by
 have e:hs=(List.range hs.length).map fun j=>((dg v j:Nat):Int):=by
  apply List.ext_getElem (by simp);intro j h1 h2;have:=h j h1;rw [List.getElem?_eq_getElem h1] at this;simpa using this
 rw [e,vh_list,Nat.mod_eq_of_lt hv]
def QuoI (v n i:Nat) (hs:List Int):Prop:=hs.length=n∧∀ j,i≤j→j<n→hs[j]?.getD 0=((dg v j:Nat):Int)
theorem QuoI.start (v n:Nat):QuoI v n n (List.replicate n 0):=⟨by simp,fun j h1 h2=>by omega⟩
theorem QuoI.step {v n i:Nat} {hs:List Int} (h:QuoI v n (i+1) hs) (hi:i<n) {x:Nat} (hx:x=dg v i):QuoI v n i (hs.set i (x:Int)):=by
 refine ⟨by simp [h.1],fun j h1 h2=>?_⟩;rw [List.getElem?_set];by_cases hj:i=j
 ·subst hj;rw [if_pos rfl,if_pos (by rw [h.1];exact hi),hx];rfl
 ·rw [if_neg hj];exact h.2 j (by omega) h2
theorem QuoI.done {v n:Nat} {hs:List Int} (h:QuoI v n 0 hs) (hv:v<65536 ^ n):Dg hs∧vh hs=v:=by
 have e:∀ j,j<hs.length→hs[j]?.getD 0=((dg v j:Nat):Int):=fun j hj=>h.2 j (Nat.zero_le _) (by rw [← h.1];exact hj);exact ⟨Dg_of e,vh_of e (by rw [h.1];exact hv)⟩
def rst (a b i:Nat):Nat:=a / 65536 ^ i % b
theorem rst_step (a b i:Nat) (hb:0<b):(rst a b (i+1)*65536+dg a i) / b=dg (a / b) i∧(rst a b (i+1)*65536+dg a i) % b=rst a b i:=quo_step a b i hb
theorem rst_lt (a b i:Nat) (hb:0<b):rst a b i<b:=Nat.mod_lt _ hb
theorem rst_top {a b n:Nat} (ha:a<65536 ^ n):rst a b n=0:=by unfold rst;rw [Nat.div_eq_of_lt ha,Nat.zero_mod]
theorem rst_zero (a b:Nat):rst a b 0=a % b:=by unfold rst;rw [Nat.pow_zero,Nat.div_one]
theorem seek_done {lo hi b r:Nat} (hb:0<b) (h1:lo*b≤r) (h2:r<hi*b) (h3:hi≤lo+1):lo=r / b∧r-b*lo=r % b:=by
 have e:r<(lo+1)*b:=Nat.lt_of_lt_of_le h2 (Nat.mul_le_mul_right _ h3);have e2:r / b=lo:=by
  refine (Nat.div_eq_iff hb).2 ⟨h1,?_⟩;rw [Nat.add_mul] at e;omega
 have:=Nat.div_add_mod r b;rw [e2] at this;exact ⟨e2.symm,by omega⟩
def RetF (w:World) (v:Nat) (e:Ending) (w':World):Prop:=∃ A n c,e=.returned (.slice A n c)∧HA w' A n c v∧Below w.heap.size w w'∧(n≠0→∃ b o,A=some ⟨b,o,none⟩∧w.heap.size≤b)
def RetH (w:World) (v:Nat) (e:Ending) (w':World):Prop:=∃ A n c,e=.returned (.slice A n c)∧HA w' A n c v∧Below w.heap.size w w'
theorem int_one {b:Int}:∀ u∈(#[.int .i64 b]:Array Value).toList,u.oneCell'=true:=by
 intro u hu;simp at hu;rw [hu]
 rfl
theorem Own.ra {base:Nat} {e:TypeId} {w:World} {A:Option Addr} {n c:Nat} {hs:List Int} (h:Own base e 1 w A n c (hs.map (Value.int .i64))) (hd:Dg hs):RA w A n c (vh hs):=by
 refine ⟨hs,h.ints,hd,rfl,?_⟩;rcases h.2 with ⟨h7,h8⟩|⟨g',cap',cur',h7,_,_,h8,_⟩
 ·omega
 ·simp at h7;omega
theorem w64_in (x:Int) (h : -9223372036854775808≤x∧x≤9223372036854775807):wrap64 x=x:=by
 unfold wrap64;omega
theorem tmod_dg (v:Nat):(v:Int).tmod 65536=((v % 65536:Nat):Int):=by rw [Int.tmod_eq_emod_of_nonneg (by omega)];simp
theorem tdiv_dg (v:Nat):(v:Int).tdiv 65536=((v / 65536:Nat):Int):=by rw [Int.tdiv_eq_ediv_of_nonneg (by omega)];simp
theorem sub_ra (A B:Option Addr) (n c m d a b:Nat) (w:World) (h:RA w A n c a) (h':RA w B m d b) (hn:n≤40000000000) (hab:b≤a) :
  Calls Tryz.prog 189 #[.slice A n c,.slice B m d] w (RetF w (a-b)):=by
 have TA:=Hj (fun (i:Nat) (W:World) (hW:Below w.heap.size w W)=>at_ra A n c a i W (h.below hW));have TB:=Hj (fun (i:Nat) (W:World) (hW:Below w.heap.size w W)=>at_ra B m d b i W (h'.below hW));have HA2:=Hj h.lt;have HAB:=Hj hab;obtain ⟨ii,hii,hz0,hz1,hz2⟩:=info_parts info_int;have HI:=Hj hii;have HZ0:=Hj hz0;have HZ1:=Hj hz1;have HZ2:=Hj hz2;clear h h' hab hii hz0 hz1 hz2;go_enter Tryz.func189,Tryz.ntmps189
 go_wp2_with fail
 go_loopw [5,6,7] (fun tout tc ti wr=>∃ (i:Nat) (Ah:Option Addr) (ch lt:Nat) (hs:List Int),i≤n∧tout=.slice Ah i ch∧tc=.int .i64 (lt:Int)∧ti=.int .i64 (i:Int)∧lt≤1∧Hid (Below w.heap.size w wr∧Own w.heap.size 3 1 wr Ah i ch (hs.map (Value.int .i64))∧SubI a b i hs lt)) (fun _ _ ti _=>n-(intOf ti).toNat)
 case atStart=>exact ⟨0,none,0,0,[],by omega,rfl,rfl,rfl,by omega,Below.refl _ _,Own.nil _ _ _ _,SubI.start a b⟩
 case round =>
  obtain ⟨i,Ah,ch,lt,hs,hi,rfl,rfl,rfl,hcy,hR⟩:=hrel;by_cases h1:i<n
  ·have d1:decide ((i:Int)<(n:Int))=true:=decide_eq_true (by omega);by_cases hv:dg b i+lt≤dg a i
   ·have hv0:=hv;clear hv0;have T1:=Hj (TA.out i wr hR.out.1);have T2:=Hj (TB.out i wr hR.out.1);have HST:=Hj (hR.out.2.2.step0 hv);have d3:decide (((dg a i:Nat):Int)-((dg b i:Nat):Int)-(lt:Int)<0)=false:=decide_eq_false (by omega);have l1:=dg_lt a i;have l2:=dg_lt b i;obtain ⟨hB,hO,-⟩:=hR.out;generalize dg a i=x at *;generalize dg b i=y at *;obtain ⟨z1,hz1⟩:∃ z,z=(x:Int)-(y:Int):=⟨_,rfl⟩;obtain ⟨z2,hz2⟩:∃ z,z=z1-(lt:Int):=⟨_,rfl⟩;obtain ⟨z3,hz3⟩:∃ z,z=z2+65536:=⟨_,rfl⟩;rw [← hz1,← hz2] at HST d3
    (try rw [← hz3] at HST)
    have e1:IntKind.i64.wrap ((x:Int)-(y:Int))=z1:=by rw [← hz1];exact IntWalk.i64_in _ (by omega)
    have e2:IntKind.i64.wrap (z1-(lt:Int))=z2:=by rw [← hz2];exact IntWalk.i64_in _ (by omega)
    have e4:IntKind.i64.wrap (z2+65536)=z3:=by rw [← hz3];exact IntWalk.i64_in _ (by omega)
    have f1:wrap64 ((x:Int)-(y:Int))=z1:=by rw [← hz1];exact w64_in _ (by omega)
    have f2:wrap64 (z1-(lt:Int))=z2:=by rw [← hz2];exact w64_in _ (by omega)
    have f4:wrap64 (z2+65536)=z3:=by rw [← hz3];exact w64_in _ (by omega)
    clear hz1 hz2 hz3;have e9:IntKind.i64.wrap ((i:Int)+1)=((i+1:Nat):Int):=IntWalk.i64_in _ (by omega);clear hR l1 l2 hv;have k1:=(Kp.refl wr).alloc (.cells #[.int .i64 z2] 3);have q1:Below w.heap.size w (wr.alloc (.cells #[.int .i64 z2] 3)):=hB.trans (Below.mono k1 hB.size);have o1:=hO.keep k1;have m1:=Blk.new wr 3 #[.int .i64 z2];clear hB hO
    go_wp2_with fail
    refine T1.out.mono ?_;rintro e w2 ⟨rfl,rfl⟩;clear T1
    go_wp2_with fail
    refine T2.out.mono ?_;rintro e w3 ⟨rfl,rfl⟩;clear T2
    go_wp2_with (first
     | (at_builtin;refine wpList_append_my rfl (base:=w.heap.size) (e:=3) (size:=1) (bytes:=8) (.tmp 28) (.tmp 30) 199 rfl Tryz.underlying199 HI.out HZ0.out HZ1.out HZ2.out rfl (by decide) (xs:=hs.map (Value.int .i64)) (news:=[.int .i64 z2]) rfl (by exact o1) rfl (by exact Blk.src m1 rfl int_one) (by simp only [maxLen];omega) (by omega) (by exact q1.size) ?_
        intro B1 cb1 w4 hO1 hb1 hk1;have g1:Below w.heap.size w w4:=q1.trans hb1;clear hb1 hk1))
    have hfin:Below w.heap.size w w4∧Own w.heap.size 3 1 w4 B1 (i+1) cb1 ((hs ++ [z2]).map (Value.int .i64))∧SubI a b (i+1) (hs ++ [z2]) 0:=by
     refine ⟨g1,?_,HST.out⟩;rw [List.map_append];exact hO1
    have HF:=Hj hfin;clear hfin g1 hO1 m1 o1 q1 k1;go_wp2;go_roundw
    case rel=>exact ⟨i+1,B1,cb1,0,hs ++ [z2],by omega,rfl,rfl,by first|rfl|(rw [e9]),by omega,HF.out⟩
    case measure=>simp [intOf];omega
   ·have hv0:=hv;clear hv0;have T1:=Hj (TA.out i wr hR.out.1);have T2:=Hj (TB.out i wr hR.out.1);have HST:=Hj (hR.out.2.2.step1 (by omega));have d3:decide (((dg a i:Nat):Int)-((dg b i:Nat):Int)-(lt:Int)<0)=true:=decide_eq_true (by omega);have l1:=dg_lt a i;have l2:=dg_lt b i;obtain ⟨hB,hO,-⟩:=hR.out;generalize dg a i=x at *;generalize dg b i=y at *;obtain ⟨z1,hz1⟩:∃ z,z=(x:Int)-(y:Int):=⟨_,rfl⟩;obtain ⟨z2,hz2⟩:∃ z,z=z1-(lt:Int):=⟨_,rfl⟩;obtain ⟨z3,hz3⟩:∃ z,z=z2+65536:=⟨_,rfl⟩;rw [← hz1,← hz2] at HST d3
    (try rw [← hz3] at HST)
    have e1:IntKind.i64.wrap ((x:Int)-(y:Int))=z1:=by rw [← hz1];exact IntWalk.i64_in _ (by omega)
    have e2:IntKind.i64.wrap (z1-(lt:Int))=z2:=by rw [← hz2];exact IntWalk.i64_in _ (by omega)
    have e4:IntKind.i64.wrap (z2+65536)=z3:=by rw [← hz3];exact IntWalk.i64_in _ (by omega)
    have f1:wrap64 ((x:Int)-(y:Int))=z1:=by rw [← hz1];exact w64_in _ (by omega)
    have f2:wrap64 (z1-(lt:Int))=z2:=by rw [← hz2];exact w64_in _ (by omega)
    have f4:wrap64 (z2+65536)=z3:=by rw [← hz3];exact w64_in _ (by omega)
    clear hz1 hz2 hz3;have e9:IntKind.i64.wrap ((i:Int)+1)=((i+1:Nat):Int):=IntWalk.i64_in _ (by omega);clear hR l1 l2 hv;have k1:=(Kp.refl wr).alloc (.cells #[.int .i64 z3] 3);have q1:Below w.heap.size w (wr.alloc (.cells #[.int .i64 z3] 3)):=hB.trans (Below.mono k1 hB.size);have o1:=hO.keep k1;have m1:=Blk.new wr 3 #[.int .i64 z3];clear hB hO
    go_wp2_with fail
    refine T1.out.mono ?_;rintro e w2 ⟨rfl,rfl⟩;clear T1
    go_wp2_with fail
    refine T2.out.mono ?_;rintro e w3 ⟨rfl,rfl⟩;clear T2
    go_wp2_with (first
     | (at_builtin;refine wpList_append_my rfl (base:=w.heap.size) (e:=3) (size:=1) (bytes:=8) (.tmp 28) (.tmp 30) 199 rfl Tryz.underlying199 HI.out HZ0.out HZ1.out HZ2.out rfl (by decide) (xs:=hs.map (Value.int .i64)) (news:=[.int .i64 z3]) rfl (by exact o1) rfl (by exact Blk.src m1 rfl int_one) (by simp only [maxLen];omega) (by omega) (by exact q1.size) ?_
        intro B1 cb1 w4 hO1 hb1 hk1;have g1:Below w.heap.size w w4:=q1.trans hb1;clear hb1 hk1))
    have hfin:Below w.heap.size w w4∧Own w.heap.size 3 1 w4 B1 (i+1) cb1 ((hs ++ [z3]).map (Value.int .i64))∧SubI a b (i+1) (hs ++ [z3]) 1:=by
     refine ⟨g1,?_,HST.out⟩;rw [List.map_append];exact hO1
    have HF:=Hj hfin;clear hfin g1 hO1 m1 o1 q1 k1;go_wp2;go_roundw
    case rel=>exact ⟨i+1,B1,cb1,1,hs ++ [z3],by omega,rfl,rfl,by first|rfl|(rw [e9]),by omega,HF.out⟩
    case measure=>simp [intOf];omega
  ·obtain rfl:i=n:=by omega
   obtain ⟨hB,hO,hI⟩:=hR.out;have hv:=hI.done HA2.out HAB.out;have hra:=hO.ra hI.2.1;rw [hv] at hra;have hfr:i≠0→∃ g,Ah=some ⟨g,0,none⟩∧w.heap.size≤g:=fun hi0=>by
    obtain ⟨g,cap,hv9,hb9,_⟩:=World.ownsRow.form hO (Nat.pos_of_ne_zero hi0);simp at hv9;exact ⟨g,hv9.1,hb9⟩
   have HFR:=Hj hfr;clear hfr;have HT:=Hj (trim_at Ah i ch (a-b) wr hra (by omega));have HLE:=Hj (show (hd (a-b)).length≤i from hd_len_le.2 (Nat.lt_of_le_of_lt (Nat.sub_le _ _) HA2.out));have HB:=Hj hB;clear hR hB hO hI hv hra TA TB
   go_wp2_with fail
   refine HT.out.mono ?_;rintro e w1 ⟨A1,n1,rfl,hI,rfl,hAA⟩;have HAA:=Hj (show n1≠0→∃ b o,A1=some ⟨b,o,none⟩∧w.heap.size≤b from fun h1=>by
    have hle:i≠0:=fun h0=>h1 (by have h2:=HLE.out;have h3:=hI.1;omega);obtain ⟨g,hg1,hg2⟩:=HFR.out hle;exact ⟨g,0,hAA g 0 hg1,hg2⟩)
   clear hAA;have HI2:=Hj hI;clear hI HT;go_wp2;go_ret;exact ⟨A1,n1,ch,rfl,HI2.out,HB.out,HAA.out⟩
theorem times_ra (A:Option Addr) (n c a N:Nat) (w:World) (h:RA w A n c a) (hn:n≤40000000000) (hN:N≤65536) :
  Calls Tryz.prog 215 #[.slice A n c,.int .i64 (N:Int)] w (RetH w (a*N)):=by
 have TA:=Hj (fun (i:Nat) (W:World) (hW:Below w.heap.size w W)=>at_ra A n c a i W (h.below hW));have HA2:=Hj h.lt;obtain ⟨ii,hii,hz0,hz1,hz2⟩:=info_parts info_int;have HI:=Hj hii;have HZ0:=Hj hz0;have HZ1:=Hj hz1;have HZ2:=Hj hz2;clear h hii hz0 hz1 hz2;go_enter Tryz.func215,Tryz.ntmps215
 go_wp2_with fail
 go_loopw [5,6,7] (fun tout tc ti wr=>∃ (i:Nat) (Ah:Option Addr) (ch cy:Nat) (hs:List Int),i+min 1 cy≤n+1∧tout=.slice Ah i ch∧tc=.int .i64 (cy:Int)∧ti=.int .i64 (i:Int)∧Hid (Below w.heap.size w wr∧Own w.heap.size 3 1 wr Ah i ch (hs.map (Value.int .i64))∧TimI a N i hs cy)) (fun _ tc ti _=>2*(n-(intOf ti).toNat)+min 1 (intOf tc).toNat)
 case atStart=>exact ⟨0,none,0,0,[],by omega,rfl,rfl,rfl,Below.refl _ _,Own.nil _ _ _ _,TimI.start a N⟩
 case round =>
  obtain ⟨i,Ah,ch,cy,hs,hi,rfl,rfl,rfl,hR⟩:=hrel;by_cases h1:i<n
  ·have d1:decide ((i:Int)<(n:Int))=true:=decide_eq_true (by omega);have l1:=dg_mul_le a i hN;have T1:=Hj (TA.out i wr hR.out.1);have hst:=hR.out.2.2.step hN;have hc4:=hR.out.2.2.2.2.2;have hme:(dg a i*N+cy) / 65536<65536∧i+1+min 1 ((dg a i*N+cy) / 65536)≤n+1∧2*(n-(i+1))+min 1 ((dg a i*N+cy) / 65536)<2*(n-i)+min 1 cy:=by
    by_cases hi:i<n
    ·omega
    ·have z1:dg a i=0:=dg_over (lt_pow_le HA2.out (by omega));rw [z1,Nat.zero_mul];omega
   obtain ⟨hB,hO,-⟩:=hR.out;generalize dg a i=x at *;have e1:IntKind.i64.wrap ((x:Int)*(N:Int))=((x*N:Nat):Int):=IntWalk.i64_in _ (by rw [← Int.natCast_mul];omega);generalize x*N=p at *;have e2:IntKind.i64.wrap ((p:Int)+(cy:Int))=((p+cy:Nat):Int):=IntWalk.i64_in _ (by omega);have hv:p+cy≤4294967296:=by omega
   generalize p+cy=v at *;have e3:=tmod_dg v;have e4:=tdiv_dg v;have e5:(v:Int) % 65536=((v % 65536:Nat):Int):=by simp
   have e6:(v:Int) / 65536=((v / 65536:Nat):Int):=by simp
   have e7:IntKind.i64.wrap ((v % 65536:Nat):Int)=((v % 65536:Nat):Int):=IntWalk.i64_in _ (by omega);have e8:IntKind.i64.wrap ((v / 65536:Nat):Int)=((v / 65536:Nat):Int):=IntWalk.i64_in _ (by omega);generalize v % 65536=r at *;generalize v / 65536=q at *;have e9:IntKind.i64.wrap ((i:Int)+1)=((i+1:Nat):Int):=IntWalk.i64_in _ (by omega);have HST:=Hj hst;have HME:=Hj hme;clear hst hme hR l1 hv;have k1:=(Kp.refl wr).alloc (.cells #[.int .i64 (r:Int)] 3);have q1:Below w.heap.size w (wr.alloc (.cells #[.int .i64 (r:Int)] 3)):=hB.trans (Below.mono k1 hB.size);have o1:=hO.keep k1;have m1:=Blk.new wr 3 #[.int .i64 (r:Int)];clear hB hO
   go_wp2_with fail
   refine T1.out.mono ?_;rintro e w2 ⟨rfl,rfl⟩;clear T1
   go_wp2_with (first
    | (at_builtin;refine wpList_append_my rfl (base:=w.heap.size) (e:=3) (size:=1) (bytes:=8) (.tmp 26) (.tmp 29) 199 rfl Tryz.underlying199 HI.out HZ0.out HZ1.out HZ2.out rfl (by decide) (xs:=hs.map (Value.int .i64)) (news:=[.int .i64 (r:Int)]) rfl (by exact o1) rfl (by exact Blk.src m1 rfl int_one) (by simp only [maxLen];omega) (by omega) (by exact q1.size) ?_
       intro B1 cb1 w4 hO1 hb1 hk1;have g1:Below w.heap.size w w4:=q1.trans hb1;clear hb1 hk1))
   have hfin:Below w.heap.size w w4∧Own w.heap.size 3 1 w4 B1 (i+1) cb1 ((hs ++ [(r:Int)]).map (Value.int .i64))∧TimI a N (i+1) (hs ++ [(r:Int)]) q:=by
    refine ⟨g1,?_,HST.out⟩;rw [List.map_append];exact hO1
   have HF:=Hj hfin;clear hfin g1 hO1 m1 o1 q1 k1;go_wp2;go_roundw
   case rel=>exact ⟨i+1,B1,cb1,q,hs ++ [(r:Int)],by have:=HME.out;omega,rfl,rfl,by first|rfl|(rw [e9]),HF.out⟩
   case measure=>have:=HME.out;simp [intOf];omega
  ·have d1:decide ((i:Int)<(n:Int))=false:=decide_eq_false (by omega);by_cases h3:cy=0
   ·subst h3;obtain ⟨hB,hO,hI⟩:=hR.out;have hv:=hI.done (lt_pow_le HA2.out (by omega));have hra:=hO.ra hI.2.1;rw [hv] at hra;have HT:=Hj (trim_ra Ah i ch (a*N) wr hra (by omega));have HB:=Hj hB;clear hR hB hO hI hv hra TA
    go_wp2_with fail
    refine HT.out.mono ?_;rintro e w1 ⟨A1,n1,rfl,hI,rfl⟩;have HI2:=Hj hI;clear hI HT;go_wp2;go_ret;exact ⟨A1,n1,ch,rfl,HI2.out,HB.out⟩
   ·have d2:decide ((0:Int)<(cy:Int))=true:=decide_eq_true (by omega);have l1:=dg_mul_le a i hN;have T1:=Hj (TA.out i wr hR.out.1);have hst:=hR.out.2.2.step hN;have hc4:=hR.out.2.2.2.2.2;have hme:(dg a i*N+cy) / 65536<65536∧i+1+min 1 ((dg a i*N+cy) / 65536)≤n+1∧2*(n-(i+1))+min 1 ((dg a i*N+cy) / 65536)<2*(n-i)+min 1 cy:=by
     by_cases hi:i<n
     ·omega
     ·have z1:dg a i=0:=dg_over (lt_pow_le HA2.out (by omega));rw [z1,Nat.zero_mul];omega
    obtain ⟨hB,hO,-⟩:=hR.out;generalize dg a i=x at *;have e1:IntKind.i64.wrap ((x:Int)*(N:Int))=((x*N:Nat):Int):=IntWalk.i64_in _ (by rw [← Int.natCast_mul];omega);generalize x*N=p at *;have e2:IntKind.i64.wrap ((p:Int)+(cy:Int))=((p+cy:Nat):Int):=IntWalk.i64_in _ (by omega);have hv:p+cy≤4294967296:=by omega
    generalize p+cy=v at *;have e3:=tmod_dg v;have e4:=tdiv_dg v;have e5:(v:Int) % 65536=((v % 65536:Nat):Int):=by simp
    have e6:(v:Int) / 65536=((v / 65536:Nat):Int):=by simp
    have e7:IntKind.i64.wrap ((v % 65536:Nat):Int)=((v % 65536:Nat):Int):=IntWalk.i64_in _ (by omega);have e8:IntKind.i64.wrap ((v / 65536:Nat):Int)=((v / 65536:Nat):Int):=IntWalk.i64_in _ (by omega);generalize v % 65536=r at *;generalize v / 65536=q at *;have e9:IntKind.i64.wrap ((i:Int)+1)=((i+1:Nat):Int):=IntWalk.i64_in _ (by omega);have HST:=Hj hst;have HME:=Hj hme;clear hst hme hR l1 hv;have k1:=(Kp.refl wr).alloc (.cells #[.int .i64 (r:Int)] 3);have q1:Below w.heap.size w (wr.alloc (.cells #[.int .i64 (r:Int)] 3)):=hB.trans (Below.mono k1 hB.size);have o1:=hO.keep k1;have m1:=Blk.new wr 3 #[.int .i64 (r:Int)];clear hB hO
    go_wp2_with fail
    refine T1.out.mono ?_;rintro e w2 ⟨rfl,rfl⟩;clear T1
    go_wp2_with (first
     | (at_builtin;refine wpList_append_my rfl (base:=w.heap.size) (e:=3) (size:=1) (bytes:=8) (.tmp 26) (.tmp 29) 199 rfl Tryz.underlying199 HI.out HZ0.out HZ1.out HZ2.out rfl (by decide) (xs:=hs.map (Value.int .i64)) (news:=[.int .i64 (r:Int)]) rfl (by exact o1) rfl (by exact Blk.src m1 rfl int_one) (by simp only [maxLen];omega) (by omega) (by exact q1.size) ?_
        intro B1 cb1 w4 hO1 hb1 hk1;have g1:Below w.heap.size w w4:=q1.trans hb1;clear hb1 hk1))
    have hfin:Below w.heap.size w w4∧Own w.heap.size 3 1 w4 B1 (i+1) cb1 ((hs ++ [(r:Int)]).map (Value.int .i64))∧TimI a N (i+1) (hs ++ [(r:Int)]) q:=by
     refine ⟨g1,?_,HST.out⟩;rw [List.map_append];exact hO1
    have HF:=Hj hfin;clear hfin g1 hO1 m1 o1 q1 k1;go_wp2;go_roundw
    case rel=>exact ⟨i+1,B1,cb1,q,hs ++ [(r:Int)],by have:=HME.out;omega,rfl,rfl,by first|rfl|(rw [e9]),HF.out⟩
    case measure=>have:=HME.out;simp [intOf];omega
end Go.Proofs.YtjajigkacccdgaaGreat
