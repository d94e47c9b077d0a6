/-
Lemmas of the walk; no further conditions.
-/
import Derived.Test.YtjajigkacccdgaaGreatThAK
set_option linter.unusedVariables false
set_option linter.unusedSimpArgs false
set_option maxRecDepth 100000
set_option maxHeartbeats 16000000
namespace Go.Proofs.YtjajigkacccdgaaGreat
open Go.RowKit
open Wd
theorem val_split (l:List Nat) (k:Nat) (h:k≤l.length):val l=val (l.take k)+4294967296 ^ k*val (l.drop k):=by
 have:=val_append (l.take k) (l.drop k);rw [List.take_append_drop,List.length_take,Nat.min_eq_left h] at this;exact this
structure LdI (u0 v:List Nat) (n k:Nat) (U Q:List Nat):Prop where
 len:U.length=u0.length
 ws:Ws U
 qws:Ws Q
 low:val (U.drop k)<val v
 top:val (U.drop (k+n))=0
 eq:val u0=val v*(4294967296 ^ k*val (Q.drop k))+val U
theorem LdI.window {u0 v U Q:List Nat} {n k:Nat} (h:LdI u0 v n (k+1) U Q) (hk:k+(n+1)≤U.length):val (U.drop k)=val ((U.drop k).take (n+1))∧val ((U.drop k).take (n+1))<4294967296*val v:=by
 have h1:=val_split (U.drop k) (n+1) (by rw [List.length_drop];omega);have h2:=h.top;rw [List.drop_drop,show k+(n+1)=k+1+n by omega,h2,Nat.mul_zero,Nat.add_zero] at h1;have h3:=val_drop_succ U k;have h4:=h.low;have h5:=h.ws.get k;refine ⟨h1,?_⟩;rw [← h1,h3];have:4294967296*(val (U.drop (k+1))+1)≤4294967296*val v:=Nat.mul_le_mul_left _ h4;omega
theorem LdI.step {u0 v U Q p:List Nat} {n k q:Nat} (h:LdI u0 v n (k+1) U Q) (hv:Ws v) (hvl:v.length=n) (hk:k+(n+1)≤U.length) (hkQ:k<Q.length) (hp:p.length=n+1) (hpw:Ws p)
  (hq:q=val ((U.drop k).take (n+1)) / val v) (hr:val p=val ((U.drop k).take (n+1)) % val v):LdI u0 v n k (win U k (n+1) p) (Q.set k q)∧q<4294967296:=by
 obtain ⟨w1,w2⟩:=h.window hk;have hV:0<val v:=by
  rcases Nat.eq_zero_or_pos (val v) with h0|h0
  ·rw [h0] at w2;omega
  ·exact h0
 have hqB:q<4294967296:=by rw [hq,Nat.div_lt_iff_lt_mul hV];exact w2
 have hml:=Nat.mod_lt (val ((U.drop k).take (n+1))) hV;have hdm:=Nat.div_add_mod (val ((U.drop k).take (n+1))) (val v);rw [← hq,← hr] at hdm;rw [← hr] at hml;have hwl:(win U k (n+1) p).length=U.length:=win_len hk hp;have hdr:(win U k (n+1) p).drop k=p ++ U.drop (k+(n+1)):=by
  unfold win;rw [List.append_assoc,List.drop_append,List.length_take,Nat.min_eq_left (by omega),Nat.sub_self,List.drop_zero,List.drop_of_length_le (by rw [List.length_take];omega),List.nil_append]
 have htk:(win U k (n+1) p).take k=U.take k:=by
  unfold win;rw [List.append_assoc,List.take_append_of_le_length (by rw [List.length_take];omega),List.take_take,Nat.min_self]
 have ht0:val (U.drop (k+(n+1)))=0:=by rw [show k+(n+1)=k+1+n by omega];exact h.top
 have hvd:val ((win U k (n+1) p).drop k)=val p:=by rw [hdr,val_append,ht0];omega
 have hpn:val (p.drop n)=0:=by
  have e1:=val_split p n (by omega);have e2:=val_lt hv;rw [hvl] at e2;rcases Nat.eq_zero_or_pos (val (p.drop n)) with h0|h0
  ·exact h0
  ·have:4294967296 ^ n*1≤4294967296 ^ n*val (p.drop n):=Nat.mul_le_mul_left _ h0;omega
 refine ⟨⟨hwl.trans h.len,win_ws h.ws hpw,h.qws.set k hqB,by rw [hvd];exact hml,?_,?_⟩,hqB⟩
 ·rw [← List.drop_drop,hdr,List.drop_append_of_le_length (by omega),val_append,hpn,ht0];simp
 ·have eU:=val_split U k (by omega);have eW:=val_split (win U k (n+1) p) k (by rw [hwl];omega);rw [htk,hvd] at eW;rw [w1] at eU;have eQ:val ((Q.set k q).drop k)=q+4294967296*val (Q.drop (k+1)):=by
   rw [val_drop_succ,List.getElem?_set_self hkQ,List.drop_set_of_lt (by omega)]
   rfl
  have e0:=h.eq;rw [e0,eQ,eW,eU,← hdm,Nat.pow_succ];generalize 4294967296 ^ k=P;generalize val (Q.drop (k+1))=X;generalize val v=V;rw [Nat.mul_add P q,Nat.mul_add V (P*q),Nat.mul_add P (V*q),Nat.mul_assoc P 4294967296 X,Nat.mul_left_comm V P q];omega
theorem LdI.start {u0 v Q:List Nat} {n m:Nat} (hu:Ws u0) (hQ:Ws Q) (hul:u0.length=m+n) (hQl:Q.length=m) (hlow:val (u0.drop m)<val v):LdI u0 v n m u0 Q :=
 ⟨rfl,hu,hQ,hlow,by rw [List.drop_of_length_le (by omega)];rfl,by rw [List.drop_of_length_le (by omega)];simp [val_nil]⟩
theorem LdI.done {u0 v U Q:List Nat} {n:Nat} (h:LdI u0 v n 0 U Q):val Q=val u0 / val v∧val U=val u0 % val v:=by
 have h1:=h.eq;have h2:=h.low;simp only [Nat.pow_zero,Nat.one_mul,List.drop_zero] at h1 h2;have h3:=Nat.div_mod_unique (a:=val u0) (b:=val v) (c:=val U) (d:=val Q) (by omega);have h4:=h3.2 ⟨by rw [h1];omega,h2⟩;exact ⟨h4.1.symm,h4.2.symm⟩
def abk (p v:List Nat) (i:Nat):List Nat:=cdig 0 (sumW p v i) ++ p.drop i
theorem sumW_succ (p v:List Nat) (i:Nat):sumW p v (i+1)=sumW p v i ++ [p[i]?.getD 0+v[i]?.getD 0]:=by simp [sumW,List.range_succ]
theorem sumW_len (p v:List Nat) (i:Nat):(sumW p v i).length=i:=by simp [sumW]
theorem abk_len {p v:List Nat} {i:Nat} (h:i≤p.length):(abk p v i).length=p.length:=by
 unfold abk;rw [List.length_append,cdig_len,sumW_len,List.length_drop];omega
theorem abk_get {p v:List Nat} {i:Nat} (h:i<p.length):(abk p v i)[i]?.getD 0=p[i]?.getD 0:=by
 unfold abk;rw [List.getElem?_append_right (by rw [cdig_len,sumW_len];omega),cdig_len,sumW_len,Nat.sub_self,List.getElem?_drop,Nat.add_zero]
theorem abk_set {p v:List Nat} {i:Nat} (h:i<p.length):(abk p v i).set i ((p[i]?.getD 0+v[i]?.getD 0+cout 0 (sumW p v i)) % 4294967296)=abk p v (i+1):=by
 unfold abk;rw [sumW_succ,cdig_snoc,List.set_append_right _ _ (by rw [cdig_len,sumW_len];omega),cdig_len,sumW_len,Nat.sub_self,List.drop_eq_getElem_cons h,List.set_cons_zero,List.append_assoc]
 rfl
theorem abk_ws {p v:List Nat} {i:Nat} (h:Ws p):Ws (abk p v i):=(cdig_Ws _ _).append (h.drop i)
theorem abk_zero (p v:List Nat):abk p v 0=p:=by simp [abk,sumW,cdig]
theorem sumW_carry {p v:List Nat} (hp:Ws p) (hv:Ws v) (i:Nat):cout 0 (sumW p v i)<2:=by
 refine cout_lt (by decide) (by decide) fun t ht=>?_;obtain ⟨j,_,rfl⟩:=List.mem_map.1 ht;have:=hp.get j;have:=hv.get j;omega
theorem abk_all {p v:List Nat} {i:Nat} (h:p.length=i):abk p v i=cdig 0 (sumW p v i):=by
 unfold abk;rw [List.drop_of_length_le (by omega),List.append_nil]
theorem shift_div {b pv:List Nat} {n s:Nat} (hb:Ws b) (hbl:b.length=n+1) (hpw:Ws pv) (hpl:pv.length=n+2) (hpv:val pv=val b*2 ^ s) (h1:2147483648≤b[n]?.getD 0*2 ^ s) (h2:b[n]?.getD 0*2 ^ s<4294967296) (hs:s<32) :
  val (pv.take (n+1))=val b*2 ^ s∧2147483648≤(pv.take (n+1))[n]?.getD 0∧2147483648*4294967296 ^ n≤val (pv.take (n+1)):=by
 have eb:=val_take_succ b n;rw [List.take_of_length_le (show b.length≤n+1 by omega)] at eb;have lb:=val_lt (hb.take n);rw [List.length_take,Nat.min_eq_left (by omega)] at lb;generalize hP:4294967296 ^ n=P at *;have e32:2 ^ s*2 ^ (32-s)=4294967296:=by rw [← Nat.pow_add,show s+(32-s)=32 by omega]
 have hb1:(b[n]?.getD 0+1)*2 ^ s≤4294967296:=by
  have:b[n]?.getD 0*2 ^ s<2 ^ (32-s)*2 ^ s:=by rw [Nat.mul_comm (2 ^ (32-s)),e32];exact h2
  have h3:=Nat.lt_of_mul_lt_mul_right this;have h4:=Nat.mul_le_mul_right (2 ^ s) (show b[n]?.getD 0+1≤2 ^ (32-s) from h3);rw [Nat.mul_comm (2 ^ (32-s)),e32] at h4;exact h4
 have hup:val b*2 ^ s<4294967296*P:=by
  have h5:val b<(b[n]?.getD 0+1)*P:=by rw [eb,Nat.add_mul,Nat.mul_comm P];omega
  have hpos:0<2 ^ s:=Nat.pos_of_ne_zero (by simp);have h6:=Nat.mul_lt_mul_of_pos_right h5 hpos;have h7:=Nat.mul_le_mul_right P hb1;rw [Nat.mul_right_comm] at h6;omega
 have hlo:2147483648*P≤val b*2 ^ s:=by
  have h5:P*b[n]?.getD 0≤val b:=by omega
  have h6:=Nat.mul_le_mul_right (2 ^ s) h5;rw [Nat.mul_assoc] at h6;have h7:=Nat.mul_le_mul_left P h1;rw [Nat.mul_comm P 2147483648] at h7;omega
 have e1:=val_take_succ pv (n+1);rw [List.take_of_length_le (show pv.length≤n+1+1 by omega),Nat.pow_succ,hP] at e1;have hz:pv[n+1]?.getD 0=0:=by
  rcases Nat.eq_zero_or_pos (pv[n+1]?.getD 0) with h0|h0
  ·exact h0
  ·have:P*4294967296*1≤P*4294967296*pv[n+1]?.getD 0:=Nat.mul_le_mul_left _ h0;omega
 have e2:val (pv.take (n+1))=val b*2 ^ s:=by
  rw [hz,Nat.mul_zero,Nat.add_zero] at e1;rw [← e1,hpv]
 refine ⟨e2,?_,by rw [e2];exact hlo⟩;have e3:=val_take_succ (pv.take (n+1)) n;rw [List.take_of_length_le (show (pv.take (n+1)).length≤n+1 by rw [List.length_take];omega),hP] at e3;have l3:=val_lt ((hpw.take (n+1)).take n);rw [List.length_take,List.length_take,Nat.min_eq_left (by omega),hP] at l3;rcases Nat.lt_or_ge ((pv.take (n+1))[n]?.getD 0) 2147483648 with hlt|hge
 ·have:P*((pv.take (n+1))[n]?.getD 0+1)≤P*2147483648:=Nat.mul_le_mul_left P hlt;rw [Nat.mul_add,Nat.mul_one] at this;rw [Nat.mul_comm P 2147483648] at this;omega
 ·exact hge
theorem shift_low {a u0:List Nat} {n m s V:Nat} (ha:Ws a) (hal:a.length=m+n) (hu:Ws u0) (hul:u0.length=m+n+1) (hv:val u0=val a*2 ^ s) (hs:s<32) (hV:2147483648*4294967296 ^ n≤V):val (u0.drop m)<V:=by
 have h1:=val_lt ha;have h2:=val_split u0 m (by omega);have hp:2 ^ s≤2147483648:=Nat.le_trans (Nat.pow_le_pow_right (by decide) (show s≤31 by omega)) (by decide);rw [hal,Nat.pow_add] at h1;have hpos:0<2 ^ s:=Nat.pos_of_ne_zero (by simp);have h3:=Nat.mul_lt_mul_of_pos_right h1 hpos;have h4:4294967296 ^ m*4294967296 ^ n*2 ^ s≤4294967296 ^ m*4294967296 ^ n*2147483648:=Nat.mul_le_mul_left _ hp;have h5:4294967296 ^ m*val (u0.drop m)<4294967296 ^ m*(4294967296 ^ n*2147483648):=by
  rw [← Nat.mul_assoc];omega
 have h6:=Nat.lt_of_mul_lt_mul_left h5;rw [Nat.mul_comm (4294967296 ^ n)] at h6;omega
end Go.Proofs.YtjajigkacccdgaaGreat
