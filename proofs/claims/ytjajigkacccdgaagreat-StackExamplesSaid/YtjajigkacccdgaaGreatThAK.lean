/-
Lemmas of the walk; no further conditions.
-/
import Derived.Test.YtjajigkacccdgaaGreatThAJ
import Derived.BigQuiet
import Derived.Shelf.Small.Bits
import Derived.Test.YtjajigkacccdgaaGreatProg
set_option linter.unusedVariables false
set_option linter.unusedSimpArgs false
set_option maxRecDepth 100000
set_option maxHeartbeats 16000000
namespace Go.Proofs.YtjajigkacccdgaaGreat
open Go.RowKit
open Wd
def shs (l:List Nat) (s k:Nat):List Nat:=(l.take k).map fun x=>x*2 ^ s
theorem shs_len {l:List Nat} {s k:Nat} (h:k≤l.length):(shs l s k).length=k:=by simp [shs,h]
theorem shs_succ {l:List Nat} {s k:Nat} (h:k<l.length):shs l s (k+1)=shs l s k ++ [l[k]?.getD 0*2 ^ s]:=by
 unfold shs;rw [List.take_succ_eq_append_getElem h,List.map_append,List.getElem?_eq_getElem h]
 rfl
theorem sh_bd {x s:Nat} (hx:x<4294967296) (hs:s<32):x*2 ^ s≤9223372034707292160:=by
 have h1:2 ^ s≤2 ^ 31:=Nat.pow_le_pow_right (by decide) (by omega);have:x*2 ^ s≤4294967295*2 ^ 31:=Nat.mul_le_mul (by omega) h1;omega
theorem shs_carry {l:List Nat} {s k:Nat} (h:Ws l) (hs:s<32):cout 0 (shs l s k)<4294967296:=by
 refine cout_lt (by decide) (by decide) fun t ht=>?_;obtain ⟨x,hx,rfl⟩:=List.mem_map.1 ht;have:=sh_bd (h x (List.mem_of_mem_take hx)) hs;omega
theorem shs_val {l:List Nat} {s:Nat} (h:Ws l) (hs:s<32):val (cdig 0 (shs l s l.length ++ [0]))=val l*2 ^ s:=by
 have h1:=cdig_val 0 (shs l s l.length ++ [0]);have h2:=shs_carry (k:=l.length) h hs;rw [cout_snoc,Nat.zero_add,Nat.div_eq_of_lt h2,Nat.mul_zero,Nat.add_zero,Nat.zero_add] at h1;rw [h1,val_append];simp only [val_cons,val_nil,Nat.mul_zero,Nat.add_zero];unfold shs;rw [List.take_length];have:=val_map_mul (fun x:Nat=>x) (2 ^ s) l;rw [List.map_id'] at this;exact this
def ShL (w:World) (n s k:Nat) (l:List Nat) (wr:World):Prop :=
 Blk wr (w.heap.size+1) 59 (rowC (n+1) (cdig 0 (shs l s k)))∧Blk wr w.heap.size 164 #[.int .u64 ((cout 0 (shs l s k):Nat):Int)]∧Below w.heap.size w wr
theorem ShL.step {w wr:World} {n k d c':Nat} {ds:List Nat} {cc:Nat} (hB:Blk wr (w.heap.size+1) 59 (rowC (n+1) ds)) (hC:Blk wr w.heap.size 164 #[.int .u64 (cc:Int)]) (hW:Below w.heap.size w wr) (hd:ds.length=k) (hk:k+1≤n+1) (o:Obj) :
  Blk (((wr.setCell ⟨w.heap.size,0,none⟩ (.int .u64 (c':Int))).alloc o).setCell ⟨w.heap.size+1,k,none⟩ (.int .u32 (d:Int))) (w.heap.size+1) 59 (rowC (n+1) (ds ++ [d]))∧Blk (((wr.setCell ⟨w.heap.size,0,none⟩ (.int .u64 (c':Int))).alloc o).setCell ⟨w.heap.size+1,k,none⟩ (.int .u32 (d:Int))) w.heap.size 164 #[.int .u64 (c':Int)] ∧
   Below w.heap.size w (((wr.setCell ⟨w.heap.size,0,none⟩ (.int .u64 (c':Int))).alloc o).setCell ⟨w.heap.size+1,k,none⟩ (.int .u32 (d:Int))) ∧
   ((wr.setCell ⟨w.heap.size,0,none⟩ (.int .u64 (c':Int))).alloc o).cell? ⟨w.heap.size+1,k,none⟩=some (.int .u32 0)∧((wr.setCell ⟨w.heap.size,0,none⟩ (.int .u64 (c':Int))).alloc o).frozen? ⟨w.heap.size+1,k,none⟩=false:=by
 have x0:=(Blk.far hB (p:=⟨w.heap.size,0,none⟩) (by simp) (.int .u64 (c':Int))).alloc o;have x1:=(Blk.set hC 0 (.int .u64 (c':Int))).alloc o;have y0:=x0.set k (.int .u32 (d:Int));rw [rowC_set hd hk] at y0;refine ⟨y0,Blk.far x1 (p:=⟨w.heap.size+1,k,none⟩) (by simp) _,Below.setCell (Below.alloc (Below.setCell hW (p:=⟨w.heap.size,0,none⟩) (Nat.le_refl _) _) (by rw [World.size_setCell];exact hW.size) o) (p:=⟨w.heap.size+1,k,none⟩) (by simp) _,rowC_next x0 hd hk,x0.frozen k⟩
theorem shiftLeft_any (A:Option Addr) (n c s:Nat) (l:List Nat) (w:World) (h:Wat w A n l) (hn:n≤10000000000) (hs:s<32) :
  Calls Tryz.prog 223 #[.slice A n c,.int .u64 (s:Int)] w fun e w'=>∃ g p,e=.returned (.slice (some ⟨g,0,none⟩) (n+1) (n+1))∧w.heap.size≤g∧Blk w' g 59 (wcells p)∧p.length=n+1∧Ws p∧val p=val l*2 ^ s∧Below w.heap.size w w':=by
 obtain ⟨i0,hi,hz0,hz1,hz2⟩:=info_parts info_u32;have hmk:=fun w=>run_make (P:=Tryz.prog) w 38 59 i0 _ Tryz.underlying38 hi hz0 .i64 .i64 0 ((n:Int)+1) (by omega) (by omega) (by rw [hz2];omega) (by omega);have HH:=Hj h;have HS:=Hj hs;have wn:IntKind.i64.wrap ((n:Int)+1)=(n:Int)+1:=IntWalk.i64_in _ (by omega);clear h hs;go_enter Tryz.func223,Tryz.ntmps223
 go_wp2_with fail
 refine (carrier_any 0 w).mono ?_;rintro e w1 ⟨rfl,rfl⟩
 go_wp2_with fail
 rw [rowC_start];have HST:=Hj (show ShL w n s 0 l ((w.alloc (.cells #[.int .u64 0] 164)).alloc (.cells (rowC (n+1) []) 59)) from
  ⟨Blk.new1 w _ _ _,(Blk.new w _ _).alloc _,((Below.refl _ w).alloc (Nat.le_refl _) _).alloc (by simp) _⟩)
 clear hmk hi hz0 hz1 hz2
 go_loopw [6,16] (fun t6 t wr=>∃ k:Nat,k≤n∧t=.int .i64 k∧t6=.slice (some ⟨w.heap.size+1,0,none⟩) k (n+1)∧Hid (ShL w n s k l wr)) (fun _ t _=>n-(intOf t).toNat)
 case atStart=>exact ⟨0,Nat.zero_le _,rfl,rfl,HST.out⟩
 case round =>
  clear HST;obtain ⟨k,hk,rfl,rfl,hR⟩:=hrel;obtain ⟨wu,rfl⟩:∃ v,v=wr:=⟨_,rfl⟩;have hln:=HH.out.1;have hws:=HH.out.2.1;obtain ⟨q0,q1,q2⟩:=hR.out;have hcar:=shs_carry (k:=k) hws HS.out;by_cases hlt:k<n
  ·obtain ⟨b,o,rfl,hb,hc⟩:=HH.out.2.2 (by omega);have d0:=(q2.cell (p:=⟨b,o+k,none⟩) hb).trans (hc k hlt);have hx:=hws.get k;have hbd:=sh_bd hx HS.out;have hdl:(cdig 0 (shs l s k)).length=k:=by rw [cdig_len,shs_len (by omega)]
   have HNX:=Hj (fun W (hW:Blk W w.heap.size 164 #[.int .u64 ((cout 0 (shs l s k):Nat):Int)])=>next_nat w.heap.size (l[k]?.getD 0*2 ^ s) (cout 0 (shs l s k)) (((l[k]?.getD 0:Nat):Int)*2 ^ s) (by push_cast;rfl) W hW (by omega));have hst:=ShL.step (c':=(l[k]?.getD 0*2 ^ s+cout 0 (shs l s k)) / 4294967296) (d:=(l[k]?.getD 0*2 ^ s+cout 0 (shs l s k)) % 4294967296) q0 q1 q2 hdl (by omega) (.cells #[.int .u32 (((l[k]?.getD 0*2 ^ s+cout 0 (shs l s k)) % 4294967296:Nat):Int)] 59);obtain ⟨z0,z1,z2,z3,z4⟩:=hst;have hN:ShL w n s (k+1) l _:=⟨by rw [shs_succ (by omega),cdig_snoc];exact z0,by rw [shs_succ (by omega),cout_snoc];exact z1,z2⟩;have HN:=Hj hN;have e0:((l[k]?.getD 0:Nat):Int)*2 ^ s=((l[k]?.getD 0*2 ^ s:Nat):Int):=by push_cast;rfl
   have wx:IntKind.u64.wrap (((l[k]?.getD 0:Nat):Int)*2 ^ s)=((l[k]?.getD 0:Nat):Int)*2 ^ s:=by rw [e0,IntKind.wrap_u64];omega
   have wd:IntKind.u64.wrap ((l[k]?.getD 0:Nat):Int)=((l[k]?.getD 0:Nat):Int):=by rw [IntKind.wrap_u64];omega
   have hmn:min s 64=s:=by have:=HS.out;omega
   have Q1:=Hj q1;generalize (l[k]?.getD 0*2 ^ s+cout 0 (shs l s k)) / 4294967296=c' at *;generalize (l[k]?.getD 0*2 ^ s+cout 0 (shs l s k)) % 4294967296=d at *;generalize cout 0 (shs l s k)=cc at *;generalize l[k]?.getD 0=x at *;have i1:(0:Int)≤(k:Int):=by omega
   have i2:(k:Int)<(n:Int):=by omega
   clear q0 q1 q2 z0 z1 z2 hN hR hc hb hcar hbd hdl e0 hln hws hx
   go_wp2_with fail
   refine (HNX.out _ Q1.out).mono ?_;rintro e w3 ⟨rfl,rfl⟩;clear HNX;go_wp2;go_roundw
   case rel=>exact ⟨k+1,by omega,by go_num,rfl,HN.out⟩
   case measure=>simp [intOf];omega
  ·obtain rfl:n=k:=by omega
   have hdl:(cdig 0 (shs l s n)).length=n:=by rw [cdig_len,shs_len (by omega)]
   have HNX:=Hj (fun W (hW:Blk W w.heap.size 164 #[.int .u64 ((cout 0 (shs l s n):Nat):Int)])=>next_nat w.heap.size 0 (cout 0 (shs l s n)) 0 rfl W hW (by omega));have hst:=ShL.step (c':=(0+cout 0 (shs l s n)) / 4294967296) (d:=(0+cout 0 (shs l s n)) % 4294967296) q0 q1 q2 hdl (by omega) (.cells #[.int .u32 (((0+cout 0 (shs l s n)) % 4294967296:Nat):Int)] 59);obtain ⟨z0,z1,z2,z3,z4⟩:=hst;have hv:=shs_val hws HS.out;rw [hln,cdig_snoc] at hv;have hwsr:Ws (cdig 0 (shs l s n) ++ [(0+cout 0 (shs l s n)) % 4294967296]):=by rw [← cdig_snoc];exact cdig_Ws _ _
   have hlen:(cdig 0 (shs l s n) ++ [(0+cout 0 (shs l s n)) % 4294967296]).length=n+1:=by simp [hdl]
   have er:rowC (n+1) (cdig 0 (shs l s n) ++ [(0+cout 0 (shs l s n)) % 4294967296])=wcells (cdig 0 (shs l s n) ++ [(0+cout 0 (shs l s n)) % 4294967296]):=by
    unfold rowC wcells;rw [hlen,Nat.sub_self];simp
   rw [er] at z0;have HF:=Hj (And.intro z0 (And.intro hlen (And.intro hwsr (And.intro hv z2))));have Q1:=Hj q1;generalize (0+cout 0 (shs l s n)) / 4294967296=c' at *;generalize cdig 0 (shs l s n) ++ [(0+cout 0 (shs l s n)) % 4294967296]=pp at *;generalize (0+cout 0 (shs l s n)) % 4294967296=d at *;generalize cout 0 (shs l s n)=cc at *;clear q0 q1 q2 z0 z1 z2 hR hcar hdl hln hws hv hwsr hlen er
   go_wp2_with fail
   refine (HNX.out _ Q1.out).mono ?_;rintro e w3 ⟨rfl,rfl⟩;clear HNX;go_wp2;go_ret;exact ⟨w.heap.size+1,pp,rfl,by omega,HF.out⟩
def EsI (f s t x Q g r:Nat):Prop:=Q≤g∧g*f+r=t∧g≤4294967297∧r<4294967296
theorem EsI.more {f s t x Q g r:Nat} (h:EsI f s t x Q g r) (hQ:Q<g):Q≤g-1∧(g-1)*f+(r+f)=t∧g-1≤4294967296∧0<g:=by
 obtain ⟨h1,h2,h3,h4⟩:=h;obtain ⟨g',rfl⟩:∃ g',g=g'+1:=⟨g-1,by omega⟩;rw [Nat.add_mul,Nat.one_mul] at h2;refine ⟨by omega,?_,by omega,by omega⟩;rw [Nat.add_sub_cancel];omega
structure EsF (f s t x P ul vl U V:Nat):Prop where
 hV:V=(f*4294967296+s)*P+vl
 hU:U=(t*4294967296+x)*P+ul
 hul:ul<P
 hvl:vl<P
 hx:x<4294967296
 hs:s<4294967296
 hf:4294967296≤2*f
 hlt:U<4294967296*V
theorem EsF.pos {f s t x P ul vl U V:Nat} (h:EsF f s t x P ul vl U V):0<V:=by
 have h1:=h.hV;have h2:=h.hvl;have h3:=h.hf;have:1*P≤(f*4294967296+s)*P:=Nat.mul_le_mul_right P (by omega);omega
theorem EsF.start {f s t x P ul vl U V:Nat} (h:EsF f s t x P ul vl U V) (hfB:f<4294967296):EsI f s t x (U / V) (t / f) (t % f):=by
 obtain ⟨h1,h2⟩:=est_first h.hV h.hU h.hul h.hvl h.hx h.hs h.hf h.hlt;have h3:=Nat.div_add_mod t f;have h4:=Nat.mod_lt t (show 0<f by have:=h.hf;omega);refine ⟨h1,?_,h2,by omega⟩;rw [Nat.mul_comm];exact h3
theorem EsF.big {f s t x P ul vl U V g:Nat} (h:EsF f s t x P ul vl U V) (hg:4294967296≤g):U / V<g:=by
 have:U / V<4294967296:=by rw [Nat.div_lt_iff_lt_mul h.pos];exact h.hlt
 omega
theorem EsF.over {f s t x P ul vl U V g r:Nat} (h:EsF f s t x P ul vl U V) (hi:EsI f s t x (U / V) g r) (hg:r*4294967296+x<g*s):U / V<g:=by
 refine est_over h.hV h.hU h.hul h.pos ?_;obtain ⟨_,h2,_,_⟩:=hi;rw [← h2,Nat.add_mul,Nat.mul_add,Nat.mul_assoc];omega
theorem EsF.done {f s t x P ul vl U V g r:Nat} (h:EsF f s t x P ul vl U V) (h2:g*f+r=t) (hg:g*s≤r*4294967296+x) (hB:g≤4294967296):g≤U / V+1:=by
 refine est_done h.hV h.hU h.hvl (by have:=h.hf;omega) ?_ hB;rw [← h2,Nat.add_mul,Nat.mul_add,Nat.mul_assoc];omega
theorem EsF.brk {f s t x P ul vl U V g r:Nat} (h:EsF f s t x P ul vl U V) (h2:g*f+r=t) (hr:4294967296≤r) (hB:g≤4294967296):g≤U / V+1:=by
 refine h.done h2 ?_ hB;have h3:g*s≤4294967296*4294967295:=Nat.mul_le_mul hB (by have:=h.hs;omega);have h4:4294967296*4294967296≤r*4294967296:=Nat.mul_le_mul_right _ hr;omega
theorem esF_of {u v:List Nat} {m:Nat} (hu:Ws u) (hv:Ws v) (hul:u.length=m+3) (hvl:v.length=m+2) (hf:2147483648≤v[m+1]?.getD 0) (hlt:val u<4294967296*val v) :
  EsF (v[m+1]?.getD 0) (v[m]?.getD 0) (u[m+2]?.getD 0*4294967296+u[m+1]?.getD 0) (u[m]?.getD 0) (4294967296 ^ m) (val (u.take m)) (val (v.take m)) (val u) (val v):=by
 have e1:=val_take_succ u m;have e2:=val_take_succ u (m+1);have e3:=val_take_succ u (m+2);have f1:=val_take_succ v m;have f2:=val_take_succ v (m+1);rw [List.take_of_length_le (show u.length≤m+2+1 by omega)] at e3;rw [List.take_of_length_le (show v.length≤m+1+1 by omega)] at f2;have hP:=Nat.pow_succ 4294967296 m;have hP2:=Nat.pow_succ 4294967296 (m+1);have l1:=val_lt (hu.take m);have l2:=val_lt (hv.take m);rw [List.length_take,Nat.min_eq_left (by omega)] at l1 l2;refine ⟨?_,?_,l1,l2,hu.get m,hv.get m,by omega,hlt⟩
 ·rw [f2,f1,hP,Nat.add_mul,Nat.mul_comm (v[m]?.getD 0),Nat.mul_assoc (4294967296 ^ m),Nat.mul_comm (4294967296 ^ m) (4294967296*v[m+1]?.getD 0),Nat.mul_comm 4294967296 (v[m+1]?.getD 0)];omega
 ·rw [e3,e2,e1,hP2,hP];generalize 4294967296 ^ m=P;generalize u[m+2]?.getD 0=a;generalize u[m+1]?.getD 0=b;generalize u[m]?.getD 0=c;have k1:P*4294967296*4294967296*a=a*4294967296*4294967296*P:=by rw [Nat.mul_comm,← Nat.mul_assoc,← Nat.mul_assoc,Nat.mul_comm (a*P),Nat.mul_comm a P,Nat.mul_comm _ 4294967296,Nat.mul_comm a];simp only [Nat.mul_assoc,Nat.mul_comm,Nat.mul_left_comm]
  have k2:P*4294967296*b=b*4294967296*P:=by simp only [Nat.mul_assoc,Nat.mul_comm,Nat.mul_left_comm]
  have k3:P*c=c*P:=Nat.mul_comm _ _;rw [Nat.add_mul,Nat.add_mul,Nat.add_mul,k1,k2,k3];omega
theorem estimate_any (A A':Option Addr) (n m c c':Nat) (u v:List Nat) (w:World) (h:Wat w A (n+1) u) (h':Wat w A' n v) (hn:n=m+2) (hn0:n≤20000000000) (hf:2147483648≤v[m+1]?.getD 0) (hlt:val u<4294967296*val v) :
  Calls Tryz.prog 224 #[.slice A (n+1) c,.slice A' n c'] w fun e w'=>∃ g,e=.returned (.int .u64 ((g:Nat):Int))∧val u / val v≤g∧g≤val u / val v+1∧g≤4294967296∧Below w.heap.size w w':=by
 have hE:=esF_of h.2.1 h'.2.1 (by have:=h.1;omega) (by have:=h'.1;omega) hf hlt;have hfB:=h'.2.1.get (m+1);have hs:=h'.2.1.get m;have hun:=h.2.1.get (m+2);have hu1:=h.2.1.get (m+1);have hu0:=h.2.1.get m;obtain ⟨b,o,rfl,hb,hc⟩:=h.2.2 (by omega);obtain ⟨b',o',rfl,hb',hc'⟩:=h'.2.2 (by omega);have a2:=hc n (by omega);have a1:=hc (m+1) (by omega);have a0:=hc m (by omega);have b1:=hc' (m+1) (by omega);have b0:=hc' m (by omega);rw [hn] at a2;rw [← hn] at a2;have e2:u[n]?.getD 0=u[m+2]?.getD 0:=by rw [hn]
 rw [e2] at a2;obtain ⟨n1,hn1⟩:∃ k,k=m+1:=⟨_,rfl⟩;have wn1:IntKind.i64.wrap ((n:Int)-1)=(n1:Int):=by rw [IntWalk.i64_in _ (by omega)];omega
 have wn2:IntKind.i64.wrap ((n:Int)-2)=(m:Int):=by rw [IntWalk.i64_in _ (by omega)];omega
 have i1:(0:Int)≤(n:Int):=by omega
 have i2:(n:Int)<(n:Int)+1:=by omega
 have i3:(0:Int)≤(n1:Int):=by omega
 have i4:(n1:Int)<(n:Int)+1:=by omega
 have i5:(n1:Int)<(n:Int):=by omega
 have i6:(0:Int)≤(m:Int):=by omega
 have i7:(m:Int)<(n:Int)+1:=by omega
 have i8:(m:Int)<(n:Int):=by omega
 rw [← hn1] at a1 b1 hE hf hfB;have hor:=or_words (u[m+2]?.getD 0) (u[n1]?.getD 0) hun (by rw [hn1];exact hu1);have wun:IntKind.u64.wrap ((u[m+2]?.getD 0:Nat):Int)=((u[m+2]?.getD 0:Nat):Int):=by rw [IntKind.wrap_u64];omega
 have wunB:IntKind.u64.wrap (((u[m+2]?.getD 0:Nat):Int)*4294967296)=((u[m+2]?.getD 0:Nat):Int)*4294967296:=by rw [IntKind.wrap_u64];omega
 have wu1:IntKind.u64.wrap ((u[n1]?.getD 0:Nat):Int)=((u[n1]?.getD 0:Nat):Int):=by rw [hn1,IntKind.wrap_u64];omega
 have wu0:IntKind.u64.wrap ((u[m]?.getD 0:Nat):Int)=((u[m]?.getD 0:Nat):Int):=by rw [IntKind.wrap_u64];omega
 have wf:IntKind.u64.wrap ((v[n1]?.getD 0:Nat):Int)=((v[n1]?.getD 0:Nat):Int):=by rw [IntKind.wrap_u64];omega
 have ws:IntKind.u64.wrap ((v[m]?.getD 0:Nat):Int)=((v[m]?.getD 0:Nat):Int):=by rw [IntKind.wrap_u64];omega
 have hu1':u[n1]?.getD 0<4294967296:=by rw [hn1];exact hu1
 have htB:u[m+2]?.getD 0*4294967296+u[n1]?.getD 0<18446744073709551616:=by omega
 generalize u[m+2]?.getD 0=un at *;generalize u[n1]?.getD 0=u1 at *;generalize u[m]?.getD 0=u0 at *;generalize v[n1]?.getD 0=f at *;generalize v[m]?.getD 0=s at *;generalize un*4294967296+u1=t at *;have hst:=hE.start hfB;have hy0:((f:Int) == 0)=false:=by simp;omega
 have hy1:¬ f=0:=by omega
 have q1:IntKind.u64.wrap ((t:Int).tdiv (f:Int))=((t / f:Nat):Int):=by
  rw [IntWalk.u64_quo _ _ ⟨by omega,by omega,by omega⟩];rfl
 have q2:((t:Int).tmod (f:Int))=((t % f:Nat):Int):=by
  rw [IntWalk.rem_in _ _ (by omega)];rfl
 have q1':IntKind.u64.wrap ((t:Int) / (f:Int))=((t / f:Nat):Int):=by
  have e:((t:Int) / (f:Int))=((t / f:Nat):Int):=rfl;have:=Nat.lt_of_le_of_lt (Nat.div_le_self t f) htB;rw [e,IntKind.wrap_u64];generalize t / f=q at *;clear q1;omega
 have q2':((t:Int) % (f:Int))=((t % f:Nat):Int):=rfl;have HE:=Hj hE;have HST:=Hj hst;have HB:=Hj (And.intro hfB (And.intro hs hu0));generalize t / f=g0 at *;generalize t % f=r0 at *;clear hE hst hfB hs hun hu1 hu0 hu1' htB hc hc' hb hb' hf hlt h h' hn hn0 hn1 e2;go_enter Tryz.func224,Tryz.ntmps224;go_wp2
 go_quiet (fail)
 have HB1:=Hj (belowN w nq);replace a0:(w.drewN nq).cell? ⟨b,o+m,none⟩=_:=a0;replace b1:(w.drewN nq).cell? ⟨b',o'+n1,none⟩=_:=b1;replace b0:(w.drewN nq).cell? ⟨b',o'+m,none⟩=_:=b0;clear a1 a2;generalize w.drewN nq=w1 at *;go_wp2
 go_quiet (fail)
 have HB2:=Hj (HB1.out.trans ((belowN w1 nq).mono HB1.out.size));replace a0:(w1.drewN nq).cell? ⟨b,o+m,none⟩=_:=a0;clear b0 b1 HB1;generalize w1.drewN nq=w2 at *;go_wp2
 go_quiet (fail)
 have HB3:=Hj (HB2.out.trans ((belowN w2 nq).mono HB2.out.size));replace a0:(w2.drewN nq).cell? ⟨b,o+m,none⟩=_:=a0;clear HB2;generalize w2.drewN nq=w3 at *;clear q1 q1' q2 q2' hor wun wunB wu1 wf ws;go_wp2
 go_loopw [9,10] (fun t9 t10 wr=>∃ g r:Nat,t9=.int .u64 (g:Int)∧t10=.int .u64 (r:Int)∧wr=w3∧Hid (EsI f s t u0 (val u / val v) g r)) (fun t9 _ _=>(intOf t9).toNat)
 case atStart=>exact ⟨g0,r0,rfl,rfl,rfl,HST.out⟩
 case round =>
  clear HST;obtain ⟨g,r,rfl,rfl,rfl,hR⟩:=hrel;obtain ⟨r1,r2,r3,r4⟩:=hR.out;obtain ⟨hfB,hs,hu0⟩:=HB.out;have wg:IntKind.u64.wrap ((g:Int)-1)=(g:Int)-1∨g=0:=by
   by_cases hg:g=0
   ·exact Or.inr hg
   ·left;rw [IntKind.wrap_u64];omega
  clear wg;by_cases hbig:4294967296≤g
  ·have hQ:=HE.out.big hbig;obtain ⟨m1,m2,m3,m4⟩:=hR.out.more hQ;have hQ2:(g:Int) / 4294967296≠0:=by omega
   have wg:IntKind.u64.wrap ((g:Int)-1)=((g-1:Nat):Int):=by rw [IntKind.wrap_u64];omega
   have wrf:IntKind.u64.wrap ((r:Int)+(f:Int))=((r+f:Nat):Int):=by rw [IntKind.wrap_u64];omega
   have HM:=Hj (And.intro m1 (And.intro m2 (And.intro m3 m4)));clear hR r1 r2 r3 r4 hfB hs hu0 m1 m2 m3 m4 hbig hQ;go_wp2
   ·have hb9:(((r:Int)+(f:Int)) / 4294967296 != 0)=true:=by assumption
    have hb8:¬ ((r:Int)+(f:Int)) / 4294967296=0:=by simpa using hb9
    have hdn:=HE.out.brk HM.out.2.1 (by omega) HM.out.2.2.1;go_ret;exact ⟨g-1,rfl,HM.out.1,hdn,HM.out.2.2.1,HB3.out⟩
   ·have hb9:(((r:Int)+(f:Int)) / 4294967296 != 0)=false:=by assumption
    have hb8:((r:Int)+(f:Int)) / 4294967296=0:=by simpa using hb9
    go_roundw
    case rel=>exact ⟨g-1,r+f,rfl,rfl,trivial,Hj ⟨HM.out.1,HM.out.2.1,by have:=HM.out.2.2.1;omega,by omega⟩⟩
    case measure=>simp [intOf];have:=HM.out.2.2.2;omega
  ·have hQ2:(g:Int) / 4294967296=0:=by omega
   have hgs:g*s≤4294967295*4294967295:=Nat.mul_le_mul (by omega) (by omega);have egs:(g:Int)*(s:Int)=((g*s:Nat):Int):=by push_cast;rfl
   have wgs:IntKind.u64.wrap ((g:Int)*(s:Int))=((g*s:Nat):Int):=by rw [egs,IntKind.wrap_u64];omega
   have hor2:=or_words r u0 r4 hu0;have wrB:IntKind.u64.wrap ((r:Int)*4294967296)=(r:Int)*4294967296:=by rw [IntKind.wrap_u64];omega
   by_cases hov:r*4294967296+u0<g*s
   ·have hQ:=HE.out.over hR.out hov;obtain ⟨m1,m2,m3,m4⟩:=hR.out.more hQ;have hov2:((r*4294967296+u0:Nat):Int)<((g*s:Nat):Int):=by omega
    have wg:IntKind.u64.wrap ((g:Int)-1)=((g-1:Nat):Int):=by rw [IntKind.wrap_u64];omega
    have wrf:IntKind.u64.wrap ((r:Int)+(f:Int))=((r+f:Nat):Int):=by rw [IntKind.wrap_u64];omega
    have HM:=Hj (And.intro m1 (And.intro m2 (And.intro m3 m4)));clear hR r1 r2 r3 r4 hfB hs hu0 m1 m2 m3 m4 hbig hQ hgs egs hov;generalize g*s=gs at *;generalize r*4294967296+u0=X at *;go_wp2
    ·have hb9:(((r:Int)+(f:Int)) / 4294967296 != 0)=true:=by assumption
     have hb8:¬ ((r:Int)+(f:Int)) / 4294967296=0:=by simpa using hb9
     have hdn:=HE.out.brk HM.out.2.1 (by omega) HM.out.2.2.1;go_ret;exact ⟨g-1,rfl,HM.out.1,hdn,HM.out.2.2.1,HB3.out⟩
    ·have hb9:(((r:Int)+(f:Int)) / 4294967296 != 0)=false:=by assumption
     have hb8:((r:Int)+(f:Int)) / 4294967296=0:=by simpa using hb9
     go_roundw
     case rel=>exact ⟨g-1,r+f,rfl,rfl,trivial,Hj ⟨HM.out.1,HM.out.2.1,by have:=HM.out.2.2.1;omega,by omega⟩⟩
     case measure=>simp [intOf];have:=HM.out.2.2.2;omega
   ·have hdn:=HE.out.done r2 (by omega) (by omega);have hov2:¬ ((r*4294967296+u0:Nat):Int)<((g*s:Nat):Int):=by omega
    have HM:=Hj (And.intro r1 (And.intro hdn (show g≤4294967296 by omega)));clear hR r1 r2 r3 r4 hfB hs hu0 hbig hgs egs hov hdn;generalize g*s=gs at *;generalize r*4294967296+u0=X at *;go_wp2;go_ret;exact ⟨g,rfl,HM.out.1,HM.out.2.1,HM.out.2.2,HB3.out⟩
end Go.Proofs.YtjajigkacccdgaaGreat
namespace Go.Proofs.YtjajigkacccdgaaGreat
open Go.Shelf
def Tryz.lays128_ren:Go.Shelf.Ren:=⟨fun|128=>167 | n=>n,fun|51=>59 | 3=>3 | 4=>4 | 46=>159 | 5=>5 | 9=>9 | n=>n,fun|n=>n⟩
def Tryz.lays133_ren:Go.Shelf.Ren:=⟨fun|133=>222 | 128=>167 | n=>n,fun|51=>59 | 3=>3 | 4=>4 | 46=>159 | 5=>5 | 9=>9 | n=>n,fun|n=>n⟩
theorem Tryz.lays133:Go.Proofs.Lays.n133 Tryz.prog Tryz.lays133_ren:={
 mixed:=by kernel_rfl
 f128:=Tryz.func167.trans (congrArg some (by kernel_rfl))
 f133:=Tryz.func222.trans (congrArg some (by kernel_rfl))
 t3:=Tryz.underlying3
 a3:=Tryz.isAgg3
 z3:=Tryz.sizeOf3
 v3:=Tryz.zeroValue3
 t4:=Tryz.underlying4
 a4:=Tryz.isAgg4
 z4:=Tryz.sizeOf4
 v4:=Tryz.zeroValue4
 t5:=Tryz.underlying5
 a5:=Tryz.isAgg5
 z5:=Tryz.sizeOf5
 v5:=Tryz.zeroValue5
 t9:=Tryz.underlying9
 a9:=Tryz.isAgg9
 z9:=Tryz.sizeOf9
 v9:=Tryz.zeroValue9
 t46:=Tryz.underlying159
 a46:=Tryz.isAgg159
 z46:=Tryz.sizeOf159
 v46:=Tryz.zeroValue159
 t51:=Tryz.underlying59
 a51:=Tryz.isAgg59
 z51:=Tryz.sizeOf59
 v51:=Tryz.zeroValue59 }
end Go.Proofs.YtjajigkacccdgaaGreat
namespace Go.Proofs.YtjajigkacccdgaaGreat
open Go.RowKit
open Wd
theorem bitLen_spec:∀ n x:Nat,x<2 ^ n→n≤64→x≠0→2 ^ (Lib.bitLen x-1)≤x∧x<2 ^ Lib.bitLen x∧1≤Lib.bitLen x
 | 0,x,h,_,h0=>by simp at h;omega
 | n+1,x,h,hn,h0=>by
  have h64:x<2 ^ 64:=Nat.lt_of_lt_of_le h (Nat.pow_le_pow_right (by decide) hn);rw [Lib.bitLen_half x h0 h64];by_cases h1:x / 2=0
  ·have hb:Lib.bitLen 0=0:=by decide
   rw [h1,hb];refine ⟨by simp;omega,by simp;omega,by omega⟩
  ·rw [Nat.pow_succ] at h;obtain ⟨a,b,c⟩:=bitLen_spec n (x / 2) (by omega) (by omega) h1;obtain ⟨k,hk⟩:∃ k,Lib.bitLen (x / 2)=k+1:=⟨Lib.bitLen (x / 2)-1,by omega⟩;rw [hk] at a b ⊢;rw [Nat.add_sub_cancel] at a;rw [show 1+(k+1)-1=k+1 by omega,show 1+(k+1)=k+1+1 by omega,Nat.pow_succ 2 (k+1),Nat.pow_succ];rw [Nat.pow_succ] at b;refine ⟨by omega,by omega,by omega⟩
theorem lz_any (x:Nat) (w:World) (h0:x≠0) (h1:x<4294967296) :
  Calls Tryz.prog 222 #[.int .u32 (x:Int)] w fun e w'=>∃ s:Nat,e=.returned (.int .i64 (s:Int))∧s<32∧2147483648≤x*2 ^ s∧x*2 ^ s<4294967296∧w'=w:=by
 have T:=Any.bits_LeadingZeros32 Tryz.lays133 (x:Int) w (by omega) (by omega);obtain ⟨a,b,c⟩:=bitLen_spec 32 x (by omega) (by omega) h0;have hle:Lib.bitLen x≤32:=Lib.bitLen_le x 32 (by omega) (by omega);rw [Int.toNat_natCast] at T;generalize Lib.bitLen x=L at *;refine T.mono ?_;rintro e w' ⟨rfl,rfl⟩;obtain ⟨k,rfl⟩:∃ k,L=k+1:=⟨L-1,by omega⟩;rw [Nat.add_sub_cancel] at a;have e1:2 ^ k*2 ^ (32-(k+1))=2 ^ 31:=by rw [← Nat.pow_add];congr 1;omega
 have e2:2 ^ (k+1)*2 ^ (32-(k+1))=2 ^ 32:=by rw [← Nat.pow_add];congr 1;omega
 have hp:0<2 ^ (32-(k+1)):=Nat.pos_of_ne_zero (by simp);have m1:=Nat.mul_le_mul_right (2 ^ (32-(k+1))) a;have m2:=Nat.mul_lt_mul_of_pos_right b hp;rw [e1] at m1;rw [e2] at m2;exact ⟨32-(k+1),by congr 2;omega,by omega,by omega,by omega,rfl⟩
def win (P:List Nat) (k m:Nat) (p:List Nat):List Nat:=P.take k ++ p ++ P.drop (k+m)
theorem win_len {P p:List Nat} {k m:Nat} (hk:k+m≤P.length) (hp:p.length=m):(win P k m p).length=P.length:=by
 unfold win;rw [List.length_append,List.length_append,List.length_take,List.length_drop,hp];omega
theorem win_get {P p:List Nat} {k m i:Nat} (hk:k+m≤P.length) (hp:p.length=m) (hi:i<m):(win P k m p)[k+i]?.getD 0=p[i]?.getD 0:=by
 unfold win;rw [List.append_assoc,List.getElem?_append_right (by rw [List.length_take];omega),List.length_take,Nat.min_eq_left (by omega),Nat.add_sub_cancel_left,List.getElem?_append_left (by omega)]
theorem win_set {P p:List Nat} {k m i d:Nat} (hk:k+m≤P.length) (hp:p.length=m) (hi:i<m):(win P k m p).set (k+i) d=win P k m (p.set i d):=by
 unfold win;rw [List.append_assoc,List.set_append_right _ _ (by rw [List.length_take];omega),List.length_take,Nat.min_eq_left (by omega),Nat.add_sub_cancel_left,List.set_append_left _ _ (by omega),← List.append_assoc]
theorem win_self {P:List Nat} {k m:Nat} (hk:k+m≤P.length):win P k m ((P.drop k).take m)=P:=by
 unfold win;rw [List.append_assoc,← List.drop_drop,List.take_append_drop,List.take_append_drop]
theorem win_ws {P p:List Nat} {k m:Nat} (h:Ws P) (hp:Ws p):Ws (win P k m p):=((h.take k).append hp).append (h.drop _)
theorem win_of_len {P:List Nat} {k m:Nat} (hk:k+m≤P.length):((P.drop k).take m).length=m:=by
 rw [List.length_take,List.length_drop];omega
theorem Bx.put {b:Nat} {w w':World} (h:Bx b w w') {p:Addr} (hp:w.heap.size≤p.block) (v:Value):Bx b w (w'.setCell p v) :=
 ⟨h.os,h.tape,h.output,by rw [World.size_setCell];exact h.size,fun k hk hne=>(Below.heap_setCell _ p v k (by omega)).trans (h.block k hk hne)⟩
theorem less_facts {x t bb:Nat} (hx:x<4294967296) (ht:t<4294967296) (hb:bb≤1):∃ D:Int,IntKind.u64.wrap (IntKind.u64.wrap ((x:Int)-(t:Int))-(bb:Int))=D∧D % 4294967296=((lessW x (t+bb):Nat):Int)∧D / 9223372036854775808=((lessB x (t+bb):Nat):Int):=by
 refine ⟨_,rfl,?_,?_⟩
 ·rw [IntKind.wrap_u64,IntKind.wrap_u64];unfold lessW;split<;>omega
 ·rw [IntKind.wrap_u64,IntKind.wrap_u64];unfold lessB;split<;>omega
def SmS (w:World) (b o N k n f:Nat) (P v:List Nat) (i:Nat) (bb:Nat) (wr:World):Prop :=
 ∃ p cc,SmInv ((P.drop k).take (n+1)) v f i p cc bb∧Rw wr b o N (win P k (n+1) p)∧Blk wr w.heap.size 164 #[.int .u64 (cc:Int)]∧Bx b w wr
theorem subMul_any (b o N k n c c' f:Nat) (A':Option Addr) (P v:List Nat) (w:World) (hP:Rw w b o N P) (hk:k+(n+1)≤N) (h':Wat w A' n v) (hb:∀ b' o',A'=some ⟨b',o',none⟩→b'≠b) (hf:f≤4294967296) (hn:n≤20000000000) :
  Calls Tryz.prog 225 #[.slice (some ⟨b,o+k,none⟩) (n+1) c,.slice A' n c',.int .u64 (f:Int)] w fun e w'=>∃ p cc bb,e=.returned (.bool (((bb:Nat):Int) != 0))∧SmInv ((P.drop k).take (n+1)) v f (n+1) p cc bb∧Rw w' b o N (win P k (n+1) p)∧Bx b w w':=by
 have hkP:k+(n+1)≤P.length:=by rw [hP.1];exact hk
 have HP:=Hj hP;have HV:=Hj h';have HB:=Hj hb;have HF:=Hj hf;have HK:=Hj hkP;have HWL:=Hj (win_of_len hkP);have hWu:Ws ((P.drop k).take (n+1)):=(hP.2.1.drop k).take _;have HWU:=Hj hWu;have hst:SmS w b o N k n f P v 0 0 (w.alloc (.cells #[.int .u64 0] 164)) :=
  ⟨_,0,SmInv.start v f hWu,by rw [win_self hkP];exact hP.below ((Below.refl _ w).alloc (Nat.le_refl _) _) hP.2.2.1,Blk.new w _ _,Bx.of ((Below.refl _ w).alloc (Nat.le_refl _) _)⟩
 have HST:=Hj hst;have HBS:=Hj hP.2.2.1;clear hP h' hb hf hkP hWu hst;go_enter Tryz.func225,Tryz.ntmps225
 go_wp2_with fail
 refine (carrier_any 0 w).mono ?_;rintro e w1 ⟨rfl,rfl⟩
 go_wp2_with fail
 go_loopw [7,15] (fun t7 t wr=>∃ i bb:Nat,i≤n+1∧t=.int .i64 i∧t7=.int .u64 (bb:Int)∧Hid (SmS w b o N k n f P v i bb wr)) (fun _ t _=>n+1-(intOf t).toNat)
 case atStart=>exact ⟨0,0,Nat.zero_le _,rfl,rfl,HST.out⟩
 case round =>
  clear HST;obtain ⟨i,bb,hi,rfl,rfl,hR⟩:=hrel;obtain ⟨wu,rfl⟩:∃ v,v=wr:=⟨_,rfl⟩;obtain ⟨p,cc,s1,s2,s3,s4⟩:=hR.out;have hpl:p.length=n+1:=by rw [s1.len];exact HWL.out
  by_cases hlt:i<n+1
  ·have hvw:=HV.out.2.1;obtain ⟨m1,m2⟩:=s1.step HWU.out hvw HF.out (show i<((P.drop k).take (n+1)).length by rw [HWL.out];exact hlt);have hxi:=HWU.out.get i;have hrd:=s2.2.2.2.1 (k+i) (by omega);rw [win_get HK.out hpl hlt,s1.high i (Nat.le_refl _)] at hrd;have hfz:=s2.2.2.2.2 (k+i) (by omega);have HNX:=Hj (fun W (hW:Blk W w.heap.size 164 #[.int .u64 ((cc:Nat):Int)])=>next_nat w.heap.size (v[i]?.getD 0*f) cc ((v[i]?.getD 0*f:Nat):Int) rfl W hW m1);have htl:(v[i]?.getD 0*f+cc) % 4294967296<4294967296:=Nat.mod_lt _ (by decide);obtain ⟨D,hD,hD1,hD2⟩:=less_facts hxi htl s1.borrow;have hwd:=m2.ws;have hne:w.heap.size≠b:=by have:=HBS.out;omega
   rw [← Nat.add_assoc] at hrd hfz;have hset:=(s2.heap (w':=(wu.setCell ⟨w.heap.size,0,none⟩ (.int .u64 (((v[i]?.getD 0*f+cc) / 4294967296:Nat):Int))).drew) (by show wu.heap.size≤(wu.setCell _ _).heap.size;rw [World.size_setCell];exact Nat.le_refl _) (Below.heap_setCell wu ⟨w.heap.size,0,none⟩ _ b (fun h=>hne h.symm)));have hd':lessW (((P.drop k).take (n+1))[i]?.getD 0) ((v[i]?.getD 0*f+cc) % 4294967296+bb)<4294967296:=by
    have:=s1.borrow;unfold lessW;split<;>omega
   have hc1:=hset.2.2.2.1 (k+i) (by omega);have hc2:=hset.2.2.2.2 (k+i) (by omega);rw [win_get HK.out hpl hlt,s1.high i (Nat.le_refl _),← Nat.add_assoc] at hc1;rw [← Nat.add_assoc] at hc2;have hrw:=hset.set (i:=k+i) (by omega) hd';rw [win_set HK.out hpl hlt,← Nat.add_assoc] at hrw;have hbl:=Blk.far (Blk.drew (Blk.set s3 0 (.int .u64 (((v[i]?.getD 0*f+cc) / 4294967296:Nat):Int)))) (p:=⟨b,o+k+i,none⟩) hne (.int .u32 ((lessW (((P.drop k).take (n+1))[i]?.getD 0) ((v[i]?.getD 0*f+cc) % 4294967296+bb):Nat):Int));have hbx:=((s4.put (p:=⟨w.heap.size,0,none⟩) (Nat.le_refl _) (.int .u64 (((v[i]?.getD 0*f+cc) / 4294967296:Nat):Int))).drew).set (o+k+i) (.int .u32 ((lessW (((P.drop k).take (n+1))[i]?.getD 0) ((v[i]?.getD 0*f+cc) % 4294967296+bb):Nat):Int));have hN:SmS w b o N k n f P v (i+1) (lessB (((P.drop k).take (n+1))[i]?.getD 0) ((v[i]?.getD 0*f+cc) % 4294967296+bb)) _:=⟨_,_,m2,hrw,hbl,hbx⟩;have HN:=Hj hN;have Q3:=Hj (Blk.drew s3);have hpm:v[i]?.getD 0*f<18446744073709551616:=by omega
   have hvi:=hvw.get i;have hzero:¬ i<n→v[i]?.getD 0=0:=fun hh=>by rw [List.getElem?_eq_none (by have:=HV.out.1;omega)];rfl
   have hr0:wu.drew.cell? ⟨b,o+k+i,none⟩=some (.int .u32 ((((P.drop k).take (n+1))[i]?.getD 0:Nat):Int)):=hrd;have wxi:IntKind.u64.wrap ((((P.drop k).take (n+1))[i]?.getD 0:Nat):Int)=((((P.drop k).take (n+1))[i]?.getD 0:Nat):Int):=by rw [IntKind.wrap_u64];omega
   have wtt:IntKind.u64.wrap (((v[i]?.getD 0*f+cc) % 4294967296:Nat):Int)=(((v[i]?.getD 0*f+cc) % 4294967296:Nat):Int):=by rw [IntKind.wrap_u64];omega
   clear hN hrw hbl hbx hset hR s1 s2 s3 m2 m1 hpl hwd htl hd' hxi;generalize lessW (((P.drop k).take (n+1))[i]?.getD 0) ((v[i]?.getD 0*f+cc) % 4294967296+bb)=d' at *;generalize lessB (((P.drop k).take (n+1))[i]?.getD 0) ((v[i]?.getD 0*f+cc) % 4294967296+bb)=b2 at *;generalize (v[i]?.getD 0*f+cc) % 4294967296=tt at *;generalize (v[i]?.getD 0*f+cc) / 4294967296=c2 at *;generalize ((P.drop k).take (n+1))[i]?.getD 0=x at *;have i1:(0:Int)≤(i:Int):=by omega
   have i2:(i:Int)<(n:Int)+1:=by omega
   by_cases hin:i<n
   ·obtain ⟨b',o',rfl,hb',hc'⟩:=HV.out.2.2 (by omega);have hd0:wu.cell? ⟨b',o'+i,none⟩=some (.int .u32 ((v[i]?.getD 0:Nat):Int)):=(World.cell?_of_block (a:=⟨b',o'+i,none⟩) (s4.block b' hb' (HB.out b' o' rfl))).trans (hc' i hin);have wvi:IntKind.u64.wrap ((v[i]?.getD 0:Nat):Int)=((v[i]?.getD 0:Nat):Int):=by rw [IntKind.wrap_u64];omega
    have epr:((v[i]?.getD 0:Nat):Int)*(f:Int)=((v[i]?.getD 0*f:Nat):Int):=by push_cast;rfl
    have wpr:IntKind.u64.wrap (((v[i]?.getD 0:Nat):Int)*(f:Int))=((v[i]?.getD 0*f:Nat):Int):=by rw [epr,IntKind.wrap_u64];omega
    have i3:(i:Int)<(n:Int):=by omega
    generalize v[i]?.getD 0*f=pr at *;generalize v[i]?.getD 0=vi at *;clear epr hpm hvi hzero hc' s4
    go_wp2_with fail
    go_region_held3 (fun w'=>w'.cell? ⟨b,o+k+i,none⟩=some (.int .u32 (x:Int))) (first|assumption)
     (first|(go_at_call 217;refine (HNX.out _ Q3.out).mono ?_;rintro e w3 ⟨rfl,rfl⟩))
    go_wp2;go_roundw
    case rel=>exact ⟨i+1,b2,by omega,by go_num,rfl,HN.out⟩
    case measure=>simp [intOf];omega
   ·have hv0:=hzero hin;have i3:¬ (i:Int)<(n:Int):=by omega
    rw [hv0,Nat.zero_mul] at HNX;clear hv0 hzero hpm hvi s4
    go_wp2_with fail
    go_region_held3 (fun w'=>w'.cell? ⟨b,o+k+i,none⟩=some (.int .u32 (x:Int))) (first|assumption)
     (first|(go_at_call 217;refine (HNX.out _ Q3.out).mono ?_;rintro e w3 ⟨rfl,rfl⟩))
    go_wp2;go_roundw
    case rel=>exact ⟨i+1,b2,by omega,by go_num,rfl,HN.out⟩
    case measure=>simp [intOf];omega
  ·obtain rfl:i=n+1:=by omega
   have HF2:=Hj (And.intro s1 (And.intro s2 s4));clear hR s1 s2 s3 s4 hpl;go_wp2;go_ret;exact ⟨p,cc,bb,rfl,HF2.out⟩
end Go.Proofs.YtjajigkacccdgaaGreat
