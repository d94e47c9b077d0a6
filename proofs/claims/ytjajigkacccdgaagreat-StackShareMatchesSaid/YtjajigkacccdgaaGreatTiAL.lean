/-
Lemmas of the walk; no further conditions.
-/
import Derived.Test.YtjajigkacccdgaaGreatTiAI
set_option linter.unusedVariables false
set_option linter.unusedSimpArgs false
set_option maxRecDepth 100000
set_option maxHeartbeats 16000000
namespace Go.Proofs.YtjajigkacccdgaaGreat
open Go.RowKit Go.Shelf
open Wd
attribute [local go_sem] Oper.semAt_some
theorem RdI.own {w0:World} {g cap:Nat} {FV AA BB:Value} {F:List PW→List Nat} {G:List PW→Nat} (B:Nat) (hB:g<B) (hg:g≤w0.heap.size):OwnFrom B (fun (pre:List PW) W=>RdI w0 g cap FV AA BB (F pre) pre.length (G pre) W) :=
 OwnFrom.and (OwnFrom.and (Go.Own.from (blk_own _ _ (fun pre:List PW=>rowC cap (F pre))) _) (OwnFrom.and (Go.Own.from (blk_own _ _ (fun pre:List PW=>#[.slice (some ⟨g,0,none⟩) pre.length cap])) _) (OwnFrom.and (Go.Own.from (blk_own _ _ (fun pre:List PW=>#[.int .u64 (G pre:Nat)])) _) (OwnFrom.and (Go.Own.from (blk_own _ _ (fun _:List PW=>#[FV])) _) (OwnFrom.and (Go.Own.from (blk_own _ _ (fun _:List PW=>#[AA])) _) (Go.Own.from (blk_own _ _ (fun _:List PW=>#[BB])) _)))))) (ownFrom_below hg (by omega))
theorem addWords_lb (A A':Option Addr) (la lb ca cb:Nat) (l l':List Nat) (w:World) (h:Wat w A la l) (h':Wat w A' lb l') (hla:la≤10000000000) (hlb:lb≤10000000000) (hcmp:la<lb) :
  Calls Tryz.prog 201 #[.slice A la ca,.slice A' lb cb] w fun e w'=>∃ B k c p,e=.returned (.slice B k c)∧k≤c∧k≤lb+1∧Wat w' B k p∧val p=val l+val l'∧Fresh w.heap.size w' B k∧Below w.heap.size w w':=by
 obtain ⟨i0,hi,hz0,hz1,hz2⟩:=info_parts info_u32;have hmk:=fun w=>run_make (P:=Tryz.prog) w 38 59 i0 _ Tryz.underlying38 hi hz0 .i64 .i64 0 ((lb:Int)+1) (by omega) (by omega) (by rw [hz2];omega) (by omega);have hci:(la:Int)<(lb:Int):=by omega
 refine (callsIn_wide (n:=3)).1 ?_;refine callsIn_of_wp_marks Tryz.func201 rfl trivial ?_ rfl;simp only [Tryz.ntmps201,List.size_toArray,List.length_cons,List.length_nil,Nat.reduceAdd,Nat.reduceSub,Array.replicate_succ,Array.replicate_zero,List.push_toArray,List.append_toArray,List.nil_append,List.cons_append]
 gi_wp2_with (first
  | (refine ⟨trivial,?_⟩;gi_at_call 196;refine (callsIn_wide.2 (carrier_any 0 _)).mono ?_;rintro e w' ⟨rfl,rfl⟩)
  | (refine ⟨trivial,?_⟩;gi_at_call 220;refine (pairs_in _ _ _ _ _ _ _ _).mono ?_;rintro e w' ⟨rfl,rfl⟩))
 rw [rowC_start];have bR:=Blk.new w 59 (rowC (lb+1) []);have hmx:max la lb=lb:=by omega
 have b1:=Blk.new (w.alloc (.cells (rowC (lb+1) []) 59)) 38 #[.slice (some ⟨w.heap.size,0,none⟩) 0 (lb+1)];simp only [World.size_alloc] at b1;replace b1:=b1.alloc (.cells #[.int .u64 0] 164);replace b1:=b1.alloc (.cells #[(.func (.func 217) #[] #[.pointer (some ⟨w.heap.size+1+1,0,none⟩)])] 203);replace b1:=b1.alloc (.cells #[.slice A la ca] 38);replace b1:=b1.alloc (.cells #[.slice A' lb cb] 38);have b2:=Blk.new ((w.alloc (.cells (rowC (lb+1) []) 59)).alloc (.cells #[.slice (some ⟨w.heap.size,0,none⟩) 0 (lb+1)] 38)) 164 #[.int .u64 0];simp only [World.size_alloc] at b2;replace b2:=b2.alloc (.cells #[(.func (.func 217) #[] #[.pointer (some ⟨w.heap.size+1+1,0,none⟩)])] 203);replace b2:=b2.alloc (.cells #[.slice A la ca] 38);replace b2:=b2.alloc (.cells #[.slice A' lb cb] 38);have b3:=Blk.new (((w.alloc (.cells (rowC (lb+1) []) 59)).alloc (.cells #[.slice (some ⟨w.heap.size,0,none⟩) 0 (lb+1)] 38)).alloc (.cells #[.int .u64 0] 164)) 203 #[(.func (.func 217) #[] #[.pointer (some ⟨w.heap.size+1+1,0,none⟩)])];simp only [World.size_alloc] at b3;replace b3:=b3.alloc (.cells #[.slice A la ca] 38);replace b3:=b3.alloc (.cells #[.slice A' lb cb] 38);have b4:=Blk.new ((((w.alloc (.cells (rowC (lb+1) []) 59)).alloc (.cells #[.slice (some ⟨w.heap.size,0,none⟩) 0 (lb+1)] 38)).alloc (.cells #[.int .u64 0] 164)).alloc (.cells #[(.func (.func 217) #[] #[.pointer (some ⟨w.heap.size+1+1,0,none⟩)])] 203)) 38 #[.slice A la ca];simp only [World.size_alloc] at b4;replace b4:=b4.alloc (.cells #[.slice A' lb cb] 38);have b5:=Blk.new (((((w.alloc (.cells (rowC (lb+1) []) 59)).alloc (.cells #[.slice (some ⟨w.heap.size,0,none⟩) 0 (lb+1)] 38)).alloc (.cells #[.int .u64 0] 164)).alloc (.cells #[(.func (.func 217) #[] #[.pointer (some ⟨w.heap.size+1+1,0,none⟩)])] 203)).alloc (.cells #[.slice A la ca] 38)) 38 #[.slice A' lb cb];simp only [World.size_alloc] at b5;replace bR:=bR.alloc (.cells #[.slice (some ⟨w.heap.size,0,none⟩) 0 (lb+1)] 38);replace bR:=bR.alloc (.cells #[.int .u64 0] 164);replace bR:=bR.alloc (.cells #[(.func (.func 217) #[] #[.pointer (some ⟨w.heap.size+1+1,0,none⟩)])] 203);replace bR:=bR.alloc (.cells #[.slice A la ca] 38);replace bR:=bR.alloc (.cells #[.slice A' lb cb] 38);have hB0:Below w.heap.size w ((((((w.alloc (.cells (rowC (lb+1) []) 59)).alloc (.cells #[.slice (some ⟨w.heap.size,0,none⟩) 0 (lb+1)] 38)).alloc (.cells #[.int .u64 0] 164)).alloc (.cells #[(.func (.func 217) #[] #[.pointer (some ⟨w.heap.size+1+1,0,none⟩)])] 203)).alloc (.cells #[.slice A la ca] 38)).alloc (.cells #[.slice A' lb cb] 38)):=((((((Below.refl w.heap.size w).alloc (Nat.le_refl _) (.cells (rowC (lb+1) []) 59)).alloc (by simp only [World.size_alloc];omega) (.cells #[.slice (some ⟨w.heap.size,0,none⟩) 0 (lb+1)] 38)).alloc (by simp only [World.size_alloc];omega) (.cells #[.int .u64 0] 164)).alloc (by simp only [World.size_alloc];omega) (.cells #[(.func (.func 217) #[] #[.pointer (some ⟨w.heap.size+1+1,0,none⟩)])] 203)).alloc (by simp only [World.size_alloc];omega) (.cells #[.slice A la ca] 38)).alloc (by simp only [World.size_alloc];omega) (.cells #[.slice A' lb cb] 38);have hsz:(((((((w.alloc (.cells (rowC (lb+1) []) 59)).alloc (.cells #[.slice (some ⟨w.heap.size,0,none⟩) 0 (lb+1)] 38)).alloc (.cells #[.int .u64 0] 164)).alloc (.cells #[(.func (.func 217) #[] #[.pointer (some ⟨w.heap.size+1+1,0,none⟩)])] 203)).alloc (.cells #[.slice A la ca] 38)).alloc (.cells #[.slice A' lb cb] 38))).heap.size=w.heap.size+6:=by simp
 generalize ((((((w.alloc (.cells (rowC (lb+1) []) 59)).alloc (.cells #[.slice (some ⟨w.heap.size,0,none⟩) 0 (lb+1)] 38)).alloc (.cells #[.int .u64 0] 164)).alloc (.cells #[(.func (.func 217) #[] #[.pointer (some ⟨w.heap.size+1+1,0,none⟩)])] 203)).alloc (.cells #[.slice A la ca] 38)).alloc (.cells #[.slice A' lb cb] 38))=W0 at *;have hst:=pairs_stops 2 (by omega) (w.heap.size+1+1+1+1) (w.heap.size+1+1+1+1+1) w.heap.size A A' la lb ca cb l l' h.2.1 h'.2.1 hla hlb W0 (b4.cell 0) (b5.cell 0) (by omega) (by omega) (by omega) (h.b.below hB0) (h'.b.below hB0);rw [hmx] at hst;have hmo:Tryz.prog.follows .mixedOrders=true:=by kernel_rfl
 have hr0:RdI w w.heap.size (lb+1) (.func (.func 217) #[] #[.pointer (some ⟨w.heap.size+1+1,0,none⟩)]) (.slice A la ca) (.slice A' lb cb) (cdig 0 (sumsP [])) 0 (cout 0 (sumsP [])) W0:=⟨⟨bR,b1,b2,b3,b4,b5⟩,hB0⟩;refine wpIn_rangeFunc_ownG rfl (by omega) (gf:=226) (lb:=#[.pointer (some ⟨w.heap.size+1+1+1+1,0,none⟩),.pointer (some ⟨w.heap.size+1+1+1+1+1,0,none⟩)]) rfl trivial (enters_of Tryz.func226 (by kernel_rfl) rfl)
  hst KpB.trans (KpB.put (by omega) (by omega) (by omega)) (Below.refl _ _) (fun _=>rfl)
  (fun pre W=>RdI w w.heap.size (lb+1) (.func (.func 217) #[] #[.pointer (some ⟨w.heap.size+1+1,0,none⟩)]) (.slice A la ca) (.slice A' lb cb) (cdig 0 (sumsP pre)) pre.length (cout 0 (sumsP pre)) W)
  (fun _ _ _=>False)
  (RdI.own _ (by omega) (Nat.le_refl _))
  (fun _ _ _ _ _ hs _ _=>hs)
  hr0
  (fun x=>{ tmps:=#[.slice A la ca,.slice A' lb cb,undef,undef,.slice none 0 0,.pointer (some ⟨w.heap.size+1,0,none⟩),.pointer (some ⟨w.heap.size+1+1+1,0,none⟩),.int .u64 (x.1.1:Int),.int .u64 (x.1.2:Int),.slice A la ca,.int .i64 la,.slice A' lb cb,.int .i64 lb,.int .i64 lb,.int .i64 ((lb:Int)+1),.slice (some ⟨w.heap.size,0,none⟩) 0 (lb+1),(.func (.func 217) #[] #[.pointer (some ⟨w.heap.size+1+1,0,none⟩)]),.slice A la ca,.slice A' lb cb,.func (.func 226) #[] #[.pointer (some ⟨w.heap.size+1+1+1+1,0,none⟩),.pointer (some ⟨w.heap.size+1+1+1+1+1,0,none⟩)],.int .u64 (x.1.1:Int),.int .u64 (x.1.2:Int),undef,undef,undef,undef,undef,undef,undef,undef,undef,undef,undef,undef,undef],defers:=[] }) ?assign ?body ?done ?stop
 case assign =>
  intro l x W K hK;simp only [PW.enc]
  gi_wp2
  exact hK
 case body =>
  rintro r pre x W hI hlt;have hx1:=x.2.1;have hx2:=x.2.2;have hcl:=sumsP_carry pre;have hsn:=sumsP_snoc pre x;obtain ⟨⟨x1,x2⟩,hxx⟩:=x;simp only at hx1 hx2 hsn ⊢;have xw:IntKind.u64.wrap ((x1:Int)+(x2:Int))=(x1:Int)+(x2:Int):=by rw [IntKind.wrap_u64];omega
  have hdg:cdig 0 (sumsP (pre ++ [⟨(x1,x2),hxx⟩]))=cdig 0 (sumsP pre) ++ [((x1+x2)+cout 0 (sumsP pre)) % 4294967296]:=by rw [hsn,cdig_snoc]
  have hct:cout 0 (sumsP (pre ++ [⟨(x1,x2),hxx⟩]))=((x1+x2)+cout 0 (sumsP pre)) / 4294967296:=by rw [hsn,cout_snoc]
  have hdl:(cdig 0 (sumsP pre)).length=pre.length:=by rw [cdig_len];simp [sumsP]
  have HNX:=Hj (fun W' (hW':Blk W' (w.heap.size+1+1) 164 #[.int .u64 ((cout 0 (sumsP pre):Nat):Int)])=>next_nat (w.heap.size+1+1) (x1+x2) (cout 0 (sumsP pre)) ((x1:Int)+(x2:Int)) (by omega) W' hW' (by omega));have hfin:=hI.step hdl (show pre.length+1≤lb+1 by omega) (.cells #[.int .u32 ((((x1+x2)+cout 0 (sumsP pre)) % 4294967296:Nat):Int)] 59) (d:=((x1+x2)+cout 0 (sumsP pre)) % 4294967296) (c':=((x1+x2)+cout 0 (sumsP pre)) / 4294967296) (B:=W0.heap.size) (by omega);have hrd:=hI.drew.read hdl (show pre.length+1≤lb+1 by omega) (.int .u64 ((((x1+x2)+cout 0 (sumsP pre)) / 4294967296:Nat):Int)) (.int .u32 ((((x1+x2)+cout 0 (sumsP pre)) % 4294967296:Nat):Int)) (.cells #[.int .u32 ((((x1+x2)+cout 0 (sumsP pre)) % 4294967296:Nat):Int)] 59);have hb2:Blk W.drew (w.heap.size+1+1) 164 #[.int .u64 ((cout 0 (sumsP pre):Nat):Int)]:=hI.1.2.2.1;have hcap:pre.length+1≤lb+1:=by omega
  have hlc:(pre ++ [(⟨(x1,x2),hxx⟩:PW)]).length=pre.length+1:=by simp
  have HS4:=Hj (hfin.2.2.1.2.2.2.1.cell 0);have HFIN0:=Hj hfin;have HLC:=Hj hlc;have HDG:=Hj hdg;have HCT:=Hj hct;clear hdg hct hsn hcl hdl hfin hlc;generalize ((x1+x2)+cout 0 (sumsP pre)) % 4294967296=d at *;generalize ((x1+x2)+cout 0 (sumsP pre)) / 4294967296=c' at *;generalize cout 0 (sumsP pre)=cc at *;obtain ⟨⟨e1,e2⟩,⟨e3,e4⟩,⟨e5,e6,e7,e8⟩,⟨e9,e10,e11⟩⟩:=hrd;clear hst hmk hi hz0 hz1 hz2 hx1 hx2 hlt b1 b2 b3 b4 b5 bR hB0 hsz hla hlb hmx hcmp hr0 hI
  gi_wp2
  refine wpIn_round_held (S:=fun w'=>w'.cell? ⟨w.heap.size+1+1+1,0,none⟩=some (.func (.func 217) #[] #[.pointer (some ⟨w.heap.size+1+1,0,none⟩)])) (by kernel_rfl) (by kernel_rfl) e2 (fun hHeld=>?_);have HS1:=Hj e4;have HS2:=Hj e6;have HS3:=Hj e11;generalize W.drew=V at *;refine wpAnyH_take (i:=1) (v:=?v1) rfl (by kernel_rfl) (by kernel_rfl) (by kernel_rfl) (fun _ _ _ h=>h) (Or.inl ⟨by rfl,?y1⟩) (by assumption) ?r1
  case y1=>(intro w hSw;(try dsimp only at hSw);(try simp only [p1,p2,p3]);go_simp;first|done|with_reducible rfl)
  (try simp only [Act.put,p1,p2,p3,p4,p5,p6])
  refine wpAnyH_take (i:=2) (v:=?v2) rfl (by kernel_rfl) (by kernel_rfl) (by kernel_rfl) (fun _ _ _ h=>h) (Or.inl ⟨by rfl,?y2⟩) (by assumption) ?r2
  case y2=>(intro w hSw;(try dsimp only at hSw);(try simp only [p1,p2,p3]);go_simp;first|done|with_reducible rfl)
  (try simp only [Act.put,p1,p2,p3,p4,p5,p6])
  refine wpAnyH_take (i:=3) (v:=?v3) rfl (by kernel_rfl) (by kernel_rfl) (by kernel_rfl) (fun _ _ _ h=>h) (Or.inl ⟨by rfl,?y3⟩) (by assumption) ?r3
  case y3=>(intro w hSw;(try dsimp only at hSw);(try simp only [p1,p2,p3]);go_simp;first|done|with_reducible rfl)
  (try simp only [Act.put,p1,p2,p3,p4,p5,p6])
  refine wpAnyH_take (i:=4) (v:=?v4) rfl (by kernel_rfl) (by kernel_rfl) (by kernel_rfl) (fun _ _ _ h=>h) (Or.inl ⟨by rfl,?y4⟩) (by assumption) ?r4
  case y4=>(intro w hSw;(try dsimp only at hSw);(try simp only [p1,p2,p3]);go_simp;first|done|with_reducible rfl)
  (try simp only [Act.put,p1,p2,p3,p4,p5,p6])
  refine wpAnyH_ready (rs:=[0,5]) (by kernel_rfl) (by simp) ?_;refine AllReadyH.cons rfl (fun K hK=>?_) ?_
  ·(try simp only [p1,p2,p3])
   go_simp;refine hK.out _ _ ?k5 (fun hHeld5=>?n5)
   case k5=>((try dsimp only);first|exact HS1.out|exact HS2.out|exact HS3.out|exact HS4.out|exact hHeld)
   clear hK K
   (try simp only [Act.put,p1,p2,p3,p4,p5,p6])
   refine wpAnyH_ready (rs:=[5]) (by kernel_rfl) (by simp) ?_;refine AllReadyH.cons rfl (fun K hK=>?_) ?_
   ·(try simp only [p1,p2,p3])
    go_simp
    go_at_call 217
    refine (HNX.out _ hb2).mono ?_;rintro e w' ⟨rfl,rfl⟩
    (try (go_wp2_with fail))
    refine hK.out _ _ ?k6 (fun hHeld6=>?n6)
    case k6=>((try dsimp only);first|exact HS1.out|exact HS2.out|exact HS3.out|exact HS4.out|exact hHeld)
    clear hK K
    (try simp only [Act.put,p1,p2,p3,p4,p5,p6])
    refine wpAnyH_ready (rs:=[6]) (by kernel_rfl) (by simp) ?_;refine AllReadyH.cons rfl (fun K hK=>?_) ?_
    ·(try simp only [p1,p2,p3])
     go_simp;refine hK.out _ _ ?k7 (fun hHeld7=>?n7)
     case k7=>((try dsimp only);first|exact HS1.out|exact HS2.out|exact HS3.out|exact HS4.out|exact hHeld)
     clear hK K
     (try simp only [Act.put,p1,p2,p3,p4,p5,p6])
     refine wpAnyH_ready (rs:=[7]) (by kernel_rfl) (by simp) ?_;refine AllReadyH.cons rfl (fun K hK=>?_) ?_
     ·(try simp only [p1,p2,p3])
      go_simp;refine hK.out _ _ ?k8 (fun hHeld8=>?n8)
      case k8=>((try dsimp only);first|exact HS1.out|exact HS2.out|exact HS3.out|exact HS4.out|exact hHeld)
      clear hK K
      (try simp only [Act.put,p1,p2,p3,p4,p5,p6])
      refine wpAnyH_ready (rs:=[8]) (by kernel_rfl) (by simp) ?_;refine AllReadyH.cons rfl (fun K hK=>?_) ?_
      ·(try simp only [p1,p2,p3])
       go_simp;refine hK.out _ _ ?k9 (fun hHeld9=>?n9)
       case k9=>((try dsimp only);first|exact HS1.out|exact HS2.out|exact HS3.out|exact HS4.out|exact hHeld)
       clear hK K
       (try simp only [Act.put,p1,p2,p3,p4,p5,p6])
       refine wpAnyH_done (by kernel_rfl) ?_ _;refine OnlyN.mk ?_
       gi_wp2
       exact ⟨HFIN0.out.1,HFIN0.out.2.1,by dsimp only;rw [HDG.out,HLC.out,HCT.out];exact HFIN0.out.2.2⟩
      exact AllReadyH.nil
     exact AllReadyH.nil
    exact AllReadyH.nil
   exact AllReadyH.nil
  refine AllReadyH.cons rfl (fun K hK=>?_) ?_
  ·(try simp only [p1,p2,p3])
   go_simp
   go_at_call 217
   refine (HNX.out _ hb2).mono ?_;rintro e w' ⟨rfl,rfl⟩
   (try (go_wp2_with fail))
   refine hK.out _ _ ?k10 (fun hHeld10=>?n10)
   case k10=>((try dsimp only);first|exact HS1.out|exact HS2.out|exact HS3.out|exact HS4.out|exact hHeld)
   clear hK K
   (try simp only [Act.put,p1,p2,p3,p4,p5,p6])
   refine wpAnyH_ready (rs:=[0,6]) (by kernel_rfl) (by simp) ?_;refine AllReadyH.cons rfl (fun K hK=>?_) ?_
   ·(try simp only [p1,p2,p3])
    go_simp;refine hK.out _ _ ?k11 (fun hHeld11=>?n11)
    case k11=>((try dsimp only);first|exact HS1.out|exact HS2.out|exact HS3.out|exact HS4.out|exact hHeld)
    clear hK K
    (try simp only [Act.put,p1,p2,p3,p4,p5,p6])
    refine wpAnyH_ready (rs:=[6]) (by kernel_rfl) (by simp) ?_;refine AllReadyH.cons rfl (fun K hK=>?_) ?_
    ·(try simp only [p1,p2,p3])
     go_simp;refine hK.out _ _ ?k12 (fun hHeld12=>?n12)
     case k12=>((try dsimp only);first|exact HS1.out|exact HS2.out|exact HS3.out|exact HS4.out|exact hHeld)
     clear hK K
     (try simp only [Act.put,p1,p2,p3,p4,p5,p6])
     refine wpAnyH_ready (rs:=[7]) (by kernel_rfl) (by simp) ?_;refine AllReadyH.cons rfl (fun K hK=>?_) ?_
     ·(try simp only [p1,p2,p3])
      go_simp;refine hK.out _ _ ?k13 (fun hHeld13=>?n13)
      case k13=>((try dsimp only);first|exact HS1.out|exact HS2.out|exact HS3.out|exact HS4.out|exact hHeld)
      clear hK K
      (try simp only [Act.put,p1,p2,p3,p4,p5,p6])
      refine wpAnyH_ready (rs:=[8]) (by kernel_rfl) (by simp) ?_;refine AllReadyH.cons rfl (fun K hK=>?_) ?_
      ·(try simp only [p1,p2,p3])
       go_simp;refine hK.out _ _ ?k14 (fun hHeld14=>?n14)
       case k14=>((try dsimp only);first|exact HS1.out|exact HS2.out|exact HS3.out|exact HS4.out|exact hHeld)
       clear hK K
       (try simp only [Act.put,p1,p2,p3,p4,p5,p6])
       refine wpAnyH_done (by kernel_rfl) ?_ _;refine OnlyN.mk ?_
       gi_wp2
       exact ⟨HFIN0.out.1,HFIN0.out.2.1,by dsimp only;rw [HDG.out,HLC.out,HCT.out];exact HFIN0.out.2.2⟩
      exact AllReadyH.nil
     exact AllReadyH.nil
    exact AllReadyH.nil
   refine AllReadyH.cons rfl (fun K hK=>?_) ?_
   ·(try simp only [p1,p2,p3])
    go_simp;refine hK.out _ _ ?k15 (fun hHeld15=>?n15)
    case k15=>((try dsimp only);first|exact HS1.out|exact HS2.out|exact HS3.out|exact HS4.out|exact hHeld)
    clear hK K
    (try simp only [Act.put,p1,p2,p3,p4,p5,p6])
    refine wpAnyH_ready (rs:=[0]) (by kernel_rfl) (by simp) ?_;refine AllReadyH.cons rfl (fun K hK=>?_) ?_
    ·(try simp only [p1,p2,p3])
     go_simp;refine hK.out _ _ ?k16 (fun hHeld16=>?n16)
     case k16=>((try dsimp only);first|exact HS1.out|exact HS2.out|exact HS3.out|exact HS4.out|exact hHeld)
     clear hK K
     (try simp only [Act.put,p1,p2,p3,p4,p5,p6])
     refine wpAnyH_ready (rs:=[7]) (by kernel_rfl) (by simp) ?_;refine AllReadyH.cons rfl (fun K hK=>?_) ?_
     ·(try simp only [p1,p2,p3])
      go_simp;refine hK.out _ _ ?k17 (fun hHeld17=>?n17)
      case k17=>((try dsimp only);first|exact HS1.out|exact HS2.out|exact HS3.out|exact HS4.out|exact hHeld)
      clear hK K
      (try simp only [Act.put,p1,p2,p3,p4,p5,p6])
      refine wpAnyH_ready (rs:=[8]) (by kernel_rfl) (by simp) ?_;refine AllReadyH.cons rfl (fun K hK=>?_) ?_
      ·(try simp only [p1,p2,p3])
       go_simp;refine hK.out _ _ ?k18 (fun hHeld18=>?n18)
       case k18=>((try dsimp only);first|exact HS1.out|exact HS2.out|exact HS3.out|exact HS4.out|exact hHeld)
       clear hK K
       (try simp only [Act.put,p1,p2,p3,p4,p5,p6])
       refine wpAnyH_done (by kernel_rfl) ?_ _;refine OnlyN.mk ?_
       gi_wp2
       exact ⟨HFIN0.out.1,HFIN0.out.2.1,by dsimp only;rw [HDG.out,HLC.out,HCT.out];exact HFIN0.out.2.2⟩
      exact AllReadyH.nil
     exact AllReadyH.nil
    exact AllReadyH.nil
   exact AllReadyH.nil
  exact AllReadyH.nil
 case done =>
  rintro D xs W hD rfl hI hDf;have hdl:(cdig 0 (sumsP (pws l l' h.2.1 h'.2.1 lb))).length=lb:=by rw [cdig_len];simp [sumsP,pws_length]
  rw [pws_length] at hI;have hcl:=sumsP_carry (pws l l' h.2.1 h'.2.1 lb);have hrd:=hI.drew.readN hdl (Nat.le_refl _) (.int .u64 (((0+cout 0 (sumsP (pws l l' h.2.1 h'.2.1 lb))) / 4294967296:Nat):Int)) (.int .u32 (((0+cout 0 (sumsP (pws l l' h.2.1 h'.2.1 lb))) % 4294967296:Nat):Int)) (.cells #[.int .u32 (((0+cout 0 (sumsP (pws l l' h.2.1 h'.2.1 lb))) % 4294967296:Nat):Int)] 59);have hla5:=hI.last hdl (.cells #[.int .u32 (((0+cout 0 (sumsP (pws l l' h.2.1 h'.2.1 lb))) % 4294967296:Nat):Int)] 59) (d:=(0+cout 0 (sumsP (pws l l' h.2.1 h'.2.1 lb))) % 4294967296) (c':=(0+cout 0 (sumsP (pws l l' h.2.1 h'.2.1 lb))) / 4294967296) (D:=D) (o2:=.deferred none) (by omega) rfl hDf rfl rfl;have hval:=add_val' h.2.1 h'.2.1;rw [h.1,h'.1,hmx,← sumsP_all l l' h.2.1 h'.2.1,cdig_snoc] at hval;have hws:Ws (cdig 0 (sumsP (pws l l' h.2.1 h'.2.1 lb)) ++ [(0+cout 0 (sumsP (pws l l' h.2.1 h'.2.1 lb))) % 4294967296]):=by rw [← cdig_snoc];exact cdig_Ws _ _
  have hlen:(cdig 0 (sumsP (pws l l' h.2.1 h'.2.1 lb)) ++ [(0+cout 0 (sumsP (pws l l' h.2.1 h'.2.1 lb))) % 4294967296]).length=lb+1:=by simp [hdl]
  have hwat:=Blk.wat (base:=w.heap.size) hla5.2.1 hws (Nat.le_refl _);rw [hlen] at hwat;have hb2:Blk W.drew (w.heap.size+1+1) 164 #[.int .u64 ((cout 0 (sumsP (pws l l' h.2.1 h'.2.1 lb)):Nat):Int)]:=hI.1.2.2.1;have HLA:=Hj (And.intro hla5.1 (And.intro hwat (And.intro hval hla5.2.2)));have HNX:=Hj (fun W' (hW':Blk W' (w.heap.size+1+1) 164 #[.int .u64 ((cout 0 (sumsP (pws l l' h.2.1 h'.2.1 lb)):Nat):Int)])=>next_nat (w.heap.size+1+1) 0 (cout 0 (sumsP (pws l l' h.2.1 h'.2.1 lb))) 0 rfl W' hW' (by omega));have hcl2:cout 0 (sumsP (pws l l' h.2.1 h'.2.1 lb))<18446744073709551616:=by omega
  clear hdl hI hla5 hval hws hlen hwat hst hr0 b1 b2 b3 b4 b5 bR hB0 hsz hla hlb hmx hcmp hci hmk hi hz0 hz1 hz2 hcl hD hDf;generalize cdig 0 (sumsP (pws l l' h.2.1 h'.2.1 lb)) ++ [(0+cout 0 (sumsP (pws l l' h.2.1 h'.2.1 lb))) % 4294967296]=pp at HLA;generalize (0+cout 0 (sumsP (pws l l' h.2.1 h'.2.1 lb))) % 4294967296=d at *;generalize hcq:(0+cout 0 (sumsP (pws l l' h.2.1 h'.2.1 lb))) / 4294967296=c' at *;generalize cout 0 (sumsP (pws l l' h.2.1 h'.2.1 lb))=cc at *;obtain ⟨⟨e1,e2⟩,⟨e3,e4⟩,⟨⟨e5,e6⟩,e7,e8⟩,⟨e9,e11⟩⟩:=hrd
  gi_wp2
  refine wpIn_wide_held (S:=fun w'=>w'.cell? ⟨w.heap.size+1,0,none⟩=some (.slice (some ⟨w.heap.size,0,none⟩) lb (lb+1))∧w'.cell? ⟨w.heap.size+1+1+1,0,none⟩=some (.func (.func 217) #[] #[.pointer (some ⟨w.heap.size+1+1,0,none⟩)])) (by kernel_rfl) ⟨e1,e2⟩ (fun hHeld=>?_);have HS1:=Hj (And.intro e3 e4);have HS2:=Hj (And.intro e5 e6);have HS3:=Hj (And.intro e9 e11);generalize W.drew=V at *;refine wpAnyH_take (i:=0) (v:=?v19) rfl (by kernel_rfl) (by kernel_rfl) (by kernel_rfl) (fun _ _ _ h=>h) (Or.inl ⟨by rfl,?y19⟩) (by assumption) ?r19
  case y19=>(intro w hSw;(try dsimp only at hSw);(try simp only [p1,p2,p3]);go_simp;first|done|with_reducible rfl)
  (try simp only [Act.put,p1,p2,p3,p4,p5,p6])
  refine wpAnyH_take (i:=1) (v:=?v20) rfl (by kernel_rfl) (by kernel_rfl) (by kernel_rfl) (fun _ _ _ h=>h) (Or.inl ⟨by rfl,?y20⟩) (by assumption) ?r20
  case y20=>(intro w hSw;(try dsimp only at hSw);(try simp only [p1,p2,p3]);go_simp;first|done|with_reducible rfl)
  (try simp only [Act.put,p1,p2,p3,p4,p5,p6])
  refine wpAnyH_ready (rs:=[2]) (by kernel_rfl) (by simp) ?_;refine AllReadyH.cons rfl (fun K hK=>?_) ?_
  ·(try simp only [p1,p2,p3])
   go_simp
   go_at_call 217
   refine (HNX.out _ hb2).mono ?_;rintro e w' ⟨rfl,rfl⟩
   (try (go_wp2_with fail))
   refine hK.out _ _ ?k21 (fun hHeld21=>?n21)
   case k21=>((try dsimp only);first|exact HS1.out|exact HS2.out|exact HS3.out|exact hHeld)
   clear hK K
   (try simp only [Act.put,p1,p2,p3,p4,p5,p6])
   refine wpAnyH_ready (rs:=[3]) (by kernel_rfl) (by simp) ?_;refine AllReadyH.cons rfl (fun K hK=>?_) ?_
   ·(try simp only [p1,p2,p3])
    go_simp;refine hK.out _ _ ?k22 (fun hHeld22=>?n22)
    case k22=>((try dsimp only);first|exact HS1.out|exact HS2.out|exact HS3.out|exact hHeld)
    clear hK K
    (try simp only [Act.put,p1,p2,p3,p4,p5,p6])
    refine wpAnyH_ready (rs:=[4]) (by kernel_rfl) (by simp) ?_;refine AllReadyH.cons rfl (fun K hK=>?_) ?_
    ·(try simp only [p1,p2,p3])
     go_simp;refine hK.out _ _ ?k23 (fun hHeld23=>?n23)
     case k23=>((try dsimp only);first|exact HS1.out|exact HS2.out|exact HS3.out|exact hHeld)
     clear hK K
     (try simp only [Act.put,p1,p2,p3,p4,p5,p6])
     refine wpAnyH_take (i:=5) (v:=?v24) rfl (by kernel_rfl) (by kernel_rfl) (by kernel_rfl) (fun _ _ _ h=>h) (Or.inl ⟨by rfl,?y24⟩) (by assumption) ?r24
     case y24=>(intro w hSw;(try dsimp only at hSw);(try simp only [p1,p2,p3]);go_simp;first|done|with_reducible rfl)
     (try simp only [Act.put,p1,p2,p3,p4,p5,p6])
     refine wpAnyH_done (by kernel_rfl) ?_ _;refine OnlyN.mk ?_
     gi_wp2
     refine ⟨by simp,.inl ⟨_,_,rfl,run_takeDeferred HLA.out.1,?_⟩⟩;exact ⟨_,results_tmp rfl _ _ _,_,_,_,_,rfl,Nat.le_refl _,Nat.le_refl _,HLA.out.2.1.1,HLA.out.2.2.1,HLA.out.2.1.2,HLA.out.2.2.2⟩
    exact AllReadyH.nil
   exact AllReadyH.nil
  exact AllReadyH.nil
 case stop =>
  rintro D c pre W _ _ h _;exact h.elim
end Go.Proofs.YtjajigkacccdgaaGreat
