/-
ClearQueriesMatch: Clears and Welfare answer as the reference does, at any offers, bids, price and quantities; for every input the law returns true and the arguments read as before. No condition beyond the statement's own.
-/
import Derived.Test.YtjajigkacccdgaaGreatTeBJ
set_option linter.unusedVariables false
set_option linter.unusedSimpArgs false
set_option maxRecDepth 100000
set_option maxHeartbeats 16000000
namespace Go.Proofs.YtjajigkacccdgaaGreat
open Go.ChangeShapes Go.WideShapes Go.ChangeAt Go.RowKit Go.Deep
open Wd
theorem clearQueriesMatch_lifted (os:Os) (started:os.Started) (H:Type) (enc:TypeId×Value→H) :
  ReturnsInHanded {} Tryz.checked os 10 .any (Rows.clearQueriesMatchSpec.pre6 enc Tryz.prog Tryz.f10 Rows.clearQueriesMatchRow.domain false) (Rows.clearQueriesMatchSpec.post enc Tryz.prog Tryz.f10 false true false false):=by
 refine returnsInHanded_of_change (C:=Tryz.checked) own started (by kernel_rfl) Tryz.func10
  (ChangeSpec.witness6 (enc:=enc) (C:=Tryz.checked) false ⟨#[],#[.slice none 0 0,.slice none 0 0,.agg #[.bool false,.slice none 0 0,.bool false,.slice none 0 0],.slice none 0 0,.slice none 0 0],[]⟩ 8 (by kernel_rfl) (by kernel_rfl) (by kernel_rfl) (by kernel_rfl)) ?_
 intro W base args ds gs before hval0 hW hcnd _;have hval:∀ (j:Nat) t v,Tryz.f10.params[j]?=some t→args[j]?=some v→Value.okWide Tryz.prog W .any base t v:=hval0;have hW':=hW;obtain ⟨p,q,hA0,hV,rfl,hfz,hnd⟩:=hW;have hA:DataW.TrodAll enc Tryz.prog W 0 (fun _=>true) true Tryz.f10.params.toList args.toList ds p:=hA0;rw [Tryz.params10] at hA hval;obtain ⟨v0,vs0,d0,ds0,p0,q0,hargs,rfl,rfl,h0,r0⟩:=trodAll_cons hA;obtain ⟨v1,vs1,d1,ds1,p1,q1,rfl,rfl,rfl,h1,r1⟩:=trodAll_cons r0;obtain ⟨v2,vs2,d2,ds2,p2,q2,rfl,rfl,rfl,h2,r2⟩:=trodAll_cons r1;obtain ⟨v3,vs3,d3,ds3,p3,q3,rfl,rfl,rfl,h3,r3⟩:=trodAll_cons r2;obtain ⟨v4,vs4,d4,ds4,p4,q4,rfl,rfl,rfl,h4,r4⟩:=trodAll_cons r3;obtain ⟨rfl,rfl,rfl⟩:=trodAll_nil r4;obtain rfl:args=#[v0,v1,v2,v3,v4]:=by cases args;simp_all
 obtain ⟨rfl,rfl⟩:=trodVars_none hV;clear hA0 hval0 hcnd;obtain ⟨a0,len0,cap0,rfl⟩:=okWide_slice Tryz.underlying22 (hval 0 22 _ rfl rfl);obtain ⟨fu0,hf0⟩:=h0;obtain ⟨A0,n0,c0,x0,hcs0,g0⟩:=css_of hf0;simp only [Value.cells] at hcs0;obtain ⟨rfl,rfl,rfl⟩:a0=A0∧len0=n0∧cap0=c0:=by simpa using hcs0
 obtain ⟨a1,len1,cap1,rfl⟩:=okWide_slice Tryz.underlying22 (hval 1 22 _ rfl rfl);obtain ⟨fu1,hf1⟩:=h1;obtain ⟨A1,n1,c1,x1,hcs1,g1⟩:=css_of hf1;simp only [Value.cells] at hcs1;obtain ⟨rfl,rfl,rfl⟩:a1=A1∧len1=n1∧cap1=c1:=by simpa using hcs1
 obtain ⟨an2,qA2,qn2,qc2,bn2,qB2,qm2,qd2,rfl,g2⟩:=q_of (hval 2 42 _ rfl rfl) h2;obtain ⟨a3,len3,cap3,rfl⟩:=okWide_slice Tryz.underlying46 (hval 3 46 _ rfl rfl);obtain ⟨fu3,hf3⟩:=h3;obtain ⟨A3,n3,c3,x3,hcs3,g3⟩:=qs_of hf3;simp only [Value.cells] at hcs3;obtain ⟨rfl,rfl,rfl⟩:a3=A3∧len3=n3∧cap3=c3:=by simpa using hcs3
 obtain ⟨a4,len4,cap4,rfl⟩:=okWide_slice Tryz.underlying46 (hval 4 46 _ rfl rfl);obtain ⟨fu4,hf4⟩:=h4;obtain ⟨A4,n4,c4,x4,hcs4,g4⟩:=qs_of hf4;simp only [Value.cells] at hcs4;obtain ⟨rfl,rfl,rfl⟩:a4=A4∧len4=n4∧cap4=c4:=by simpa using hcs4
 refine (cqm_any a0 a1 a3 a4 len0 cap0 len1 cap1 len3 cap3 len4 cap4 x0 x1 an2 bn2 qA2 qB2 qn2 qc2 qm2 qd2 x3 x4 W g0 g1 g2 g3 g4).mono fun e W' ⟨he,hb⟩=>?_;subst he;exact ⟨_,rfl,post_true laidOut Tryz.underlying4 rfl (by kernel_rfl) (rowed (by kernel_rfl)) hW' rfl rfl rfl hb⟩
theorem clearQueriesMatch_holds:Rows.ClearQueriesMatchSaid :=
 OpenClaim.holds_of_wide 10 Tryz.f10 rfl rfl rfl rfl rfl rfl rfl ⟨rfl,rfl,rfl,rfl,rfl⟩ rfl rfl rfl rfl rfl (by kernel_rfl) Tryz.func10 (by kernel_rfl)
  (of_decide_eq_true (by kernel_rfl)) (by unfold Func.isWrapper;first|(rw [if_pos (by decide +kernel)];kernel_rfl)|(rw [if_neg (by decide +kernel)];exact ⟨rfl,rfl⟩))
  (fun os started H enc _=>clearQueriesMatch_lifted os started H enc)
#print axioms clearQueriesMatch_holds
end Go.Proofs.YtjajigkacccdgaaGreat
