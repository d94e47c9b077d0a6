/-
StackShareMatches: Check, Total, Share and Cost answer as the reference does, at any levels and any quantity, and results may be overwritten; for every input the law returns true and the arguments read as before. No condition beyond the statement's own.
-/
import Derived.Test.YtjajigkacccdgaaGreatTiBI
set_option linter.unusedVariables false
set_option linter.unusedSimpArgs false
set_option maxRecDepth 100000
set_option maxHeartbeats 16000000
namespace Go.Proofs.YtjajigkacccdgaaGreat
open Go.ChangeShapes Go.WideShapes Go.ChangeAt Go.RowKit Go.Deep
open Wd
theorem stackShareMatches_lifted (os:Os) (started:os.Started) (H:Type) (enc:TypeId×Value→H) :
  ReturnsInHanded {} Tryz.checked os 4 .any (Rows.stackShareMatchesSpec.pre6 enc Tryz.prog Tryz.f4 Rows.stackShareMatchesRow.domain false) (Rows.stackShareMatchesSpec.post enc Tryz.prog Tryz.f4 false true false false):=by
 refine returnsInHanded_of_change (C:=Tryz.checked) own started (by kernel_rfl) Tryz.func4
  (ChangeSpec.witness6 (enc:=enc) (C:=Tryz.checked) false ⟨#[],#[.slice none 0 0,.agg #[.bool false,.slice none 0 0,.bool false,.slice none 0 0]],[]⟩ 8 (by kernel_rfl) (by kernel_rfl) (by kernel_rfl) (by kernel_rfl)) ?_
 intro W base args ds gs before hval0 hW hcnd _;have hval:∀ (j:Nat) t v,Tryz.f4.params[j]?=some t→args[j]?=some v→Value.okWide Tryz.prog W .any base t v:=hval0;have hW':=hW;obtain ⟨p,q,hA0,hV,rfl,hfz,hnd⟩:=hW;have hA:DataW.TrodAll enc Tryz.prog W 0 (fun _=>true) true Tryz.f4.params.toList args.toList ds p:=hA0;rw [Tryz.params4] at hA hval;obtain ⟨v0,vs0,d0,ds0,p0,q0,hargs,rfl,rfl,h0,r0⟩:=trodAll_cons hA;obtain ⟨v1,vs1,d1,ds1,p1,q1,rfl,rfl,rfl,h1,r1⟩:=trodAll_cons r0;obtain ⟨rfl,rfl,rfl⟩:=trodAll_nil r1;obtain rfl:args=#[v0,v1]:=by cases args;simp_all
 obtain ⟨rfl,rfl⟩:=trodVars_none hV;clear hA0 hval0 hcnd;obtain ⟨a0,len0,cap0,rfl⟩:=okWide_slice Tryz.underlying37 (hval 0 37 _ rfl rfl);obtain ⟨fu0,hf0⟩:=h0;obtain ⟨A0,n0,c0,x0,hcs0,g0⟩:=ls_of hf0;simp only [Value.cells] at hcs0;obtain ⟨rfl,rfl,rfl⟩:a0=A0∧len0=n0∧cap0=c0:=by simpa using hcs0
 obtain ⟨an1,qA1,qn1,qc1,bn1,qB1,qm1,qd1,rfl,g1⟩:=q_of (hval 1 42 _ rfl rfl) h1;refine (sshare_any a0 len0 cap0 x0 an1 bn1 qA1 qB1 qn1 qc1 qm1 qd1 W g0 g1).mono fun e W' ⟨he,hb⟩=>?_;subst he;exact ⟨_,rfl,post_true laidOut Tryz.underlying4 rfl (by kernel_rfl) (rowed (by kernel_rfl)) hW' rfl rfl rfl hb⟩
theorem stackShareMatches_holds:Rows.StackShareMatchesSaid :=
 OpenClaim.holds_of_wide 4 Tryz.f4 rfl rfl rfl rfl rfl rfl rfl ⟨rfl,rfl,rfl,rfl,rfl⟩ rfl rfl rfl rfl rfl (by kernel_rfl) Tryz.func4 (by kernel_rfl)
  (of_decide_eq_true (by kernel_rfl)) (by unfold Func.isWrapper;first|(rw [if_pos (by decide +kernel)];kernel_rfl)|(rw [if_neg (by decide +kernel)];exact ⟨rfl,rfl⟩))
  (fun os started H enc _=>stackShareMatches_lifted os started H enc)
#print axioms stackShareMatches_holds
end Go.Proofs.YtjajigkacccdgaaGreat
