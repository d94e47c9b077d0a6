/-
Plans among the arguments of a statement, their rows' lengths bounded by the form's reach. No statement of the seat is proved here; no conditions beyond those of each theorem.
-/
import Derived.SizedLaws
import Derived.Test.YtdoeejcmaeefcaaGreatJRC
import Derived.Test.YtdoeejcmaeefcaaGreatJCs1
namespace Go.Proofs.YtdoeejcmaeefcaaGreat
set_option linter.unusedVariables false
set_option linter.unusedSimpArgs false
open Go.ChangeShapes Go.WideShapes Go.ChangeAt Go.RowKit Go.Deep
open Wd Cm

theorem bytes_bool : Tryz.prog.bytesOf 4 = 1 := by kernel_rfl
theorem wts_mem {H : Type} {P : Program} {e : TypeId} : ∀ {l : List (DataW H)} {d : DataW H}, d ∈ l → ∀ n ∈ d.weights P e, n ∈ DataW.weightsAll P e l
  | d' :: r, d, hd, n, hn => by
    simp only [DataW.weightsAll, List.mem_append]
    rcases List.mem_cons.1 hd with rfl | h
    · exact Or.inl hn
    · exact Or.inr (wts_mem h n hn)

section
variable {H : Type} {enc : TypeId × Value → H} {W : World}

theorem plf_of {fuel : Nat} {cs : List Value} {x : DataW H × List MemPlace} (h : DataW.trod enc Tryz.prog W 0 (fun _ => true) true fuel 24 cs = some x) (hz : ∀ n ∈ x.1.weights Tryz.prog 24, n ≤ reachBytes) : ∃ A n c pl, cs = [.slice A n c] ∧ PlAt W A n pl ∧ PlFit pl := by
  rcases open_slice1 Tryz.underlying24 cells_bools h with ⟨rfl, _⟩ | ⟨a, len, cap, m, n, V, D, Pl, rfl, _, hl, _, hmm, hx, hi⟩
  · exact ⟨none, 0, 0, [], rfl, ⟨rfl, fun h => absurd rfl h⟩, fun r hr => absurd hr (by simp)⟩
  · simp only [if_true] at hmm
    have each : ∀ i, i < len → ∃ l : List Bool, (∃ A' n' c', W.cell? (a.add i) = some (.slice A' n' c') ∧ BsAt W A' n' l) ∧ l.length ≤ 140737488355328 := by
      intro i hil
      obtain ⟨hc, ht⟩ := hi i (by omega)
      obtain ⟨A', n', c', l, hl', hst⟩ := bs_of ht
      refine ⟨l, ⟨A', n', c', by rw [hc]; simpa using hl', hst⟩, ?_⟩
      rcases open_slice1 Tryz.underlying35 cells_bool ht with ⟨h0, _⟩ | ⟨a2, len2, cap2, m2, n2, V2, D2, Pl2, h0, _, _, _, _, hx2, _⟩
      · rw [hl'] at h0
        simp at h0
        rw [hst.1, h0.2.1]
        omega
      · rw [hl'] at h0
        simp at h0
        have hD : D i = .slice ((List.range len2).map D2) ((List.range (m2 - len2)).map fun j => D2 (len2 + j)) := congrArg Prod.fst hx2
        have hw : (len2 + (m2 - len2)) * 1 ∈ x.1.weights Tryz.prog 24 := by
          rw [hx]
          simp only [DataW.weights, Tryz.underlying24, List.mem_cons, List.mem_append]
          refine Or.inr (Or.inl (wts_mem (d := D i) (List.mem_map.2 ⟨i, List.mem_range.2 hil, rfl⟩) _ ?_))
          rw [hD]
          simp [DataW.weights, Tryz.underlying35, bytes_bool]
        have := hz _ hw
        simp only [reachBytes] at this
        rw [hst.1, h0.2.1]
        omega
    obtain ⟨F, hF⟩ := choose_lt each
    refine ⟨some a, len, cap, (List.range len).map F, rfl, ⟨by simp, fun hn => ?_⟩, fun r hr => ?_⟩
    · obtain ⟨⟨_, _, _, h0, _⟩, _⟩ := hF 0 (by omega)
      obtain ⟨e, hb⟩ := plain_addr h0
      have hsp : a.spot = none := by have := congrArg Addr.spot e; simpa [Addr.add] using this
      have ea : a = ⟨a.block, a.off, none⟩ := by obtain ⟨b, o, s⟩ := a; simp only at hsp ⊢; rw [hsp]
      refine ⟨a.block, a.off, by rw [← ea], by simpa [Addr.add] using hb, fun j hj => ?_⟩
      have e1 : ((List.range len).map F)[j]?.getD [] = F j := by simp [hj]
      obtain ⟨⟨A', n', c', c1, hs⟩, _⟩ := hF j hj
      rw [ea, addr_plus] at c1
      rw [e1]
      exact ⟨A', n', c', c1, hs⟩
    · obtain ⟨i, hi2, rfl⟩ := List.mem_map.1 hr
      exact (hF i (List.mem_range.1 hi2)).2
end

end Go.Proofs.YtdoeejcmaeefcaaGreat
