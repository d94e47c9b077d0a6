/-
Allocate of package energy: the walk. No statement of the seat is proved here; no conditions beyond those of each theorem.
-/
import Derived.Test.YthpldmlpononhaaGreatE4
namespace Go.Proofs.YthpldmlpononhaaGreat
set_option linter.unusedVariables false
set_option linter.unusedSimpArgs false
open Go.RowKit
open Wd
open En (Pc PU)

/-- The state before unit k, and within unit k before its step j. -/
def AlR (w : World) (g : Nat) (zs : List PU) (k : Nat) (wr : World) : Prop :=
  Below w.heap.size w wr ∧ IRow wr g (rowAt zs k) ∧ PcB wr (g + 1) 107 (psAt zs k)
def AlS (w : World) (g : Nat) (zs : List PU) (k : Nat) (mn : Int) (st : List (Int × Int)) (j : Nat) (wr : World) : Prop :=
  Below w.heap.size w wr ∧ IRow wr g (rowAt zs (k + 1)) ∧ PcB wr (g + 1) 107 (psAt zs k ++ ((En.left mn st).take j).map fun s => (k, s.1, s.2))
/-- The state of the last loop before piece j. -/
def FlR (w : World) (g n : Nat) (ps : List Pc) (fin : List Int) (j : Nat) (r : Int) (xs : List Int) (wr : World) : Prop :=
  Below w.heap.size w wr ∧ IRow wr g xs ∧ PcH wr (g + 1) ps ∧ xs.length = n ∧ En.fill (ps.drop j) r xs = fin ∧ ∀ i, i < n → 0 ≤ xs[i]?.getD 0 ∧ xs[i]?.getD 0 ≤ 15000000 * (j + 1)
theorem drop_consP {l : List Pc} {k : Nat} (hk : k < l.length) : l.drop k = (l[k]?.getD (0, 0, 0)) :: l.drop (k + 1) := by
  rw [List.drop_eq_getElem_cons hk, List.getElem?_eq_getElem hk]; rfl
theorem uchk_st {u : Un} (h : uchk u = 0) : u.st.length ≤ 3 ∧ ∀ s ∈ u.st, ¬ Bad s.1 s.2 := by
  obtain ⟨h1, _⟩ := uchk_ok h
  obtain ⟨_, h2, _, h3⟩ := chk_ok h1
  exact ⟨h2, h3⟩

set_option maxRecDepth 100000 in
set_option maxHeartbeats 8000000 in
theorem ealloc_ok (A B : Option Addr) (n c d : Nat) (us : List Un) (bs : List Bool) (f : Int) (w : World) (h : UsAt w A n us) (h' : BsAt w B n bs) (hm : n ≤ 1000000000000) (he : echk us n = 0) (h0 : 0 ≤ f) (h1 : rmin (us.zip bs) ≤ f) (h2 : f ≤ rmax (us.zip bs)) :
    Calls Tryz.prog 49 #[.slice A n c, .slice B n d, .int .i64 f] w fun e w' => ∃ g xs, e = .returned (.tuple #[.slice (some ⟨g, 0, none⟩) n n, .int .i64 0]) ∧ IRow w' g xs ∧ xs.length = n ∧ En.Opt (pus us bs) f xs ∧ w.heap.size ≤ g ∧ Below w.heap.size w w' := by
  have T := erange_ok A B n c n d us bs w h h' hm hm he
  obtain ⟨hn5, hmn, hok⟩ := echk_ok he
  have HT := Lib.hid T
  have hbl := h'.1
  have hul := h.1
  have hzl := pus_len (us := us) (bs := bs) hul hbl
  have hz3 : ∀ z ∈ pus us bs, z.st.length ≤ 3 := by
    intro z hz
    unfold pus at hz
    obtain ⟨y, hy, rfl⟩ := List.mem_map.1 hz
    exact (uchk_st (hok y.1 (List.of_mem_zip hy).1)).1
  have hokz : ∀ z ∈ us.zip bs, uchk z.1 = 0 := fun z hz => hok z.1 (List.of_mem_zip hz).1
  obtain ⟨hao, hsl, hsu⟩ := pus_ok hokz
  have hrb := range_bd (us.zip bs) hokz
  have hzz : (us.zip bs).length ≤ 5 := by rw [List.length_zip]; omega
  have q1 : 0 ≤ rmin (us.zip bs) := by omega
  have q2 : rmax (us.zip bs) ≤ 15000000 := by omega
  have hbnd : ∀ z ∈ us.zip bs, (⟨z.2, z.1.mn, z.1.st⟩ : PU).dn ≤ 3000000 ∧ 0 ≤ (⟨z.2, z.1.mn, z.1.st⟩ : PU).dn := by
    intro z hz
    obtain ⟨_, u2, u3, u4, _, _⟩ := uchk_ok (hokz z hz)
    unfold PU.dn
    cases z.2
    · simp
    · simp only [if_true]; omega
  have hdnb : ∀ i, i < n → 0 ≤ ((pus us bs).map PU.dn)[i]?.getD 0 ∧ ((pus us bs).map PU.dn)[i]?.getD 0 ≤ 15000000 * ((0 : Nat) + 1) := by
    intro i hi
    unfold pus
    have hi' : i < (us.zip bs).length := by rw [List.length_zip]; omega
    have := hbnd _ (List.getElem_mem hi')
    rw [List.getElem?_map, List.getElem?_map, List.getElem?_eq_getElem hi']
    simp only [Option.map_some, Option.getD_some]
    omega
  have HAO := Lib.hid hao
  have HSL0 := Lib.hid hsl
  have HSU0 := Lib.hid hsu
  have HDB := Lib.hid hdnb
  clear hao hsl hsu hrb hzz hbnd hdnb hokz
  have HZ3 := Lib.hid hz3
  have HZL := Lib.hid hzl
  have HUL := Lib.hid hul
  have HBL := Lib.hid hbl
  clear hz3 hzl hul hbl
  have HMN := Lib.hid hmn
  have HOK := Lib.hid hok
  have HU := Lib.hid h
  have HB := Lib.hid h'
  have hn : n ≤ 5 := by omega
  clear T hmn hok h h' he hn5
  have d1 : decide (f < 0) = false := by simpa using h0
  have d2 : decide (f < rmin (us.zip bs)) = false := by simpa using h1
  have d3 : decide (rmax (us.zip bs) < f) = false := by simpa using h2
  have hmk := fun w => run_make_ints n (by omega) w
  go_enter Tryz.func49, Tryz.ntmps49
  go_wp2_with fail
  refine HT.out.mono ?_
  rintro e w1 ⟨rfl, hb1⟩
  have HB1 := Lib.hid hb1
  clear hb1 HT
  go_wp2_with fail
  have hst : AlR w w1.heap.size (pus us bs) 0 ((w1.alloc (.cells (Array.replicate n (.int .i64 0)) 2)).alloc (.cells #[.int .i64 0, .int .i64 0, .int .i64 0, .int .i64 0, .int .i64 0, .int .i64 0, .int .i64 0, .int .i64 0, .int .i64 0, .int .i64 0, .int .i64 0, .int .i64 0, .int .i64 0, .int .i64 0, .int .i64 0, .int .i64 0, .int .i64 0, .int .i64 0, .int .i64 0, .int .i64 0, .int .i64 0, .int .i64 0, .int .i64 0, .int .i64 0, .int .i64 0, .int .i64 0, .int .i64 0, .int .i64 0, .int .i64 0, .int .i64 0, .int .i64 0, .int .i64 0, .int .i64 0, .int .i64 0, .int .i64 0, .int .i64 0, .int .i64 0, .int .i64 0, .int .i64 0, .int .i64 0, .int .i64 0, .int .i64 0, .int .i64 0, .int .i64 0, .int .i64 0] 107)) := by
    refine ⟨(HB1.out.alloc HB1.out.size _).alloc (by rw [World.size_alloc]; exact Nat.le_succ_of_le HB1.out.size) _, ?_, ?_⟩
    · rw [rowAt_zero, HZL.out]; exact (IRow.start w1 n).alloc _
    · have := PcB.start (w1.alloc (.cells (Array.replicate n (.int .i64 0)) 2)) 107 #[.int .i64 0, .int .i64 0, .int .i64 0, .int .i64 0, .int .i64 0, .int .i64 0, .int .i64 0, .int .i64 0, .int .i64 0, .int .i64 0, .int .i64 0, .int .i64 0, .int .i64 0, .int .i64 0, .int .i64 0, .int .i64 0, .int .i64 0, .int .i64 0, .int .i64 0, .int .i64 0, .int .i64 0, .int .i64 0, .int .i64 0, .int .i64 0, .int .i64 0, .int .i64 0, .int .i64 0, .int .i64 0, .int .i64 0, .int .i64 0, .int .i64 0, .int .i64 0, .int .i64 0, .int .i64 0, .int .i64 0, .int .i64 0, .int .i64 0, .int .i64 0, .int .i64 0, .int .i64 0, .int .i64 0, .int .i64 0, .int .i64 0, .int .i64 0, .int .i64 0] rfl
      rw [World.size_alloc] at this
      exact this
  have hg0 : w.heap.size ≤ w1.heap.size := HB1.out.size
  generalize (w1.alloc (.cells (Array.replicate n (.int .i64 0)) 2)).alloc (.cells #[.int .i64 0, .int .i64 0, .int .i64 0, .int .i64 0, .int .i64 0, .int .i64 0, .int .i64 0, .int .i64 0, .int .i64 0, .int .i64 0, .int .i64 0, .int .i64 0, .int .i64 0, .int .i64 0, .int .i64 0, .int .i64 0, .int .i64 0, .int .i64 0, .int .i64 0, .int .i64 0, .int .i64 0, .int .i64 0, .int .i64 0, .int .i64 0, .int .i64 0, .int .i64 0, .int .i64 0, .int .i64 0, .int .i64 0, .int .i64 0, .int .i64 0, .int .i64 0, .int .i64 0, .int .i64 0, .int .i64 0, .int .i64 0, .int .i64 0, .int .i64 0, .int .i64 0, .int .i64 0, .int .i64 0, .int .i64 0, .int .i64 0, .int .i64 0, .int .i64 0] 107) = W0 at *
  generalize w1.heap.size = g at *
  have HST0 := Lib.hid hst
  clear hst hmk HB1 d1 d2 d3
  have HAO2 : Hid (En.AllOk (pus us bs)) := HAO
  have HSL2 : Hid (En.sumR ((pus us bs).map PU.dn) = rmin (us.zip bs)) := HSL0
  have HSU2 : Hid (En.sumR ((pus us bs).map PU.up) = rmax (us.zip bs)) := HSU0
  clear HAO HSL0 HSU0
  generalize hzs : pus us bs = zs at *
  have HZS := Lib.hid hzs
  clear hzs
  go_loopw [13, 50] (fun t13 t wr => ∃ k m : Nat, k ≤ n ∧ m ≤ 3 * k ∧ t = .int .i64 k ∧ t13 = .int .i64 m ∧ Hid (m = (psAt zs k).length) ∧ Hid (AlR w g zs k wr)) (fun _ t _ => n - (intOf t).toNat)
  case atStart => exact ⟨0, 0, Nat.zero_le _, Nat.zero_le _, rfl, rfl, rfl, HST0.out⟩
  case round =>
    clear HST0
    obtain ⟨k, m, hk, hmk, rfl, rfl, hML, hR⟩ := hrel
    by_cases hlt : k < n
    · obtain ⟨hB, hRow, hPc⟩ := hR.out
      obtain ⟨b, o, rfl, hb, hcell⟩ := HU.out.2 (by omega)
      obtain ⟨b', o', rfl, hb', hcell'⟩ := HB.out.2 (by omega)
      have hlen : k < us.length := by have := HMN.out; omega
      have hlenz : k < zs.length := by have := HZL.out; omega
      have hu0 := hcell k hlt
      have hon := (hB.cell (p := ⟨b', o' + k, none⟩) hb').trans (hcell' k hlt)
      have hzk := pus_get (us := us) (bs := bs) (k := k) hlen (by have := HBL.out; omega)
      rw [HZS.out] at hzk
      have hmem : (us[k]?.getD U0) ∈ us := by rw [List.getElem?_eq_getElem hlen]; exact List.getElem_mem _
      have huk := HOK.out _ hmem
      obtain ⟨us3, usb⟩ := uchk_st huk
      obtain ⟨-, um0, um1, um2, -, -⟩ := uchk_ok huk
      clear huk hmem
      generalize bs[k]?.getD false = bk at *
      generalize us[k]?.getD U0 = u at *
      obtain ⟨bus, mn, st, up, dn, start, idle, spin, on⟩ := u
      obtain ⟨A', n', c', ⟨h0', h1', h2', h3', h4', h5', h6', h7', h8'⟩, hs, hn'⟩ := hu0
      simp only at h0' h1' h2' h3' h4' h5' h6' h7' h8' hs us3 usb um0 um1 um2 hzk
      replace h0' := (hB.cell (p := ⟨b, o + k * 9, none⟩) hb).trans h0'
      replace h1' := (hB.cell (p := ⟨b, o + k * 9 + 1, none⟩) hb).trans h1'
      replace h2' := (hB.cell (p := ⟨b, o + k * 9 + 2, none⟩) hb).trans h2'
      replace h3' := (hB.cell (p := ⟨b, o + k * 9 + 3, none⟩) hb).trans h3'
      replace h4' := (hB.cell (p := ⟨b, o + k * 9 + 4, none⟩) hb).trans h4'
      replace h5' := (hB.cell (p := ⟨b, o + k * 9 + 5, none⟩) hb).trans h5'
      replace h6' := (hB.cell (p := ⟨b, o + k * 9 + 6, none⟩) hb).trans h6'
      replace h7' := (hB.cell (p := ⟨b, o + k * 9 + 7, none⟩) hb).trans h7'
      replace h8' := (hB.cell (p := ⟨b, o + k * 9 + 8, none⟩) hb).trans h8'
      have hbr : b < wr.heap.size := Nat.lt_of_lt_of_le hb hB.size
      have hbr' : b' < wr.heap.size := Nat.lt_of_lt_of_le hb' hB.size
      have hon9 : (wr.alloc (.cells #[.int .i64 bus, .int .i64 mn, .slice A' n' c', .int .i64 up, .int .i64 dn, .int .i64 start, .int .i64 idle, .int .i64 spin, .int .i64 on] 48)).cell? ⟨b', o' + k, none⟩ = some (.bool bk) := by
        rw [World.cell?_alloc_past _ _ _ hbr']; exact hon
      have hb9 : Below wr.heap.size wr (wr.alloc (.cells #[.int .i64 bus, .int .i64 mn, .slice A' n' c', .int .i64 up, .int .i64 dn, .int .i64 start, .int .i64 idle, .int .i64 spin, .int .i64 on] 48)) := (Below.refl _ _).alloc (Nat.le_refl _) _
      have hBw := hB.trans (hb9.mono hB.size)
      have hRow9 := hRow.below hb9
      have hPc9 := hPc.below hb9
      have HZK := Lib.hid hzk
      clear hzk
      cases bk
      · have hfin : AlR w g zs (k + 1) (wr.alloc (.cells #[.int .i64 bus, .int .i64 mn, .slice A' n' c', .int .i64 up, .int .i64 dn, .int .i64 start, .int .i64 idle, .int .i64 spin, .int .i64 on] 48)) := by
          refine ⟨hBw, ?_, ?_⟩
          · rw [rowAt_off hlenz (by unfold PU0; rw [HZK.out]; rfl)]; exact hRow9
          · rw [psAt_off hlenz (by unfold PU0; rw [HZK.out])]; exact hPc9
        have hml : m = (psAt zs (k + 1)).length := by rw [psAt_off hlenz (by unfold PU0; rw [HZK.out])]; exact hML.out
        have HF := Lib.hid hfin
        have HML := Lib.hid hml
        clear hfin hml hBw hRow9 hPc9 hb9 hcell hcell' hR hML hRow hPc hB usb hs
        go_wp2
        go_roundw
        case rel => exact ⟨k + 1, m, by omega, by omega, by go_num, rfl, HML.out, HF.out⟩
        case measure => simp [intOf]; omega
      · have hzl2 := HZL.out
        have hrl : (rowAt zs k).length = zs.length := rowAt_len zs k (by omega)
        have hUb := Blk.new wr 48 #[.int .i64 bus, .int .i64 mn, .slice A' n' c', .int .i64 up, .int .i64 dn, .int .i64 start, .int .i64 idle, .int .i64 spin, .int .i64 on]
        have hrc := hRow9.cell (i := k) (by omega)
        have hrf := hRow9.frozen k
        have hgl : g + 1 < wr.heap.size := hPc.lt
        have hg1 : g ≠ wr.heap.size := by omega
        have hRow3 := hRow9.set k mn
        have hon2 : (zs[k]?.getD PU0).on = true := by unfold PU0; rw [HZK.out]
        have hdn : (zs[k]?.getD PU0).dn = mn := by unfold PU0; rw [HZK.out]; rfl
        rw [← hdn, ← rowAt_on hlenz, hdn] at hRow3
        have hPc3 := hPc9.far (p := ⟨g, k, none⟩) (by simp) (.int .i64 mn)
        have hUb3 := hUb.far (p := ⟨g, k, none⟩) (by simp; omega) (.int .i64 mn)
        have hB3 := hBw.setCell (p := ⟨g, k, none⟩) hg0 (.int .i64 mn)
        have hki : (0 : Int) ≤ (k : Int) ∧ (k : Int) < (n : Int) := by omega
        obtain ⟨hki1, hki2⟩ := hki
        have hst3 : AlS w g zs k mn st 0 ((wr.alloc (.cells #[.int .i64 bus, .int .i64 mn, .slice A' n' c', .int .i64 up, .int .i64 dn, .int .i64 start, .int .i64 idle, .int .i64 spin, .int .i64 on] 48)).setCell ⟨g, k, none⟩ (.int .i64 mn)) := ⟨hB3, hRow3, by simpa using hPc3⟩
        obtain ⟨e0, e1, e2, -⟩ := hUb.nine
        obtain ⟨x0, x1, x2, -⟩ := hUb3.nine
        have HST3 := Lib.hid hst3
        have HSX := Lib.hid hs
        have HUSB := Lib.hid usb
        have hsl := hs.1
        have HSL := Lib.hid hsl
        have hnn : n' ≤ 3 := by omega
        have HON2 := Lib.hid hon2
        have hzk2 : zs[k]?.getD PU0 = ⟨true, mn, st⟩ := HZK.out
        have HZK2 := Lib.hid hzk2
        clear hzk2 hst3 hRow3 hPc3 hB3 hUb3 hUb hdn hon2 hrl hzl2 hBw hRow9 hPc9 hb9 hcell hcell' hR hRow hPc hB usb hs hsl
        go_wp2_with fail
        generalize (wr.alloc (.cells #[.int .i64 bus, .int .i64 mn, .slice A' n' c', .int .i64 up, .int .i64 dn, .int .i64 start, .int .i64 idle, .int .i64 spin, .int .i64 on] 48)).setCell ⟨g, k, none⟩ (.int .i64 mn) = W3 at *
        clear e0 e1 e2 x0 x1 x2 h0' h1' h2' h3' h4' h5' h6' h7' h8' hrc hrf
        obtain ⟨wo, rfl⟩ : ∃ wo : World, wo = wr := ⟨_, rfl⟩
        go_loopw [13, 16, 70] (fun t13 t16 t wq => ∃ j m : Nat, j ≤ n' ∧ m ≤ 3 * k + j ∧ t = .int .i64 j ∧ t13 = .int .i64 m ∧ t16 = .int .i64 (restI st mn j) ∧ Hid (m = (psAt zs k ++ ((En.left mn st).take j).map fun s => (k, s.1, s.2)).length) ∧ Hid (AlS w g zs k mn st j wq)) (fun _ _ t _ => n' - (intOf t).toNat)
        case atStart => exact ⟨0, m, Nat.zero_le _, by omega, rfl, rfl, rfl, by show m = _; simpa using hML.out, HST3.out⟩
        case round =>
          clear HST3
          obtain ⟨j, m', hj, hm', rfl, rfl, rfl, hML2, hR2⟩ := hrel
          by_cases hjl : j < n'
          · obtain ⟨hB4, hRow4, hPc4⟩ := hR2.out
            obtain ⟨b2, o2, rfl, hb2, hcell2⟩ := HSX.out.2.2 (by omega)
            obtain ⟨ck, ck'⟩ := hcell2 j hjl
            have hck := (hB4.cell (p := ⟨b2, o2 + j * 2, none⟩) hb2).trans ck
            have hck' := (hB4.cell (p := ⟨b2, o2 + j * 2 + 1, none⟩) hb2).trans ck'
            have hsl2 := HSL.out
            have hmem2 : (st[j]?.getD (0, 0)) ∈ st := by rw [List.getElem?_eq_getElem (by omega)]; exact List.getElem_mem _
            have hbad := HUSB.out _ hmem2
            unfold Bad at hbad
            have hrb := restI_bd (l := st) (z := mn) HUSB.out um0 (by omega) j (by omega)
            have hlt2 := left_take (st := st) (t := mn) (j := j) (by omega)
            have hri : restI st mn (j + 1) = restI st mn j - min (restI st mn j) (st[j]?.getD (0, 0)).1 := rfl
            have hm15 : (psAt zs k ++ ((En.left mn st).take j).map fun s => (k, s.1, s.2)).length < 15 := by rw [← hML2.out]; omega
            have hpsn : (psAt zs k ++ ((En.left mn st).take (j + 1)).map fun s => (k, s.1, s.2)) = (psAt zs k ++ ((En.left mn st).take j).map fun s => (k, s.1, s.2)) ++ [(k, (st[j]?.getD (0, 0)).1 - min (restI st mn j) (st[j]?.getD (0, 0)).1, (st[j]?.getD (0, 0)).2)] := by
              rw [hlt2, List.map_append, ← List.append_assoc]; rfl
            generalize hq1 : (st[j]?.getD (0, 0)).1 = q1 at *
            generalize hp1 : (st[j]?.getD (0, 0)).2 = p1 at *
            generalize hur : restI st mn j = ur at *
            have c1 : 0 ≤ min ur q1 := by omega
            have c2 : min ur q1 ≤ ur := by omega
            have c3 : min ur q1 ≤ q1 := by omega
            have c4 : ur ≤ 3000000 := by omega
            have c5 : q1 ≤ 1000000 := by omega
            have hb9 : Below wr.heap.size wr (wr.alloc (.cells #[.int .i64 q1, .int .i64 p1] 92)) := (Below.refl _ _).alloc (Nat.le_refl _) _
            have hPc9 := hPc4.below hb9
            have hRow9 := hRow4.below hb9
            have hgl4 : g + 1 < wr.heap.size := hPc4.lt
            have hgw : g + 1 ≠ wr.heap.size := by omega
            have hPc10 := hPc4.push hm15 k (q1 - min ur q1) p1
            rw [← hpsn] at hPc10
            obtain ⟨aa, bb, cc, r0, r1, r2, r3, r4, r5⟩ := hPc4.room hm15
            obtain ⟨aa', bb', cc', r0', r1', r2', r3', r4', r5'⟩ := hPc9.room hm15
            rw [← hML2.out] at r0 r1 r2 r3 r4 r5 r0' r1' r2' r3' r4' r5' hPc10
            have hB5 := ((hB4.setCell (p := ⟨g + 1, m' * 3, none⟩) (by simp; omega) (.int .i64 (k : Int))).setCell (p := ⟨g + 1, m' * 3 + 1, none⟩) (by simp; omega) (.int .i64 (q1 - min ur q1))).setCell (p := ⟨g + 1, m' * 3 + 2, none⟩) (by simp; omega) (.int .i64 p1)
            have hRow5 := ((Blk.far hRow4 (p := ⟨g + 1, m' * 3, none⟩) (by simp) (.int .i64 (k : Int))).far (p := ⟨g + 1, m' * 3 + 1, none⟩) (by simp) (.int .i64 (q1 - min ur q1))).far (p := ⟨g + 1, m' * 3 + 2, none⟩) (by simp) (.int .i64 p1)
            have hfin : AlS w g zs k mn st (j + 1) ((((wr.setCell ⟨g + 1, m' * 3, none⟩ (.int .i64 (k : Int))).setCell ⟨g + 1, m' * 3 + 1, none⟩ (.int .i64 (q1 - min ur q1))).setCell ⟨g + 1, m' * 3 + 2, none⟩ (.int .i64 p1)).alloc (.cells #[.int .i64 q1, .int .i64 p1] 92)) :=
              ⟨hB5.alloc hB5.size _, IRow.alloc hRow5 _, hPc10.below ((Below.refl _ _).alloc (Nat.le_refl _) _)⟩
            have hml3 : m' + 1 = (psAt zs k ++ ((En.left mn st).take (j + 1)).map fun s => (k, s.1, s.2)).length := by
              rw [hpsn, List.length_append, ← hML2.out]; rfl
            have hmi : (0 : Int) ≤ (m' : Int) ∧ (m' : Int) < 15 := by omega
            obtain ⟨hmi1, hmi2⟩ := hmi
            have hSb := Blk.new wr 92 #[.int .i64 q1, .int .i64 p1]
            have hb2r : b2 < wr.heap.size := Nat.lt_of_lt_of_le hb2 hB4.size
            have HF := Lib.hid hfin
            have HM := Lib.hid hml3
            have HRI := Lib.hid hri
            clear hfin hml3 hri hpsn hlt2 hq1 hp1 hur hPc10 hPc9 hRow9 hPc4 hRow4 hB5 hRow5 hb9 hB4 hR2 hML2 hcell2 ck ck' hsl2 hmem2 hbad hrb hm15 hon hon9 hSb
            go_wp2
            go_roundw
            case rel => exact ⟨j + 1, m' + 1, by omega, by omega, by go_num, by go_num, by rw [HRI.out], HM.out, HF.out⟩
            case measure => simp [intOf]; omega
          · obtain rfl : j = n' := by omega
            have hta : (En.left mn st).take j = En.left mn st := List.take_of_length_le (by rw [left_len, HSL.out]; exact Nat.le_refl _)
            have hpe : psAt zs (k + 1) = psAt zs k ++ ((En.left mn st).take j).map fun s => (k, s.1, s.2) := by
              rw [psAt_on hlenz HON2.out, HZK2.out, hta]
            have hfin : AlR w g zs (k + 1) wr := by
              obtain ⟨hB4, hRow4, hPc4⟩ := hR2.out
              exact ⟨hB4, hRow4, by rw [hpe]; exact hPc4⟩
            have hml3 : m' = (psAt zs (k + 1)).length := by rw [hpe]; exact hML2.out
            have HF := Lib.hid hfin
            have HM := Lib.hid hml3
            clear hfin hml3 hpe hta hR2 hML2 hon hon9
            go_wp2
            go_roundw
            case rel => exact ⟨k + 1, m', by omega, by omega, by go_num, rfl, HM.out, HF.out⟩
            case measure => simp [intOf]; omega
    · obtain rfl : k = n := by omega
      obtain ⟨hB, hRow, hPc⟩ := hR.out
      have htk : zs.take k = zs := List.take_of_length_le (by have := HZL.out; omega)
      have hrow0 : rowAt zs k = zs.map PU.dn := by have := rowAt_all zs; rwa [HZL.out] at this
      have hps0 : psAt zs k = En.pieces 0 zs := by unfold psAt; rw [htk]
      have hmi : (0 : Int) ≤ (m : Int) ∧ (m : Int) ≤ 15 := by omega
      obtain ⟨hmi1, hmi2⟩ := hmi
      have HPS0 := Lib.hid hps0
      have HROW0 := Lib.hid hrow0
      clear htk hrow0 hps0
      have hblk : g + 1 < wr.heap.size := hPc.lt
      have hne1 : g ≠ wr.heap.size := by omega
      have hne2 : wr.heap.size ≠ g + 1 := by omega
      have hb9 : Below wr.heap.size wr (wr.alloc (.cells #[.slice (some ⟨g + 1, 0, none⟩) m 15] 108)) := (Below.refl _ _).alloc (Nat.le_refl _) _
      have hBox := Blk.new wr 108 #[.slice (some ⟨g + 1, 0, none⟩) m 15]
      have hBw := hB.alloc hB.size (.cells #[.slice (some ⟨g + 1, 0, none⟩) m 15] 108)
      have hRow9 := hRow.below hb9
      have hPc9 := hPc.below hb9
      have hT := esort (g + 1) 15 wr.heap.size (psAt zs k) (wr.alloc (.cells #[.slice (some ⟨g + 1, 0, none⟩) m 15] 108)) hPc9.holds (by rw [World.size_alloc]; omega) (by rw [← hML.out]; exact hBox.cell 0) (by rw [World.size_alloc]; omega) hne2 (by rw [← hML.out]; omega)
      rw [← hML.out] at hT
      have HT := Lib.hid hT
      clear hT hR hB hRow hPc hPc9 hb9
      go_wp2_with fail
      refine HT.out.mono ?_
      rintro e w2 ⟨rfl, ps, hperm, hsort, hH, hgrow⟩
      have hsz2 := hgrow.size
      rw [World.size_alloc] at hsz2
      have hB2 : Below w.heap.size w w2 := grown_below hBw hgrow (by omega) (by rw [World.size_alloc]; omega)
      have hRow2 : IRow w2 g (rowAt zs k) := grown_blk hgrow hRow9 (by omega)
      have hBox2 := grown_blk hgrow hBox hne2
      have hPcH : PcH w2 (g + 1) ps := PcH.of (by omega) hH
      have hpl : ps.length = m := by rw [hperm.length_eq]; exact hML.out.symm
      rw [HPS0.out] at hperm
      rw [HROW0.out] at hRow2
      have hopt := En.fill_opt (zs := zs) (f := f) (ps := ps) HAO2.out hperm hsort (by rw [HSL2.out]; exact h1) (by rw [HSU2.out]; exact h2)
      rw [HSL2.out] at hopt
      have hunit : ∀ p ∈ ps, p.1 < k ∧ 0 ≤ p.2.1 := fun p hp => by
        have a1 := (En.pieces_unit zs 0 p (hperm.mem_iff.1 hp)).2
        rw [HZL.out] at a1
        exact ⟨by omega, En.pieces_nonneg zs 0 HAO2.out p (hperm.mem_iff.1 hp)⟩
      have hst : FlR w g k ps (En.fill ps (f - rmin (us.zip bs)) (zs.map PU.dn)) 0 (f - rmin (us.zip bs)) (zs.map PU.dn) w2 :=
        ⟨hB2, hRow2, hPcH, by rw [List.length_map]; exact HZL.out, rfl, HDB.out⟩
      generalize En.fill ps (f - rmin (us.zip bs)) (zs.map PU.dn) = fin at *
      have HFO := Lib.hid hopt
      have HUN := Lib.hid hunit
      have HPL := Lib.hid hpl
      have HST1 := Lib.hid hst
      have hbx := hBox2.cell 0
      have q3 : 0 ≤ f - rmin (us.zip bs) := by omega
      have q4 : f - rmin (us.zip bs) ≤ 15000000 := by omega
      clear hst hpl hunit hopt hPcH hRow2 hB2 hH hperm hsort HT hBw hRow9 hgrow hBox
      go_wp2_with fail
      generalize f - rmin (us.zip bs) = r0 at *
      generalize zs.map PU.dn = xs0 at *
      clear hbx
      go_loopw [21, 106] (fun t21 t wq => ∃ (j : Nat) (r : Int) (xs : List Int), j ≤ m ∧ 0 ≤ r ∧ r ≤ 15000000 ∧ t = .int .i64 j ∧ t21 = .int .i64 r ∧ Hid (FlR w g k ps fin j r xs wq)) (fun _ t _ => m - (intOf t).toNat)
      case atStart => exact ⟨0, r0, xs0, Nat.zero_le _, q3, q4, rfl, rfl, HST1.out⟩
      case round =>
        clear HST1
        obtain ⟨j, r, xs, hj, hr0, hr1, rfl, rfl, hF⟩ := hrel
        by_cases hjl : j < m
        · obtain ⟨hB, hRow, hPc, hxl, hfl, hxb⟩ := hF.out
          have hpl := HPL.out
          obtain ⟨c0, c1, c2⟩ := hPc.2 j (by omega)
          have hmemp : (ps[j]?.getD (0, 0, 0)) ∈ ps := by rw [List.getElem?_eq_getElem (by omega)]; exact List.getElem_mem _
          obtain ⟨pu, pq⟩ := HUN.out _ hmemp
          rw [drop_consP (by omega)] at hfl
          generalize ps[j]?.getD (0, 0, 0) = p at *
          obtain ⟨u, q, pr⟩ := p
          simp only at c0 c1 c2 pu pq hfl
          rw [En.fill] at hfl
          simp only at hfl
          have hxu := hxb u pu
          have hrc := hRow.cell (i := u) (by omega)
          have hrf := hRow.frozen u
          have hset := hRow.set u (xs[u]?.getD 0 + min r q)
          have hgl : g + 1 < wr.heap.size := hPc.1
          have m1 : 0 ≤ min r q := by omega
          have m2 : min r q ≤ r := by omega
          have hxb' : ∀ i, i < k → 0 ≤ (xs.set u (xs[u]?.getD 0 + min r q))[i]?.getD 0 ∧ (xs.set u (xs[u]?.getD 0 + min r q))[i]?.getD 0 ≤ 15000000 * ((j + 1 : Nat) + 1) := by
            intro i hi
            rw [En.set_get _ _ _ _ (by omega)]
            have := hxb i hi
            by_cases hui : u = i
            · subst hui; rw [if_pos rfl]; omega
            · rw [if_neg hui]; omega
          generalize hxv : xs[u]?.getD 0 = xu at *
          have hfin : FlR w g k ps fin (j + 1) (r - min r q) (xs.set u (xu + min r q)) ((wr.setCell ⟨g, u, none⟩ (.int .i64 (xu + min r q))).alloc (.cells #[.int .i64 (u : Int), .int .i64 q, .int .i64 pr] 106)) := by
            have hBs := hB.setCell (p := ⟨g, u, none⟩) hg0 (.int .i64 (xu + min r q))
            exact ⟨hBs.alloc hBs.size _, hset.alloc _, (hPc.far (p := ⟨g, u, none⟩) (by simp) _).alloc _, by rw [List.length_set]; exact hxl, hfl, hxb'⟩
          have HF := Lib.hid hfin
          have x1 : 0 ≤ xu := by omega
          have x2 : xu ≤ 300000000 := by omega
          have hui1 : (0 : Int) ≤ (u : Int) := by omega
          have hui2 : (u : Int) < (k : Int) := by omega
          have hji1 : (0 : Int) ≤ (j : Int) := by omega
          have hji2 : (j : Int) < (m : Int) := by omega
          have hgw : g ≠ wr.heap.size := by omega
          have hgl0 : g < wr.heap.size := by omega
          clear hfin hxb' hxb hset hfl hxv hRow hPc hB hF hmemp hpl hxl hxu
          go_wp2
          go_roundw
          case rel => exact ⟨j + 1, r - min r q, _, by omega, by omega, by omega, by go_num, rfl, HF.out⟩
          case measure => simp [intOf]; omega
        · obtain rfl : j = m := by omega
          obtain ⟨hB, hRow, hPc, hxl, hfl, hxb⟩ := hF.out
          rw [List.drop_of_length_le (by rw [HPL.out]; exact Nat.le_refl _), En.fill] at hfl
          have HFL := Lib.hid hfl
          clear hfl hxb hF
          go_wp2
          go_ret2
          exact ⟨g, xs, rfl, hRow, hxl, by rw [HZS.out, HFL.out]; exact HFO.out, hg0, hB⟩

end Go.Proofs.YthpldmlpononhaaGreat
