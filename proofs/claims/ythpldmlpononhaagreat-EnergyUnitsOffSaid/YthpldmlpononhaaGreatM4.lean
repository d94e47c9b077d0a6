/-
The statement EnergyUnitsOff: its cases joined. No statement of the seat is proved here; no conditions beyond those of each theorem.
-/
import Derived.Test.YthpldmlpononhaaGreatM3
namespace Go.Proofs.YthpldmlpononhaaGreat
set_option linter.unusedVariables false
set_option linter.unusedSimpArgs false
open Go.RowKit
open Wd
open En (Pc PU)

theorem off_any (A B : Option Addr) (n c m d : Nat) (us : List Un) (bs : List Bool) (f : Int) (bus mn up dn start idle spin on : Int) (A' : Option Addr) (n' c' : Nat) (l : List (Int × Int)) (k : Nat) (hk : k < 256) (w : World) (h : UsRaw w A n us) (h' : BsAt w B m bs) (hs : StAt w A' n' l) (hnc : n ≤ c) (hmd : m ≤ d) : Calls Tryz.prog 15 #[.slice A n c, .slice B m d, .int .i64 f, .agg #[.int .i64 bus, .int .i64 mn, .slice A' n' c', .int .i64 up, .int .i64 dn, .int .i64 start, .int .i64 idle, .int .i64 spin, .int .i64 on], .int .u8 (k : Int)] w fun e w' => e = .returned (.bool true) ∧ Below w.heap.size w w' := by
  cases hlg : longB us m with
  | true => exact off_long A B n c m d us bs f bus mn up dn start idle spin on A' n' c' l k hk w h h' hs hlg
  | false =>
    cases hlg2 : longB [⟨bus, mn, l, up, dn, start, idle, spin, on⟩] 0 with
    | true => exact off_long2 A B n c m d us bs f bus mn up dn start idle spin on A' n' c' l k hk w h h' hs hlg hlg2
    | false =>
      by_cases h5 : 5 ≤ n
      · exact off_many A B n c m d us bs f bus mn up dn start idle spin on A' n' c' l k hk w h h' hs hlg hlg2 h5
      · by_cases hc : uchk ⟨bus, mn, l, up, dn, start, idle, spin, on⟩ = 0
        · by_cases he : echk us m = 0
          · exact off_good A B n c m d us bs f bus mn up dn start idle spin on A' n' c' l k hk w h h' hs hlg hlg2 (by omega) hc he hnc hmd
          · exact off_check A B n c m d us bs f bus mn up dn start idle spin on A' n' c' l k hk w h h' hs hlg hlg2 (by omega) hc he
        · exact off_unit A B n c m d us bs f bus mn up dn start idle spin on A' n' c' l k hk w h h' hs hlg hlg2 (by omega) hc

end Go.Proofs.YthpldmlpononhaaGreat
