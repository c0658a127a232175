/- A part of the proof that the law FnTexts answers true at every input that its row speaks of. Conditions: the row's own. -/
import Derived.Test.YtbfbomcfmgdpkaaGreatDoorKFnTexts0
section
namespace Go.Proofs.YtbfbomcfmgdpkaaGreatDoor.G
open Go.RowKit Go.Proofs.YtbfbomcfmgdpkaaGreatDoorW.PrintWords Go.Proofs.YtbfbomcfmgdpkaaGreatDoorW.PrintLast Go.Proofs.YtbfbomcfmgdpkaaGreatDoorW.PrintMore
attribute [local go_sem] max2_int min2_int max_two min_two max_three min_three max_four min_four
attribute [local go_sem high] Go.Proofs.YtbfbomcfmgdpkaaGreatDoor.G.str_gtr Go.Proofs.YtbfbomcfmgdpkaaGreatDoor.G.str_leq Go.Proofs.YtbfbomcfmgdpkaaGreatDoor.G.str_geq
set_option linter.unusedVariables false
set_option linter.unusedSimpArgs false
def impl_NameOk_1.f (a0 : Int) : Option (Bool) := (impl_isLower.f a0).bind fun t498 => (if t498 = true then (some true) else ((impl_isDigit.f a0).bind fun t499 => (if t499 = true then (some true) else (if a0 = 46 then (some true) else (if a0 = 95 then (some true) else (some (a0 == 45)))))))
def impl_all__impl_NameOk_1.l0 : Nat → ByteArray → Int → Int → Option (Bool)
 | 0, _, _, _ => none
 | k + 1, x0, x7, x8 => if x8 < x7 then (if 0 ≤ x8 then (if x8 < (x0.size : Int) then ((impl_NameOk_1.f (bt x0 x8)).bind fun t500 => (if t500 = true then (impl_all__impl_NameOk_1.l0 k x0 x7 (wrap64 (x8 + 1))) else (some false))) else (none)) else (none)) else (some true)
def impl_all__impl_NameOk_1.f (k : Nat) (a0 : ByteArray)  : Option (Bool) := impl_all__impl_NameOk_1.l0 k a0 (a0.size : Int) 0
def impl_NameOk.l0 : Nat → ByteArray → Bool → List ByteArray → Int → Int → Option (Bool)
 | 0, _, _, _, _, _ => none
 | k + 1, x0, x3, x10, x11, x12 => if x12 < x11 then (if 0 ≤ x12 then (if x12 < (x10.length : Int) then (if (rdOf ByteArray.empty x10 x12).toList = ([] : List UInt8) then (some false) else (if (rdOf ByteArray.empty x10 x12).toList = ([110, 111, 100, 101, 95, 109, 111, 100, 117, 108, 101, 115] : List UInt8) then (if x3 = true then (if x12 = 0 then ((impl_all__impl_NameOk_1.f k (rdOf ByteArray.empty x10 x12)).bind fun t507 => (if t507 = true then (impl_NameOk.l0 k x0 x3 x10 x11 (wrap64 (x12 + 1))) else (some false))) else (some false)) else (some false)) else ((impl_all__impl_NameOk_1.f k (rdOf ByteArray.empty x10 x12)).bind fun t508 => (if t508 = true then (impl_NameOk.l0 k x0 x3 x10 x11 (wrap64 (x12 + 1))) else (some false))))) else (none)) else (none)) else (some (decide ((x0.size : Int) ≤ 60)))
def impl_NameOk.f (k : Nat) (a0 : ByteArray) : Option (Bool) := (strings_HasPrefix.f a0 (⟨#[64]⟩ : ByteArray)).bind fun t501 => ((strings_TrimPrefix.f a0 (⟨#[64]⟩ : ByteArray)).bind fun t502 => ((strings_Split.f t502 (⟨#[47]⟩ : ByteArray)).bind fun t503 => (impl_NameOk.l0 k a0 t501 t503 (t503.length : Int) 0)))
def spec_l01Letter.f (a0 : Int) : Option (Bool) := (spec_l01In.f (wrap64 (a0)) 97 122).bind fun t509 => (if t509 = true then (some true) else ((spec_l01In.f (wrap64 (a0)) 48 57).bind fun t510 => (some t510)))
mutual
def spec_NameOk.l0 : Nat → ByteArray → List ByteArray → Int → Option (Bool)
 | 0, _, _, _ => none
 | k + 1, x0, x3, x4 => if x4 < (x3.length : Int) then (if 0 ≤ x4 then (if (rdOf ByteArray.empty x3 x4).toList = ([110, 111, 100, 101, 95, 109, 111, 100, 117, 108, 101, 115] : List UInt8) then (some false) else (if x4 = 0 then (if ((rdOf ByteArray.empty x3 x4).size : Int) > 0 then (if 0 < ((rdOf ByteArray.empty x3 x4).size : Int) then (spec_NameOk.j1 k x0 x3 x4 (rdOf ByteArray.empty x3 x4) ((bt (rdOf ByteArray.empty x3 x4) 0) == 64)) else (none)) else (spec_NameOk.j1 k x0 x3 x4 (rdOf ByteArray.empty x3 x4) false)) else (spec_NameOk.j1 k x0 x3 x4 (rdOf ByteArray.empty x3 x4) false))) else (none)) else (some (decide ((x0.size : Int) ≤ 60)))
def spec_NameOk.j1 : Nat → ByteArray → List ByteArray → Int → ByteArray → Bool → Option (Bool)
 | 0, _, _, _, _, _ => none
 | k + 1, x0, x3, x4, x5, x32 => if x32 = true then (if 1 ≤ (x5.size : Int) then (spec_NameOk.j2 k x0 x3 x4 (x5.extract 1 x5.size)) else (none)) else (spec_NameOk.j2 k x0 x3 x4 x5)
def spec_NameOk.j2 : Nat → ByteArray → List ByteArray → Int → ByteArray → Option (Bool)
 | 0, _, _, _, _ => none
 | k + 1, x0, x3, x4, x5 => spec_NameOk.l1 k x0 x3 x4 x5 0
def spec_NameOk.l1 : Nat → ByteArray → List ByteArray → Int → ByteArray → Int → Option (Bool)
 | 0, _, _, _, _, _ => none
 | k + 1, x0, x3, x4, x5, x6 => if x6 < (x5.size : Int) then (if 0 ≤ x6 then ((spec_l01Letter.f (bt x5 x6)).bind fun t515 => (if t515 = true then (spec_NameOk.l1 k x0 x3 x4 x5 (wrap64 (x6 + 1))) else (if (bt x5 x6) = 46 then (spec_NameOk.l1 k x0 x3 x4 x5 (wrap64 (x6 + 1))) else (if (bt x5 x6) = 95 then (spec_NameOk.l1 k x0 x3 x4 x5 (wrap64 (x6 + 1))) else (if (bt x5 x6) = 45 then (spec_NameOk.l1 k x0 x3 x4 x5 (wrap64 (x6 + 1))) else (some false)))))) else (none)) else (if x5.toList = ([] : List UInt8) then (some false) else (spec_NameOk.l0 k x0 x3 (wrap64 (x4 + 1))))
end
def spec_NameOk.f (k : Nat) (a0 : ByteArray) : Option (Bool) := (spec_l01Cut.f k a0 47).bind fun t511 => (spec_NameOk.l0 k a0 t511 0)
def impl_PlainOk_1.f (a0 : Int) : Option (Bool) := if a0 ≥ 33 then (if a0 ≤ 126 then (if a0 = 34 then (some false) else (if a0 = 39 then (some false) else (if a0 = 44 then (some false) else (some (a0 != 92))))) else (some false)) else (some false)
def impl_all__impl_PlainOk_1.l0 : Nat → ByteArray → Int → Int → Option (Bool)
 | 0, _, _, _ => none
 | k + 1, x0, x7, x8 => if x8 < x7 then (if 0 ≤ x8 then (if x8 < (x0.size : Int) then ((impl_PlainOk_1.f (bt x0 x8)).bind fun t516 => (if t516 = true then (impl_all__impl_PlainOk_1.l0 k x0 x7 (wrap64 (x8 + 1))) else (some false))) else (none)) else (none)) else (some true)
def impl_all__impl_PlainOk_1.f (k : Nat) (a0 : ByteArray)  : Option (Bool) := impl_all__impl_PlainOk_1.l0 k a0 (a0.size : Int) 0
def impl_PlainOk.f (k : Nat) (a0 : ByteArray) : Option (Bool) := if (a0.size : Int) ≤ 100 then ((impl_all__impl_PlainOk_1.f k a0).bind fun t517 => (some t517)) else (some false)
def spec_PlainOk.l0 : Nat → ByteArray → Int → Option (Bool)
 | 0, _, _ => none
 | k + 1, x0, x3 => if x3 < (x0.size : Int) then (if 0 ≤ x3 then ((spec_l01In.f (wrap64 (bt x0 x3)) 33 126).bind fun t518 => (if t518 = true then (if (bt x0 x3) = 34 then (some false) else (if (bt x0 x3) = 39 then (some false) else (if (bt x0 x3) = 44 then (some false) else (if (bt x0 x3) = 92 then (some false) else (spec_PlainOk.l0 k x0 (wrap64 (x3 + 1))))))) else (some false))) else (none)) else (if (x0.size : Int) ≤ 100 then (some (decide ((x0.size : Int) < 20000))) else (some false))
def spec_PlainOk.f (k : Nat) (a0 : ByteArray) : Option (Bool) := spec_PlainOk.l0 k a0 0
end Go.Proofs.YtbfbomcfmgdpkaaGreatDoor.G

end
