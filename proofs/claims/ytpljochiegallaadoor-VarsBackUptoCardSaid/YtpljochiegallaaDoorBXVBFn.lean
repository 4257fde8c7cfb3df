-- WRITTEN BY xprint.py, a program of this session (over the kit's print)
import Derived.Test.YtpljochiegallaaDoorBXVBx0
import Derived.Test.YtpljochiegallaaDoorBXVBx2
import Derived.Test.YtpljochiegallaaDoorBXVBx4
import Derived.Test.YtpljochiegallaaDoorBXVBx6
import Derived.Test.YtpljochiegallaaDoorBXVBx7
import Derived.Test.YtpljochiegallaaDoorBXVBx11
import Derived.Test.YtpljochiegallaaDoorBXVBx12
namespace Go.Proofs.YtpljochiegallaaDoor.XVB
open Go.RowKit Go.Proofs.YtpljochiegallaaDoorW.PrintWords Go.Proofs.YtpljochiegallaaDoorW.PrintLast Go.Proofs.YtpljochiegallaaDoorW.PrintMore
attribute [local go_sem] max2_int min2_int max_two min_two max_three min_three max_four min_four   -- for this text's walks alone
set_option linter.unusedVariables false
set_option linter.unusedSimpArgs false

/-! ### cowrielaw20_VarsBack: function 4 -/
def cowrielaw20_VarsBack.j0 : Nat → ByteArray → ByteArray → ByteArray → Int → Bool → List (S53) → List ByteArray → Int → List (S53) → List ByteArray → Int → Option (Bool)
  | 0, _, _, _, _, _, _, _, _, _, _, _ => none
  | k + 1, x1, x2, x3, x10, x37, x272000, x272001, x272002, x289000, x289001, x289002 => if x37 = true then ((cowrielaw20_num.f x10).bind fun t291 => (if t291 = 0 then (some true) else (some ((x289000.length : Int) == 0)))) else ((vars_Text.f k x289000 x289001 x289002 x1).bind fun bt292 => ((vars_Unset.f x289000 x289001 x289002 x1).bind fun bt294 => ((vars_Text.f k bt294.1 bt294.2.1 bt294.2.2 x1).bind fun bt302 => ((vars_Text.f k x289000 x289001 x289002 x3).bind fun bt304 => ((cowrieref20_Text.f k x272000 x272001 x272002 x3).bind fun bt306 => (if bt292.2 = true then (if bt292.1.toList = x2.toList then (if bt302.2 = true then (some false) else (if x3.toList = x1.toList then ((vars_Check.f x289000 x289001 x289002).bind fun t308 => ((cowrielaw20_num.f t308).bind fun t309 => (if t309 = 0 then ((vars_Check.f bt294.1 bt294.2.1 bt294.2.2).bind fun t310 => ((cowrielaw20_num.f t310).bind fun t311 => (some (t311 == 0)))) else (some false)))) else (if bt304.1.toList = bt306.1.toList then (if (bt304.2 == bt306.2) = true then ((vars_Check.f x289000 x289001 x289002).bind fun t312 => ((cowrielaw20_num.f t312).bind fun t313 => (if t313 = 0 then ((vars_Check.f bt294.1 bt294.2.1 bt294.2.2).bind fun t314 => ((cowrielaw20_num.f t314).bind fun t315 => (some (t315 == 0)))) else (some false)))) else (some false)) else (some false)))) else (some false)) else (some false)))))))
def cowrielaw20_VarsBack.f (k : Nat) (l0_0 : List (S53)) (l0_1 : List ByteArray) (a0_2 : Int) (a1 : ByteArray) (a2 : ByteArray) (a3 : ByteArray) : Option (Bool) := (cowrielaw20_alive.f k).bind fun t272 => (if t272 = true then ((cowrielaw20_Of.f k l0_0 l0_1 a0_2).bind fun bt273 => ((vars_Put.f k bt273.1 bt273.2.1 bt273.2.2 a1 a2).bind fun bt280 => ((cowrielaw20_num.f bt280.2.2.2).bind fun t289 => (if t289 = 0 then ((cowrieref20_Check.f k l0_0 l0_1 a0_2).bind fun t290 => (cowrielaw20_VarsBack.j0 k a1 a2 a3 bt280.2.2.2 (t290 != 0) l0_0 l0_1 a0_2 bt280.1 bt280.2.1 bt280.2.2.1)) else (cowrielaw20_VarsBack.j0 k a1 a2 a3 bt280.2.2.2 true l0_0 l0_1 a0_2 bt280.1 bt280.2.1 bt280.2.2.1))))) else (some false))
end Go.Proofs.YtpljochiegallaaDoor.XVB
