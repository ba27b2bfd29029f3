/-
  Bits
-/
import Derived.Test.YtocgdeefgohdhaaGreatPkSteps
import Derived.Laws.BitsAllLaws
import Derived.Laws.Unary
set_option linter.all false
namespace Go.Proofs.YtocgdeefgohdhaaGreat
def KM :IntKind→Nat
 | .i8=>2^7| .i16=>2^15| .i32=>2^31| .i64=>2^63| .u8=>2^8| .u16=>2^16| .u32=>2^32| .u64=>2^64
def KB :IntKind→Nat
 | .i8=>7| .i16=>15| .i32=>31| .i64=>63| .u8=>8| .u16=>16| .u32=>32| .u64=>64
section
variable {P :Program}{n:FN}{ρ:Regs}{w:World}
variable {dst :Option Nat}{ty:TypeId}{pos:String}{af:Array Edge}{g:Option (Nat×Bool)}
variable {t t':TypeId}{x y:Operand}{kd kd':IntKind}{a b:Nat}
end
end Go.Proofs.YtocgdeefgohdhaaGreat
