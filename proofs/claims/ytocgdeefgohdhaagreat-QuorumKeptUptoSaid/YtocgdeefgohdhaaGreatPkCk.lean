/-
  Ck
-/
import Derived.Test.YtocgdeefgohdhaaGreatRows
import Derived.Test.YtocgdeefgohdhaaGreatPkCh
/-
  Carts, eleventh part: the program's contexts joined.
-/
namespace Go.Proofs.YtocgdeefgohdhaaGreat
attribute [local irreducible] St1 RL RA RT RT1 Run
attribute [local irreducible] mayD smD ltD ltM ordD mkN Cov CovR
attribute [local irreducible] setX insX setR insR normE joinE normX rnd Raw
attribute [local irreducible] growX setM insL mgX gwX uniq sortD marksOf
theorem en86 : Enters Tryz.prog 86 := enters_of Tryz.func86 rfl (by kernel_rfl)
end Go.Proofs.YtocgdeefgohdhaaGreat
