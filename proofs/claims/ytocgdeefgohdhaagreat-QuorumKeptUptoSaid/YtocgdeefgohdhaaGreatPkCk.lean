/-
  Ck
-/
import Derived.Test.YtocgdeefgohdhaaGreatRows
import Derived.Test.YtocgdeefgohdhaaGreatPkCh
import Derived.Test.YtocgdeefgohdhaaGreatPkI
set_option linter.all false
set_option maxRecDepth 100000
set_option maxHeartbeats 4000000
namespace Go.Proofs.YtocgdeefgohdhaaGreat
attribute [local irreducible] RD RS St1 RL RA RT RT1 Run
attribute [local irreducible] mayD smD ltD ltM ordD mkN Cov CovR
attribute [local irreducible] setX insX setR insR normE joinE normX rnd Raw
attribute [local irreducible] growX setM insL mgX gwX uniq sortD marksOf
end Go.Proofs.YtocgdeefgohdhaaGreat
