/-
  Cs
-/
import Derived.Test.YtocgdeefgohdhaaGreatRows
import Derived.Test.YtocgdeefgohdhaaGreatPkCq
import Derived.Test.YtocgdeefgohdhaaGreatPkI
set_option linter.all false
set_option maxRecDepth 100000
set_option maxHeartbeats 4000000
namespace Go.Proofs.YtocgdeefgohdhaaGreat
attribute [local irreducible] RD RS St1 RL RA RT RT1 Run
section
open Go.Shelf Go.RowKit Go.Lib Go.Sort
def cfE {ys:List EntryC}(x y:{e:EntryC//e∈ys}):Int:=ordE x.1 y.1
end
attribute [local irreducible] mayD smD ltD ltM ordD mkN Cov CovR
attribute [local irreducible] ltE cmpE itemsN errE firstE canE canX Gr nameK priceN
attribute [local irreducible] insXE insE keptJ joinC joinE Clash
attribute [local irreducible] kA kB
end Go.Proofs.YtocgdeefgohdhaaGreat
