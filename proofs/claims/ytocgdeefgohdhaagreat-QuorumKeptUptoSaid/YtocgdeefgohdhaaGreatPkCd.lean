/-
  Cd, Ce
-/
import Derived.Test.YtocgdeefgohdhaaGreatRows
import Derived.Test.YtocgdeefgohdhaaGreatPkCa
import Derived.Test.YtocgdeefgohdhaaGreatPkErr
import Derived.Test.YtocgdeefgohdhaaGreatPkI
set_option linter.all false
set_option maxRecDepth 100000
set_option maxHeartbeats 4000000
namespace Go.Proofs.YtocgdeefgohdhaaGreat
attribute [local irreducible] RD RS St1 RL RA RT RT1 Run
def rnd (ms:List MarkC)(ds:List DotC)(i:Nat):SS:=(ds.take i).foldl setlS ⟨ms,[],false⟩
theorem Raw.sub {ms:List MarkC}{ds:List DotC}{i:Nat}{d:DotC}(h:Raw ms (ds.take i) d):Raw ms ds d:=⟨h.1,h.2.elim .inl (fun h2=> .inr (List.mem_of_mem_take h2))⟩
theorem Round.len {M ms:List MarkC}{D ds:List DotC}{s:SS}{i:Nat}(h:Round ms ds s i)(hS:Settl M D ms ds):s.ms.length+s.left.length≤M.length+D.length:=by
 have:=h.hlen;have:=hS.hl;have:(ds.take i).length≤ds.length:=by rw[List.length_take];omega
 omega
attribute [local irreducible] mayD smD ltD ltM ordD mkN Cov CovR
attribute [local irreducible] setX insX setR insR normE joinE normX rnd Raw
end Go.Proofs.YtocgdeefgohdhaaGreat
namespace Go.Proofs.YtocgdeefgohdhaaGreat
attribute [local irreducible] RD RS St1 RL RA RT RT1 Run
attribute [local irreducible] mayD smD ltD ltM ordD mkN Cov CovR
attribute [local irreducible] setX insX setR insR normE joinE normX rnd Raw
end Go.Proofs.YtocgdeefgohdhaaGreat
