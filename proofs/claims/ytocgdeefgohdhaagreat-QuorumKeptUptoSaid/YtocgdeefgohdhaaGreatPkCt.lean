/-
  Ct
-/
import Derived.Test.YtocgdeefgohdhaaGreatRows
import Derived.Test.YtocgdeefgohdhaaGreatPkCs
import Derived.Test.YtocgdeefgohdhaaGreatPkI
set_option linter.all false
set_option maxRecDepth 100000
set_option maxHeartbeats 4000000
namespace Go.Proofs.YtocgdeefgohdhaaGreat
attribute [local irreducible] RD RS St1 RL RA RT RT1 Run
instance : Enc CartC:=Enc.struct (fun t=>[.slice ((t).entries.a) ((t).entries.len) ((t).entries.cap),.slice (((t).ctx).marks.a) (((t).ctx).marks.len) (((t).ctx).marks.cap),.slice (((t).ctx).cloud.a) (((t).ctx).cloud.len) (((t).ctx).cloud.cap)]) 3 (fun _=>rfl) (fun _ v hv=>by simp at hv;rcases hv with rfl|rfl|rfl<;>rfl) (by decide)
attribute [local irreducible] mayD smD ltD ltM ordD mkN Cov CovR
attribute [local irreducible] ltE cmpE itemsN errE firstE canE canX Gr nameK priceN
attribute [local irreducible] insXE insE keptJ joinC joinE Clash
attribute [local irreducible] kA kB
end Go.Proofs.YtocgdeefgohdhaaGreat
