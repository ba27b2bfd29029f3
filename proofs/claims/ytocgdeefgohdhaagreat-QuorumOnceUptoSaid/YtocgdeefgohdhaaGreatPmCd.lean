/-
  Cd, Ce
-/
import Derived.Test.YtocgdeefgohdhaaGreatRows
import Derived.Test.YtocgdeefgohdhaaGreatPmCa
import Derived.Test.YtocgdeefgohdhaaGreatPmErr
import Derived.Test.YtocgdeefgohdhaaGreatPmI
set_option linter.all false
set_option maxRecDepth 100000
set_option maxHeartbeats 4000000
namespace Go.Proofs.YtocgdeefgohdhaaGreat
attribute [local irreducible] RD RS St1 RL RA RT RT1 Run
def rnd (ms:List MarkC)(ds:List DotC)(i:Nat):SS:=(ds.take i).foldl setlS ⟨ms,[],false⟩
theorem rnd_succ {ms:List MarkC}{ds:List DotC}{i:Nat}{d:DotC}(hd:ds[i]? =some d):rnd ms ds (i+1)=setlS (rnd ms ds i) d:=fold_at hd
theorem Raw.sub {ms:List MarkC}{ds:List DotC}{i:Nat}{d:DotC}(h:Raw ms (ds.take i) d):Raw ms ds d:=⟨h.1,h.2.elim .inl (fun h2=> .inr (List.mem_of_mem_take h2))⟩
theorem Round.len {M ms:List MarkC}{D ds:List DotC}{s:SS}{i:Nat}(h:Round ms ds s i)(hS:Settl M D ms ds):s.ms.length+s.left.length≤M.length+D.length:=by
 have:=h.hlen;have:=hS.hl;have:(ds.take i).length≤ds.length:=by rw[List.length_take];omega
 omega
theorem Round.up {M ms:List MarkC}{D ds:List DotC}{i:Nat}{d:DotC}(h:Round ms ds (rnd ms ds i) i)(hS:Settl M D ms ds)(hd:ds[i]? =some d):Round ms ds (rnd ms ds (i+1)) (i+1):=by
 rw[rnd_succ hd];exact h.step hd (hS.hd d (mem_of_at hd))
attribute [local irreducible] mayD smD ltD ltM ordD mkN Cov CovR
attribute [local irreducible] setX insX setR insR normE joinE normX rnd Raw
end Go.Proofs.YtocgdeefgohdhaaGreat
namespace Go.Proofs.YtocgdeefgohdhaaGreat
attribute [local irreducible] RD RS St1 RL RA RT RT1 Run
theorem take_all {α:Type}{xs:List α}{i:Nat}(h:xs.length≤i):xs.take i=xs:=List.take_of_length_le h
theorem normE_eq {M:List MarkC}{D:List DotC}(hM:∀m∈M,mayD m.d)(hD:∀d∈D,mayD d):(64<(normX M D).1.length∨64<(normX M D).2.length→normE M D=(4,[],[]))∧(¬(64<(normX M D).1.length∨64<(normX M D).2.length)→normE M D=(0,(normX M D).1,(normX M D).2)):=
 ⟨fun h=>normE_long hM hD rfl h,fun h=>normE_ok hM hD rfl (by omega) (by omega)⟩
theorem may_pos {M:List MarkC}{D:List DotC}(hM:∀m∈M,mayD m.d)(hD:∀d∈D,mayD d):(∀m∈M,1≤m.count)∧∀d∈D,1≤d.count:=⟨fun m hm=>(hM m hm).pos,fun d hd=>(hD d hd).pos⟩
attribute [local irreducible] mayD smD ltD ltM ordD mkN Cov CovR
attribute [local irreducible] setX insX setR insR normE joinE normX rnd Raw
end Go.Proofs.YtocgdeefgohdhaaGreat
