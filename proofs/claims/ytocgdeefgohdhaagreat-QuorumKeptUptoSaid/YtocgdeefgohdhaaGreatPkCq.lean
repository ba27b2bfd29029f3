/-
  Cq, Cr
-/
import Derived.Test.YtocgdeefgohdhaaGreatRows
import Derived.Test.YtocgdeefgohdhaaGreatPkCp
import Derived.Test.YtocgdeefgohdhaaGreatPkI
set_option linter.all false
set_option maxRecDepth 100000
set_option maxHeartbeats 4000000
namespace Go.Proofs.YtocgdeefgohdhaaGreat
attribute [local irreducible] RD RS St1 RL RA RT RT1 Run
def leE (a b:EntryC):Bool:= !decide (ltE b a)
def sortE (l:List EntryC):List EntryC:=l.mergeSort leE
theorem sortE_mem {l:List EntryC}{x:EntryC}:x∈sortE l↔x∈l:=List.mem_mergeSort
def DotU (l:List EntryC):Prop:=l.Pairwise fun a b=>a.dot≠b.dot
def insES (e:EntryC)(s:List EntryC×Bool)(x:EntryC):List EntryC×Bool:=if s.2=false∧ltE e x then(s.1++[e]++[x],true)else(s.1++[x],s.2)
def insXE (l:List EntryC)(e:EntryC)(i:Nat):List EntryC×Bool:=(l.take i).foldl (insES e) ([],false)
def insE (l:List EntryC)(e:EntryC):List EntryC:=if (insXE l e l.length).2 then(insXE l e l.length).1 else(insXE l e l.length).1++[e]
def insI (e:EntryC):List EntryC→List EntryC
 |[]=>[e]
 |x::t=>if ltE e x then e::x::t else x::insI e t
def kA (es:List EntryC)(ms2:List MarkC)(cl2:List DotC)(es2:List EntryC):List EntryC:=es.filter fun x=>decide (x∈es2)|| !decide (Cov ms2 cl2 x.dot)
def kB (ms:List MarkC)(cl:List DotC)(es2:List EntryC):List EntryC:=es2.filter fun x=> !decide (Cov ms cl x.dot)
def keptJ (ms:List MarkC)(cl:List DotC)(es:List EntryC)(ms2:List MarkC)(cl2:List DotC)(es2:List EntryC):List EntryC:=sortE (kA es ms2 cl2 es2++kB ms cl es2)
section
variable {ms ms2:List MarkC}{cl cl2:List DotC}{es es2:List EntryC}{x y:EntryC}{i:Nat}
theorem kA_sub (hx:x∈kA es ms2 cl2 es2):x∈es:=(List.mem_filter.1 hx).1
theorem kB_mem :x∈kB ms cl es2↔x∈es2∧¬Cov ms cl x.dot:=by simp[kB]
theorem kept_mem (hx:x∈keptJ ms cl es ms2 cl2 es2):x∈es∨x∈es2:=by
 rw[keptJ,sortE_mem,List.mem_append]at hx
 exact hx.elim (fun h=> .inl (kA_sub h)) (fun h=> .inr (kB_mem.1 h).1)
def Clash (es es2:List EntryC):Prop:=∃x∈es,∃y∈es2,x.dot=y.dot∧x≠y
open Classical in
noncomputable def joinC (ms:List MarkC)(cl:List DotC)(es:List EntryC)(ms2:List MarkC)(cl2:List DotC)(es2:List EntryC):Int×(List MarkC×List DotC)×List EntryC:=
 if canE ms cl es≠0 then(canE ms cl es,([],[]),[])else if canE ms2 cl2 es2≠0 then(canE ms2 cl2 es2,([],[]),[])
 else if (joinE ms cl ms2 cl2).1≠0 then((joinE ms cl ms2 cl2).1,([],[]),[])
 else if 64<(keptJ ms cl es ms2 cl2 es2).length∨32<itemsN (keptJ ms cl es ms2 cl2 es2)then(51,([],[]),[])
 else if Clash es es2 then(50,([],[]),[])else(0,(joinE ms cl ms2 cl2).2,keptJ ms cl es ms2 cl2 es2)
theorem joinC_from (hx:x∈(joinC ms cl es ms2 cl2 es2).2.2):x∈es∨x∈es2:=by
 unfold joinC at hx
 split at hx
 ·simp at hx
 ·split at hx
  ·simp at hx
  ·split at hx
   ·simp at hx
   ·split at hx
    ·simp at hx
    ·split at hx
     ·simp at hx
     ·exact kept_mem hx
end
attribute [local irreducible] mayD smD ltD ltM ordD mkN Cov CovR
attribute [local irreducible] ltE cmpE itemsN errE firstE canE canX Gr nameK priceN
attribute [local irreducible] insXE insE keptJ joinC joinE Clash
end Go.Proofs.YtocgdeefgohdhaaGreat
namespace Go.Proofs.YtocgdeefgohdhaaGreat
attribute [local irreducible] RD RS St1 RL RA RT RT1 Run
theorem EntB.kept {ms ms2:List MarkC}{cl cl2:List DotC}{es es2:List EntryC}(h:EntB es)(h2:EntB es2):EntB (joinC ms cl es ms2 cl2 es2).2.2:=fun x hx=>(joinC_from hx).elim (h x) (h2 x)
attribute [local irreducible] mayD smD ltD ltM ordD mkN Cov CovR
attribute [local irreducible] ltE cmpE itemsN errE firstE canE canX Gr nameK priceN
attribute [local irreducible] insXE insE keptJ joinC joinE Clash
end Go.Proofs.YtocgdeefgohdhaaGreat
