/-
  Tail
-/
import Derived.Test.YtjkaicjmfgekjaaGreatDoorPkLoop
import Derived.ArgAppend
set_option linter.all false
namespace Go.Proofs.YtjkaicjmfgekjaaGreatDoor
def FA {α:Type}[Enc α](w:World)(T:TypeId)(a:Option Addr)(cap:Nat)(xs:List α):Prop:=
 (a=none∧cap=0∧xs=[])∨∃g off cur,a=some ⟨g,off,none⟩∧w.heap[g]? =some (.cells cur T (0,0))∧xs.length<=cap∧cap<=maxLen∧off+cap*Enc.size α<=cur.size∧∀(j:Nat) v,(AM xs)[j]? =some v->cur[off+j]? =some v
section
variable {α :Type}[Enc α]{w w':World}{T:TypeId}{a:Option Addr}{cap:Nat}{xs:List α}{S:Nat->Prop}
theorem FA.nil (w:World)(T:TypeId):FA w T none 0 ([]:List α):= .inl ⟨rfl,rfl,rfl⟩
theorem FA.sl (h:FA w T a cap xs):Av w a xs:=by
 rcases h with⟨_,_,rfl⟩|⟨g,off,cur,h1,h2,h3,h4,h5,h6⟩
 ·exact .inl rfl
 ·exact .inr ⟨g,off,h1,cur,T,(0,0),h2,h6⟩
theorem FA.le_cap (h:FA w T a cap xs):xs.length<=cap:=by
 rcases h with⟨_,_,rfl⟩|⟨g,off,cur,h1,h2,h3,_⟩
 ·simp
 ·exact h3
theorem FA.oL (h:FA w T a cap xs):∀q,own a q->q<w.heap.size:=fun q hq=>by
 rcases h with⟨rfl,_,_⟩|⟨g,off,cur,rfl,h2,_⟩
 ·exact absurd hq (Ae q)
 ·obtain⟨x,hx,rfl⟩:=hq;simp only[Option.some.injEq]at hx;subst hx;exact Cr h2
theorem FA.kO (h:FA w T a cap xs)(k:Ad S w w')(hn:∀q,own a q->¬S q):FA w' T a cap xs:=by
 rcases h with h|⟨g,off,cur,h1,h2,h3⟩
 ·exact .inl h
 ·exact .inr ⟨g,off,cur,h1,(k.block g (Cr h2) (hn g ⟨_,h1,rfl⟩)).trans h2,h3⟩
theorem FA.ext (h:FA w T a cap xs)(k:Ap w w'):FA w' T a cap xs:=h.kO k fun _ _=>id
def gB (cur:Array Value):Nat->List Value->Array Value
 |_,[]=>cur
 |o,v::r=>gB (cur.setIfInBounds o v) (o+1) r
end
section
variable {P :Program}{w:World}{α:Type}[Enc α]
end
section
variable {P :Program}{f:FuncId}{n:FN}{R:Ending->World->Prop}{k:List Item}{ρ:A8}{w:World}
variable {dst :Option Nat}{ty:TypeId}{pos:String}{af:Array Edge}{α:Type}[Enc α]{K:A8->World->Prop}
end
end Go.Proofs.YtjkaicjmfgekjaaGreatDoor
