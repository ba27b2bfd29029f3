/-
  Tail
-/
import Derived.Test.YtjkaicjmfgekjaaGreatDoorPcLoop
import Derived.ArgAppend
set_option linter.all false
namespace Go.Proofs.YtjkaicjmfgekjaaGreatDoor
def FI {α:Type}[Enc α](w:World)(T:TypeId)(a:Option Addr)(cap:Nat)(xs:List α):Prop:=
 (a=none/\cap=0/\xs=[])\/∃g off cur,a=some ⟨g,off,none⟩/\w.heap[g]? =some (.cells cur T (0,0))/\xs.length<=cap/\cap<=maxLen/\off+cap*Enc.size α<=cur.size/\∀(j:Nat) v,(AS xs)[j]? =some v->cur[off+j]? =some v
section
variable {α :Type}[Enc α]{w w':World}{T:TypeId}{a:Option Addr}{cap:Nat}{xs:List α}{S:Nat->Prop}
def FI.nil (w:World)(T:TypeId):FI w T none 0 ([]:List α):= .inl ⟨rfl,rfl,rfl⟩
def FI.sl (h:FI w T a cap xs):Ax w a xs:=by
 rcases h with⟨_,_,rfl⟩|⟨g,off,cur,h1,h2,h3,h4,h5,h6⟩
 ·exact .inl rfl
 exact .inr ⟨g,off,h1,cur,T,(0,0),h2,h6⟩
def FI.le_cap (h:FI w T a cap xs):xs.length<=cap:=by
 rcases h with⟨_,_,rfl⟩|⟨g,off,cur,h1,h2,h3,_⟩
 ·simp
 exact h3
def FI.oL (h:FI w T a cap xs):∀q,own a q->q<w.heap.size:=λq hq=>by
 rcases h with⟨rfl,_,_⟩|⟨g,off,cur,rfl,h2,_⟩
 ·exact absurd hq (Ad q)
 obtain⟨x,hx,rfl⟩:=hq;simp only[Option.some.injEq]at hx;subst hx;exact CH h2
def FI.kO (h:FI w T a cap xs)(k:Ae S w w')(hn:∀q,own a q->¬S q):FI w' T a cap xs:=by
 rcases h with h|⟨g,off,cur,h1,h2,h3⟩
 ·exact .inl h
 exact .inr ⟨g,off,cur,h1,(k.block g (CH h2) (hn g ⟨_,h1,rfl⟩)).trans h2,h3⟩
def FI.ext (h:FI w T a cap xs)(k:As w w'):FI w' T a cap xs:=h.kO k λ_ _=>id
def iW (cur:Array Value):Nat->List Value->Array Value
 |_,[]=>cur
 |o,v::r=>iW (cur.setIfInBounds o v) (o+1) r
end
section
variable {P :Program}{w:World}{α:Type}[Enc α]
end
section
variable {P :Program}{f:FuncId}{n:FN}{R:Ending->World->Prop}{k:List Item}{ρ:Bd}{w:World}
variable {dst :Option Nat}{ty:TypeId}{pos:String}{af:Array Edge}{α:Type}[Enc α]{K:Bd->World->Prop}
end
end Go.Proofs.YtjkaicjmfgekjaaGreatDoor
