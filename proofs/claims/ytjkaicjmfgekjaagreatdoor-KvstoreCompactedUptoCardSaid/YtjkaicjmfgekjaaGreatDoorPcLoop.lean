/-
  Loop
-/
import Derived.Test.YtjkaicjmfgekjaaGreatDoorPcMore
set_option linter.all false
namespace Go.Proofs.YtjkaicjmfgekjaaGreatDoor
section
variable {P :Program}{f:FuncId}{n:FN}{R:Ending->World->Prop}{k:List Item}{ρ:Bd}{w:World}
def Ai.unloop {c:Code}(h:Ai P f n R (.code c:: .inLoop c::k) ρ w):Ai P f n R (.code (.loop c)::k) ρ w:=h.step λ_=>step_loop
end
instance : Enc (Option Addr) where
 val a:= .pointer a
 size:=1
 agg:=false
 shape _:=⟨λh=>(by cases h),λ_=>⟨rfl,rfl⟩⟩
 plain _ v hv:=by simp[Value.cells]at hv;subst hv;rfl
 pos:=by decide
def HR {α:Type}{xs:List α}{i:Nat}{x:α}(h:xs[i]? =some x):xs≠ []:=by rintro rfl;cases h
def Ax.keepN {α:Type}[Enc α]{w w':World}{S:Nat->Prop}{a:Option Addr}{xs:List α}(h:Ax w a xs)(k:Ae S w w')(hn:∀x,a=some x->xs≠ []->¬S x.block):Ax w' a xs:=by
 by_cases e:xs=[]
 ·exact .inl e
 exact h.keep k λx hx=>hn x hx e
def Rc {a : Option Addr} {m i size : Nat} {Q : Nat -> Prop} (h : ∀ q, a = some q -> Q q.block) : ∀ q, If a m i size = some q -> Q q.block := by
  intro q hq;unfold If at hq;split at hq
  · exact h q hq
  cases a with
  | none => cases hq
  | some x =>
    simp only [AaL, Option.some.injEq] at hq;subst hq;have : (x.add (i * size)).block = x.block := by unfold Addr.add; split <;> rfl
    rw [this];exact h x rfl
section
variable {P :Program}{n:FN}{ρ:Bd}{w:World}{o:Oper}
def HH {a:Option Addr}{m m' c:Nat}(h:X P n ρ o w (.slice a m c) w)(e:m=m'):X P n ρ o w (.slice a m' c) w:=e▸h
end
end Go.Proofs.YtjkaicjmfgekjaaGreatDoor
