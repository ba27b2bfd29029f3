/-
  Loop
-/
import Derived.Test.YtjkaicjmfgekjaaGreatDoorPkMore
set_option linter.all false
namespace Go.Proofs.YtjkaicjmfgekjaaGreatDoor
section
variable {P :Program}{f:FuncId}{n:FN}{R:Ending->World->Prop}{k:List Item}{ρ:A8}{w:World}
theorem Ai.unloop {c:Code}(h:Ai P f n R (.code c:: .inLoop c::k) ρ w):Ai P f n R (.code (.loop c)::k) ρ w:=h.step fun _=>step_loop
end
instance : Enc (Option Addr) where
 val a:= .pointer a
 size:=1
 agg:=false
 shape _:=⟨fun h=>(by cases h),fun _=>⟨rfl,rfl⟩⟩
 plain _ v hv:=by simp[Value.cells]at hv;subst hv;rfl
 pos:=by decide
theorem HN {α:Type}{xs:List α}{i:Nat}{x:α}(h:xs[i]? =some x):xs≠ []:=by rintro rfl;cases h
theorem Av.keepN {α:Type}[Enc α]{w w':World}{S:Nat->Prop}{a:Option Addr}{xs:List α}(h:Av w a xs)(k:Ad S w w')(hn:∀x,a=some x->xs≠ []->¬S x.block):Av w' a xs:=by
 by_cases e:xs=[]
 ·exact .inl e
 ·exact h.keep k fun x hx=>hn x hx e
theorem QB {a : Option Addr} {m i size : Nat} {Q : Nat -> Prop} (h : ∀ q, a = some q -> Q q.block) : ∀ q, H6 a m i size = some q -> Q q.block := by
  intro q hq
  unfold H6 at hq
  split at hq
  · exact h q hq
  · cases a with
    | none => cases hq
    | some x =>
      simp only [AaH, Option.some.injEq] at hq
      subst hq
      have : (x.add (i * size)).block = x.block := by unfold Addr.add; split <;> rfl
      rw [this]
      exact h x rfl
section
variable {P :Program}{n:FN}{ρ:A8}{w:World}{o:Oper}
theorem HB {a:Option Addr}{m m' c:Nat}(h:X P n ρ o w (.slice a m c) w)(e:m=m'):X P n ρ o w (.slice a m' c) w:=e▸h
end
end Go.Proofs.YtjkaicjmfgekjaaGreatDoor
