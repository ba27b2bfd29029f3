/-
  Loop
-/
import Derived.Test.YtocgdeefgohdhaaGreatPqMore
set_option linter.all false
namespace Go.Proofs.YtocgdeefgohdhaaGreat
section
variable {P :Program}{f:FuncId}{n:FN}{R:Ending→World→Prop}{k:List Item}{ρ:A5}{w:World}
theorem Al.unloop {c:Code}(h:Al P f n R (.code c:: .inLoop c::k) ρ w):Al P f n R (.code (.loop c)::k) ρ w:=h.step fun _=>step_loop
end
instance : Enc (Option Addr) where
 val a:= .pointer a
 size:=1
 agg:=false
 shape _:=⟨fun h=>(by cases h),fun _=>⟨rfl,rfl⟩⟩
 plain _ v hv:=by simp[Value.cells]at hv;subst hv;rfl
 pos:=by decide
theorem GX {α:Type}{xs:List α}{i:Nat}{x:α}(h:xs[i]? =some x):xs≠ []:=by rintro rfl;cases h
theorem At.keepN {α:Type}[Enc α]{w w':World}{S:Nat→Prop}{a:Option Addr}{xs:List α}(h:At w a xs)(k:Ao S w w')(hn:∀x,a=some x→xs≠ []→¬S x.block):At w' a xs:=by
 by_cases e:xs=[]
 ·exact .inl e
 ·exact h.keep k fun x hx=>hn x hx e
theorem Mx {a : Option Addr} {m i size : Nat} {Q : Nat → Prop} (h : ∀ q, a = some q → Q q.block) : ∀ q, GW a m i size = some q → Q q.block := by
  intro q hq
  unfold GW at hq
  split at hq
  · exact h q hq
  · cases a with
    | none => cases hq
    | some x =>
      simp only [Option.map_some, Option.some.injEq] at hq
      subst hq
      have : (x.add (i * size)).block = x.block := by unfold Addr.add; split <;> rfl
      rw [this]
      exact h x rfl
section
variable {P :Program}{n:FN}{ρ:A5}{w:World}{o:Oper}
theorem EN {a:Option Addr}{m m' c:Nat}(h:X P n ρ o w (.slice a m c) w)(e:m=m'):X P n ρ o w (.slice a m' c) w:=e▸h
end
end Go.Proofs.YtocgdeefgohdhaaGreat
