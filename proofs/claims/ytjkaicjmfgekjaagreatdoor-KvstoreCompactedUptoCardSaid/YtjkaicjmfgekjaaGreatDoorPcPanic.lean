/-
  Panic
-/
import Derived.Test.YtjkaicjmfgekjaaGreatDoorPcMore
import Derived.Defers
import Derived.Recover
set_option linter.all false
namespace Go.Proofs.YtjkaicjmfgekjaaGreatDoor
def YP (Φ:Value->World->Prop)(Ψ:List PanicEntry->World->Prop):Ending->World->Prop:=λe w=>(∃v,e= .returned v/\Φ v w)\/(∃ch,e= .panicked ch/\Ψ ch w)
abbrev F4 (t:TypeId)(v:Value):List PanicEntry:=[{v:= .iface t v,recovered:=false}]
section
variable {P :Program}{f:FuncId}{m:Nat}{R:Ending->World->Prop}{k:List Item}{ops:Array Oper}{rest:List Oper}{ρ:Bd}{w:World}
variable {dst :Option Nat}{op:Op}{ty:TypeId}{pos:String}{af:Array Edge}{K:Bd->World->Prop}
def AB.panic {x:Operand}{t:TypeId}{v:Value}{fn:Func}(hx:rd ⟨m,[]⟩ ρ x= .iface t v)(hf:P.funcs[f]? =some fn)(h:R (.panicked (F4 t v)) w):AB P f ⟨m,[]⟩ R k ⟨dst,.panic x,ty,pos,af,none⟩ ρ w K:=by
 simp only[AB,Oper.wp,BF,execOp,hx];exact⟨rfl,⟨fn,hf⟩,h⟩
def AB.enterP {g:FuncId}{vals:Array Value}{Φ:Value->World->Prop}{Ψ:List PanicEntry->World->Prop}{fn:Func}(hrun:(execOp (rd ⟨m,[]⟩ ρ) ⟨dst,op,ty,pos,af,none⟩).run P w= .ok (.enter g vals) w)
  (hc:Calls P g vals w (YP Φ Ψ)) (hf:P.funcs[f]? =some fn) (hp:∀ch w',Ψ ch w'->R (.panicked ch) w') (h:∀v w',Φ v w'->K (Bj ρ dst v) w'):AB P f ⟨m,[]⟩ R k ⟨dst,op,ty,pos,af,none⟩ ρ w K:=by
 simp only[AB,Oper.wp,BF,hrun,Oper.upon];refine hc.mono ?_;rintro e w' (⟨v,rfl,hΦ⟩|⟨ch,rfl,hΨ⟩)
 ·simp only[B5];exact⟨_,rfl,h v w' hΦ⟩
 exact⟨rfl,⟨fn,hf⟩,hp ch w' hΨ⟩
def AB.callP {g:FuncId}{ol:List Operand}{ts:Array TypeId}{vals:List Value}{Φ:Value->World->Prop}{Ψ:List PanicEntry->World->Prop}{fn:Func}(he:DQ P g)(ha:ol.map (rd ⟨m,[]⟩ ρ)=vals)
  (hc:Calls P g vals.toArray w (YP Φ Ψ)) (hf:P.funcs[f]? =some fn) (hp:∀ch w',Ψ ch w'->R (.panicked ch) w') (h:∀v w',Φ v w'->K (Bj ρ dst v) w'):
  AB P f ⟨m,[]⟩ R k ⟨dst,.call {callee:= .value (.func g),args:=ol.toArray,argTypes:=ts},ty,pos,af,none⟩ ρ w K:=by
 refine AB.enterP (g:=g) (vals:=vals.toArray) ?_ hc hf hp h;simp[execOp,resolve,rd,Deferred.ofValue,invoke,ha,he vals.toArray w]
end
def F5 {P:Program}{g:FuncId}{vals:Array Value}{w:World}{Ψ:List PanicEntry->World->Prop}(h:Calls P g vals w λe w'=>∃ch,e= .panicked ch/\Ψ ch w'):Calls P g vals w (YP (λ_ _=>False) Ψ):=
 h.mono λ_ _ h=> .inr h
end Go.Proofs.YtjkaicjmfgekjaaGreatDoor
