/-
  Yield
-/
import Derived.Test.YtjkaicjmfgekjaaGreatDoorPcRound
import Derived.TacticsIn
import Derived.OwnWalkIn
set_option linter.all false
namespace Go.Proofs.YtjkaicjmfgekjaaGreatDoor
section
variable {P :Program}{F:Fence}{m:Nat}{n:FN}{ops:Array Oper}{rest:List Oper}{Q:Exit->Act->World->Prop}{ρ:Bd}{w w':World}
variable {dst :Option Nat}{op:Op}{ty:TypeId}{pos:String}{af:Array Edge}
def ER {v:Value}(hd:∀c,op≠ .defer c)(hF:∀f,F.fn f)(hx:X P n ρ ⟨dst,op,ty,pos,af,none⟩ w v w')(h:wpListIn F m P ops Q rest (Ci n (Bj ρ dst v)) w'):
  wpListIn F m P ops Q (⟨dst,op,ty,pos,af,none⟩::rest) (Ci n ρ) w:=by
 unfold wpListIn;rw[if_pos (by rfl)];refine⟨λ_ _=>hF _,?_⟩;rw[Oper.semAt_plain F _ _ hd,BF,show(execOp (rd n ρ) ⟨dst,op,ty,pos,af,none⟩).run P w= .ok (.value v) w' from hx,Oper.uponIn_value,B5];exact h
def JS (hd:∀c,op≠ .defer c)(hF:∀f,F.fn f)(hx:(execOp (rd n ρ) ⟨none,op,ty,pos,af,none⟩).run P w= .ok .skip w')(h:wpListIn F m P ops Q rest (Ci n ρ) w'):
  wpListIn F m P ops Q (⟨none,op,ty,pos,af,none⟩::rest) (Ci n ρ) w:=by
 unfold wpListIn;rw[if_pos (by rfl)];refine⟨λ_ _=>hF _,?_⟩;rw[Oper.semAt_plain F _ _ hd,BF,hx,Oper.uponIn_skip,B5];exact h
end
def QV (P:Program)(f:FuncId)(n:FN)(R:Ending->World->Prop)(k:List Item)(ops:Array Oper)(l:List Oper)(ρ:Bd)(w:World):Prop:=
 wpListIn Fence.wide 0 P ops (IZ P f n R k) l (Ci n ρ) w
section
variable {P :Program}{f:FuncId}{n:FN}{R:Ending->World->Prop}{k:List Item}{ops:Array Oper}{rest:List Oper}{ρ:Bd}{w:World}
variable {dst :Option Nat}{op:Op}{ty:TypeId}{pos:String}{af:Array Edge}
def Ai.regionI {id:Nat}{l:List Oper}(h:QV P f n R k l.toArray l ρ w):Ai P f n R (.code (.region id l.toArray false)::k) ρ w:=
 Ai.of_wpIn (m:=0) (wpIn_region_lit h)
def QV.nil (h:Ai P f n R k ρ w):QV P f n R k ops [] ρ w:=⟨n.ds,ρ,rfl,h⟩
def QV.val {v:Value}(hx:X P n ρ ⟨dst,op,ty,pos,af,none⟩ w v w)(h:QV P f n R k ops rest (Bj ρ dst v) w)(hd:∀c,op≠ .defer c:=by intro c h;cases h):
  QV P f n R k ops (⟨dst,op,ty,pos,af,none⟩::rest) ρ w:=ER hd (λ_=>trivial) hx h
def QV.yield {l:Nat}{g:Operand}{ol:List Operand}{ts:Array TypeId}{vals:List Value}{fn:FuncId}{tmps:Array Value}{assign body:Code}{R':Ending->World->Prop}
  (hg:rd n ρ g= .func (.yield l) #[] #[]) (ha:ol.map (rd n ρ)=vals) (hy:(Instr.yield l vals.toArray).run P w= .ok (.round l fn tmps assign body) w)
  (hR:RoundIn Fence.wide 0 P l fn tmps assign body w R')
  (h:∀e w',R' e w'->∃v,e= .returned v/\QV P f n R k ops rest (Bj ρ dst v) w'):
  QV P f n R k ops (⟨dst,.call {callee:= .value g,args:=ol.toArray,argTypes:=ts},ty,pos,af,none⟩::rest) ρ w:=by
 unfold QV wpListIn;rw[if_pos (by rfl)];refine⟨λ_ _=>trivial,?_⟩;have hrun:(execOp (Ci n ρ).eval ⟨dst,.call {callee:= .value g,args:=ol.toArray,argTypes:=ts},ty,pos,af,none⟩).run P w= .ok (.round l fn tmps assign body) w:=by
  rw[BF];simp[execOp,resolve,Sem.run_bind,hg,ha,invoke,Deferred.ofValue,hy]
 rw[show Fence.wide.round=none from rfl,Oper.semAt_none,hrun];refine⟨λh=>absurd h (by simp[Fence.wide]),hR.mono λe w' he=> ?_⟩;obtain⟨v,rfl,h1⟩:=h e w' he;simp only;rw[B5];exact h1
end
end Go.Proofs.YtjkaicjmfgekjaaGreatDoor
