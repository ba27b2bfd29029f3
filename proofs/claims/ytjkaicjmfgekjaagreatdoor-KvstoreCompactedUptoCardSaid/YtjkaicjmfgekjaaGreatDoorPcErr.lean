/-
  Err
-/
import Derived.Test.YtjkaicjmfgekjaaGreatDoorPcIface
import Derived.Test.YtjkaicjmfgekjaaGreatDoorPcSeg
import Derived.Stop.IfaceNil
set_option linter.all false
namespace Go.Proofs.YtjkaicjmfgekjaaGreatDoor
section
variable {P :Program}{n:FN}{ρ:Bd}{w:World}{dst:Option Nat}{ty:TypeId}{pos:String}{af:Array Edge}{g:Option (Nat×Bool)}
def PX {t:TypeId}{k:IntKind}{x:Operand}{v:Value}(ht:P.underlying t=some (.int k))(hx:rd n ρ x=v):X P n ρ ⟨dst,.makeInterface t x,ty,pos,af,g⟩ w (.iface t v) w:=by
 simp[X,execOp,hx,Instr.makeInterface,run_underlying ht]
def YH {t t' u:TypeId}{x y:Operand}{v:Value}(ht:P.isIface t=true)(hx:rd n ρ x= .iface u v)(hy:rd n ρ y= .nilIface):X P n ρ ⟨dst,.binOp .eql t x y t',ty,pos,af,g⟩ w (.bool false) w:=by
 simp[X,execOp,hx,hy,eqGuard,run_eql_iface_nil w t ht u v]
def YI {t t':TypeId}{x:Operand}{c:Value}(ht:P.isIface t=true)(hx:rd n ρ x= .nilIface)(hy:rd n ρ (.const c)= .nilIface):X P n ρ ⟨dst,.binOp .eql t x (.const c) t',ty,pos,af,g⟩ w (.bool true) w:=by
 simp[X,execOp,hx,hy,eqGuard,run_eql_nil_nil_at w t ht]
end
section
variable {P :Program}{f:FuncId}{n:FN}{m:Nat}{R:Ending->World->Prop}{k:List Item}{ρ:Bd}{w:World}
def Mi {fn:Func}{t T u:Nat}{x:Value}{cs:Array Value}{b o size bytes:Nat}{z:Value}(h:fn.results=#[.cell t T,.tmp u])(he:Ty P T size bytes z true)(hp:rd n ρ (.tmp t)= .pointer (some ⟨b,o,none⟩))(hs:cs.size=size)(hc:Cl w b o cs.toList)(hx:rd n ρ (.tmp u)=x):
  (results fn (Ci n ρ).tmps).run P w= .ok (.tuple #[.agg cs,x]) w:=by
 have hl:=DC (w:=w) (b:=b) (o:=o) (v:= .agg cs) he ⟨λ_=>⟨cs,rfl,hs⟩,λe=>(by cases e)⟩ hc;have ht:=Cp (n:=n) (ρ:=ρ) t;rw[hp]at ht;have ht':(Ci n ρ).tmps[t]?.getD undef= .pointer (some ⟨b,o,none⟩):=by rw[<-Abi];exact ht
 have hu:=Cp (n:=n) (ρ:=ρ) u;rw[hx]at hu;have hu':(Ci n ρ).tmps[u]?.getD undef=x:=by rw[<-Abi];exact hu
 simp[results,h,ht',hu',asAddr,hl]
def Ai.retCT {fn:Func}{t T u:Nat}{x:Value}{cs:Array Value}{b o size bytes:Nat}{z:Value}(hf:P.funcs[f]? =some fn)(hr:fn.results=#[.cell t T,.tmp u])(he:Ty P T size bytes z true)(hp:rd ⟨m,[]⟩ ρ (.tmp t)= .pointer (some ⟨b,o,none⟩))(hs:cs.size=size)(hc:Cl w b o cs.toList)(hx:rd ⟨m,[]⟩ ρ (.tmp u)=x)
  (h:R (.returned (.tuple #[.agg cs,x])) w):Ai P f ⟨m,[]⟩ R (.code .ret::k) ρ w:=Ai.ret hf (Mi hr he hp hs hc hx) h
end
end Go.Proofs.YtjkaicjmfgekjaaGreatDoor
