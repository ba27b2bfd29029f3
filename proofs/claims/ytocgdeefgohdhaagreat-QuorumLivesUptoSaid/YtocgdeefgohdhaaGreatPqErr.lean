/-
  Err
-/
import Derived.Test.YtocgdeefgohdhaaGreatPqIface
import Derived.Test.YtocgdeefgohdhaaGreatPqLoop
import Derived.Test.YtocgdeefgohdhaaGreatPqSeg
import Derived.Stop.IfaceNil
set_option linter.all false
namespace Go.Proofs.YtocgdeefgohdhaaGreat
section
variable {P :Program}{n:FN}{ρ:A5}{w:World}{dst:Option Nat}{ty:TypeId}{pos:String}{af:Array Edge}{g:Option (Nat×Bool)}
end
section
variable {P :Program}{f:FuncId}{n:FN}{m:Nat}{R:Ending→World→Prop}{k:List Item}{ρ:A5}{w:World}
theorem Np {fn:Func}{t T u:Nat}{x:Value}{cs:Array Value}{b o size bytes:Nat}{z:Value}(h:fn.results=#[.cell t T,.tmp u])(he:Ty P T size bytes z true)(hp:rd n ρ (.tmp t)= .pointer (some ⟨b,o,none⟩))(hs:cs.size=size)(hc:Cl w b o cs.toList)(hx:rd n ρ (.tmp u)=x):
  (results fn (Cb n ρ).tmps).run P w= .ok (.tuple #[.agg cs,x]) w:=by
 have hl:=DI (w:=w) (b:=b) (o:=o) (v:= .agg cs) he ⟨fun _=>⟨cs,rfl,hs⟩,fun e=>(by cases e)⟩ hc
 have ht:=Cf (n:=n) (ρ:=ρ) t
 rw[hp]at ht
 have ht':(Cb n ρ).tmps[t]?.getD undef= .pointer (some ⟨b,o,none⟩):=by rw[←Array.getD_eq_getD_getElem?];exact ht
 have hu:=Cf (n:=n) (ρ:=ρ) u
 rw[hx]at hu
 have hu':(Cb n ρ).tmps[u]?.getD undef=x:=by rw[←Array.getD_eq_getD_getElem?];exact hu
 simp[results,h,ht',hu',asAddr,hl]
theorem Al.retCT {fn:Func}{t T u:Nat}{x:Value}{cs:Array Value}{b o size bytes:Nat}{z:Value}(hf:P.funcs[f]? =some fn)(hr:fn.results=#[.cell t T,.tmp u])(he:Ty P T size bytes z true)(hp:rd ⟨m,[]⟩ ρ (.tmp t)= .pointer (some ⟨b,o,none⟩))(hs:cs.size=size)(hc:Cl w b o cs.toList)(hx:rd ⟨m,[]⟩ ρ (.tmp u)=x)
  (h:R (.returned (.tuple #[.agg cs,x])) w):Al P f ⟨m,[]⟩ R (.code .ret::k) ρ w:=Al.ret hf (Np hr he hp hs hc hx) h
end
end Go.Proofs.YtocgdeefgohdhaaGreat
