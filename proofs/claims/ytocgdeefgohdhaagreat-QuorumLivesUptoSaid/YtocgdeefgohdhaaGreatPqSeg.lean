/-
  Seg
-/
import Derived.Test.YtocgdeefgohdhaaGreatPqLoop
set_option linter.all false
namespace Go.Proofs.YtocgdeefgohdhaaGreat
section
variable {α :Type}[Enc α]{w:World}{b:Nat}{T:TypeId}{A B:List Value}{xs:List α}
end
section
variable {P :Program}{n:FN}{ρ:A5}{w:World}{dst:Option Nat}{ty:TypeId}{pos:String}{af:Array Edge}{g:Option (Nat×Bool)}
end
section
variable {P :Program}{f:FuncId}{n:FN}{m:Nat}{R:Ending→World→Prop}{k:List Item}{ρ:A5}{w:World}
theorem Oq {fn:Func}{t T:Nat}{cs:Array Value}{b o size bytes:Nat}{z:Value}(h:fn.results=#[.cell t T])(he:Ty P T size bytes z true)(hp:rd n ρ (.tmp t)= .pointer (some ⟨b,o,none⟩))(hs:cs.size=size)(hc:Cl w b o cs.toList):
  (results fn (Cb n ρ).tmps).run P w= .ok (.agg cs) w:=by
 have hl:=DI (w:=w) (b:=b) (o:=o) (v:= .agg cs) he ⟨fun _=>⟨cs,rfl,hs⟩,fun e=>(by cases e)⟩ hc
 have ht:=Cf (n:=n) (ρ:=ρ) t
 rw[hp]at ht
 have ht':(Cb n ρ).tmps[t]?.getD undef= .pointer (some ⟨b,o,none⟩):=by rw[←Array.getD_eq_getD_getElem?];exact ht
 simp[results,h,ht',asAddr,hl]
theorem Al.retC {fn:Func}{t T:Nat}{cs:Array Value}{b o size bytes:Nat}{z:Value}(hf:P.funcs[f]? =some fn)(hr:fn.results=#[.cell t T])(he:Ty P T size bytes z true)(hp:rd ⟨m,[]⟩ ρ (.tmp t)= .pointer (some ⟨b,o,none⟩))(hs:cs.size=size)(hc:Cl w b o cs.toList)
  (h:R (.returned (.agg cs)) w):Al P f ⟨m,[]⟩ R (.code .ret::k) ρ w:=Al.ret hf (Oq hr he hp hs hc) h
end
end Go.Proofs.YtocgdeefgohdhaaGreat
