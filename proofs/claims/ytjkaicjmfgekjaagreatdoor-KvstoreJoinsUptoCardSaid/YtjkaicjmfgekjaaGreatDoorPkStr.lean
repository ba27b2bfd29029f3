/-
  Str
-/
import Derived.Test.YtjkaicjmfgekjaaGreatDoorPkLoop
import Derived.Laws.IdiomStrings
import Derived.Sort.Walk0
import Derived.Sort.KeysCollected
import Derived.Laws.BitsAllLaws
set_option linter.all false
namespace Go.Proofs.YtjkaicjmfgekjaaGreatDoor
section
variable {P :Program}{n:FN}{ρ:AV}{w:World}{dst:Option Nat}{ty:TypeId}{pos:String}{af:Array Edge}{g:Option (Nat×Bool)}
theorem UD {t t':TypeId}{x y:Operand}{a b:ByteArray}(hx:rd n ρ x= .string a)(hy:rd n ρ y= .string b)(hs:a.size+b.size≤9223372036854775807):X P n ρ ⟨dst,.binOp .add t x y t',ty,pos,af,g⟩ w (.string (a++b)) w:=by
 have e:IntKind.i64.max=9223372036854775807:=rfl
 have h:¬((a.size+b.size:Nat):Int)>IntKind.i64.max:=by rw[e];omega
 have h2:¬(IntKind.i64.max<(a.size:Int)+(b.size:Int)):=by rw[e];omega
 simp[X,execOp,hx,hy,eqGuard,binOp,Op.stringOp,h2]
 omega
theorem Pd {t:TypeId}{x hi:Operand}{s:ByteArray}{kd:IntKind}{j:Nat}(ht:P.underlying t=some .string)(hx:rd n ρ x= .string s)(hj:rd n ρ hi= .int kd (j:Int))(h:j≤s.size):
  X P n ρ ⟨dst,.slice t x none (some hi) none,ty,pos,af,g⟩ w (.string (s.extract 0 j)) w:=by
 have hb:(Instr.sliceBounds false s.size s.size none (some (.int kd (j:Int))) none).run P w= .ok (0,j,s.size) w:=by simp[Instr.sliceBounds,Instr.sliceBound,asIntOf,h]
 simp only[X,execOp,hx,Instr.sliceAt,Sem.run_bind,run_underlying ht,Result.andThen_ok,Instr.slice,Option.map_none,Option.map_some,hj,Option.isSome_none,Bool.false_eq_true,if_false,hb,Sem.run_pure]
theorem HR {t:TypeId}{x lo:Operand}{s:ByteArray}{kd:IntKind}{i:Nat}(ht:P.underlying t=some .string)(hx:rd n ρ x= .string s)(hi:rd n ρ lo= .int kd (i:Int))(h:i≤s.size):
  X P n ρ ⟨dst,.slice t x (some lo) none none,ty,pos,af,g⟩ w (.string (s.extract i s.size)) w:=by
 have hb:(Instr.sliceBounds false s.size s.size (some (.int kd (i:Int))) none none).run P w= .ok (i,s.size,s.size) w:=by simp[Instr.sliceBounds,Instr.sliceBound,asIntOf,h]
 simp only[X,execOp,hx,Instr.sliceAt,Sem.run_bind,run_underlying ht,Result.andThen_ok,Instr.slice,Option.map_none,Option.map_some,hi,Option.isSome_none,Bool.false_eq_true,if_false,hb,Sem.run_pure]
end
end Go.Proofs.YtjkaicjmfgekjaaGreatDoor
