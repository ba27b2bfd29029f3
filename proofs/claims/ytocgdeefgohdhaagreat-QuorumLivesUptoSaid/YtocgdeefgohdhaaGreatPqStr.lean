/-
  Str
-/
import Derived.Test.YtocgdeefgohdhaaGreatPqLoop
import Derived.Laws.IdiomStrings
import Derived.Sort.Walk0
import Derived.Sort.KeysCollected
import Derived.Laws.BitsAllLaws
set_option linter.all false
namespace Go.Proofs.YtocgdeefgohdhaaGreat
section
variable {P :Program}{n:FN}{ρ:A5}{w:World}{dst:Option Nat}{ty:TypeId}{pos:String}{af:Array Edge}{g:Option (Nat×Bool)}
theorem Kq {t:TypeId}{x lo:Operand}{s:ByteArray}{kd:IntKind}{i:Nat}(ht:P.underlying t=some .string)(hx:rd n ρ x= .string s)(hi:rd n ρ lo= .int kd (i:Int))(h:i≤s.size):
  X P n ρ ⟨dst,.slice t x (some lo) none none,ty,pos,af,g⟩ w (.string (s.extract i s.size)) w:=by
 have hb:(Instr.sliceBounds false s.size s.size (some (.int kd (i:Int))) none none).run P w= .ok (i,s.size,s.size) w:=by simp[Instr.sliceBounds,Instr.sliceBound,asIntOf,h]
 simp only[X,execOp,hx,Instr.sliceAt,Sem.run_bind,run_underlying ht,Result.andThen_ok,Instr.slice,Option.map_none,Option.map_some,hi,Option.isSome_none,Bool.false_eq_true,if_false,hb,Sem.run_pure]
end
end Go.Proofs.YtocgdeefgohdhaaGreat
