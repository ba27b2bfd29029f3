/-
  Bits
-/
import Derived.Test.YtocgdeefgohdhaaGreatPqSteps
import Derived.Laws.BitsAllLaws
import Derived.Laws.Unary
set_option linter.all false
namespace Go.Proofs.YtocgdeefgohdhaaGreat
def KM :IntKind→Nat
 | .i8=>2^7| .i16=>2^15| .i32=>2^31| .i64=>2^63| .u8=>2^8| .u16=>2^16| .u32=>2^32| .u64=>2^64
def KB :IntKind→Nat
 | .i8=>7| .i16=>15| .i32=>31| .i64=>63| .u8=>8| .u16=>16| .u32=>32| .u64=>64
theorem So (kd:IntKind)(r:Nat)(h:r<KM kd):kd.wrap ((r:Nat):Int)=((r:Nat):Int):=by
 cases kd<;>simp only[KM]at h<;>simp[IntKind.wrap,IntKind.bits,IntKind.signed]<;>omega
section
variable {P :Program}{n:FN}{ρ:A5}{w:World}
variable {dst :Option Nat}{ty:TypeId}{pos:String}{af:Array Edge}{g:Option (Nat×Bool)}
variable {t t':TypeId}{x y:Operand}{kd kd':IntKind}{a b:Nat}
theorem RE (hx:rd n ρ x= .int kd ((a:Nat):Int))(hy:rd n ρ y= .int kd' ((b:Nat):Int))(hb:b≤kd.bits):
  X P n ρ ⟨dst,.binOp .shr t x y t',ty,pos,af,g⟩ w (.int kd ((a/2^b:Nat):Int)) w:=by
 have e:((a:Nat):Int)/2^b=((a/2^b:Nat):Int):=by push_cast;rfl
 have h:=shift_shr kd kd' (a:Int) (b:Int) Zo Zo
 rw[Int.toNat_natCast,e]at h
 simp[X,execOp,hx,hy,eqGuard,binOp,h]
theorem RF (m:Nat)(hm:m=2^b)(hx:rd n ρ x= .int kd ((a:Nat):Int))(hy:rd n ρ y= .int kd' ((b:Nat):Int))(hb:b≤kd.bits):
  X P n ρ ⟨dst,.binOp .shr t x y t',ty,pos,af,g⟩ w (.int kd ((a/m:Nat):Int)) w:=by subst hm;exact RE hx hy hb
theorem Mu {d:TypeId}{kx:IntKind}(hx:rd n ρ x= .int kx ((a:Nat):Int))(hs:∃u,P.underlying t=some u)(hd:P.underlying d=some (.int kd))(ha:a<KM kd):
  X P n ρ ⟨dst,.convert t d x,ty,pos,af,g⟩ w (.int kd ((a:Nat):Int)) w:=by
 have:=Ms (P:=P) (w:=w) (dst:=dst) (ty:=ty) (pos:=pos) (af:=af) (g:=g) hx hs hd
 rwa[So kd a ha]at this
end
end Go.Proofs.YtocgdeefgohdhaaGreat
