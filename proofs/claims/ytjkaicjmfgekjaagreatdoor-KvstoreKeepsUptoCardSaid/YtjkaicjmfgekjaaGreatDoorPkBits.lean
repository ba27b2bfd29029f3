/-
  Bits
-/
import Derived.Test.YtjkaicjmfgekjaaGreatDoorPkSteps
import Derived.Laws.BitsAllLaws
import Derived.Laws.Unary
set_option linter.all false
namespace Go.Proofs.YtjkaicjmfgekjaaGreatDoor
def KM :IntKind->Nat
 | .i8=>2^7| .i16=>2^15| .i32=>2^31| .i64=>2^63| .u8=>2^8| .u16=>2^16| .u32=>2^32| .u64=>2^64
def KB :IntKind->Nat
 | .i8=>7| .i16=>15| .i32=>31| .i64=>63| .u8=>8| .u16=>16| .u32=>32| .u64=>64
theorem QC (kd:IntKind):KM kd=2^KB kd:=by cases kd<;>rfl
theorem ZJ (kd:IntKind):KB kd<=kd.bits:=by cases kd<;>decide
theorem NB (kd:IntKind)(r:Nat)(h:r<KM kd):kd.wrap ((r:Nat):Int)=((r:Nat):Int):=by
 cases kd<;>simp only[KM]at h<;>simp[IntKind.wrap,IntKind.bits,IntKind.signed]<;>omega
theorem IK (kd:IntKind)(a:Nat)(h:a<KM kd):(BitVec.ofInt kd.bits ((a:Nat):Int)).toNat=a:=by
 have h2:a<2^kd.bits:=Aa4 (by rw[<-QC];exact h) (Ab3 Zd (ZJ kd))
 simp only[BitVec.toNat_ofInt]
 have:((a:Nat):Int)%((2^kd.bits:Nat):Int)=((a:Nat):Int):=Int.emod_eq_of_lt Zo (by exact_mod_cast h2)
 rw[this];rfl
theorem VV (kd:IntKind)(a b:Nat)(ha:a<KM kd)(hb:b<KM kd):bits .and kd (a:Int) (b:Int)=((a&&&b:Nat):Int):=by
 show kd.wrap ((BitVec.ofInt kd.bits (a:Int)&&&BitVec.ofInt kd.bits (b:Int)).toNat:Int)=_
 rw[BitVec.toNat_and,IK kd a ha,IK kd b hb]
 exact NB kd _ (by rw[QC]at*;exact Nat.and_lt_two_pow _ hb)
theorem X5 (kd:IntKind)(a b:Nat)(ha:a<KM kd)(hb:b<KM kd):bits .or kd (a:Int) (b:Int)=((a|||b:Nat):Int):=by
 show kd.wrap ((BitVec.ofInt kd.bits (a:Int)|||BitVec.ofInt kd.bits (b:Int)).toNat:Int)=_
 rw[BitVec.toNat_or,IK kd a ha,IK kd b hb]
 exact NB kd _ (by rw[QC]at*;exact Nat.or_lt_two_pow ha hb)
theorem QD (kd:IntKind)(a b:Nat)(ha:a<KM kd)(hb:b<KM kd):bits .xor kd (a:Int) (b:Int)=((a^^^b:Nat):Int):=by
 show kd.wrap ((BitVec.ofInt kd.bits (a:Int)^^^BitVec.ofInt kd.bits (b:Int)).toNat:Int)=_
 rw[BitVec.toNat_xor,IK kd a ha,IK kd b hb]
 exact NB kd _ (by rw[QC]at*;exact Nat.xor_lt_two_pow ha hb)
section
variable {P :Program}{n:FN}{ρ:A8}{w:World}
variable {dst :Option Nat}{ty:TypeId}{pos:String}{af:Array Edge}{g:Option (Nat×Bool)}
variable {t t':TypeId}{x y:Operand}{kd kd':IntKind}{a b:Nat}
theorem X6 (hx:rd n ρ x= .int kd ((a:Nat):Int))(hy:rd n ρ y= .int kd ((b:Nat):Int))(ha:a<KM kd)(hb:b<KM kd):
  X P n ρ ⟨dst,.binOp .and t x y t',ty,pos,af,g⟩ w (.int kd ((a&&&b:Nat):Int)) w:=by
 simp[X,execOp,hx,hy,eqGuard,binOp,intBits_and,intBits_or,intBits_xor,VV kd a b ha hb]
theorem X7 (hx:rd n ρ x= .int kd ((a:Nat):Int))(hy:rd n ρ y= .int kd ((b:Nat):Int))(j:Nat)(hj:b=2^j-1)(ha:a<KM kd)(hb:b<KM kd):
  X P n ρ ⟨dst,.binOp .and t x y t',ty,pos,af,g⟩ w (.int kd ((a%2^j:Nat):Int)) w:=by
 have:=X6 (P:=P) (w:=w) (dst:=dst) (ty:=ty) (pos:=pos) (af:=af) (g:=g) (t:=t) (t':=t') hx hy ha hb
 rwa[hj,Nat.and_two_pow_sub_one_eq_mod]at this
theorem QE (hx:rd n ρ x= .int kd ((a:Nat):Int))(hy:rd n ρ y= .int kd ((b:Nat):Int))(ha:a<KM kd)(hb:b<KM kd):
  X P n ρ ⟨dst,.binOp .or t x y t',ty,pos,af,g⟩ w (.int kd ((a|||b:Nat):Int)) w:=by
 simp[X,execOp,hx,hy,eqGuard,binOp,intBits_and,intBits_or,intBits_xor,X5 kd a b ha hb]
theorem TB (hx:rd n ρ x= .int kd ((a:Nat):Int))(hy:rd n ρ y= .int kd ((b:Nat):Int))(ha:a<KM kd)(hb:b<KM kd):
  X P n ρ ⟨dst,.binOp .xor t x y t',ty,pos,af,g⟩ w (.int kd ((a^^^b:Nat):Int)) w:=by
 simp[X,execOp,hx,hy,eqGuard,binOp,intBits_and,intBits_or,intBits_xor,QD kd a b ha hb]
theorem TC (hx:rd n ρ x= .int kd ((a:Nat):Int))(hy:rd n ρ y= .int kd' ((b:Nat):Int))(hb:b<=kd.bits):
  X P n ρ ⟨dst,.binOp .shr t x y t',ty,pos,af,g⟩ w (.int kd ((a/2^b:Nat):Int)) w:=by
 have e:((a:Nat):Int)/2^b=((a/2^b:Nat):Int):=by push_cast;rfl
 have h:=shift_shr kd kd' (a:Int) (b:Int) Zo Zo
 rw[Ab4,e]at h
 simp[X,execOp,hx,hy,eqGuard,binOp,h]
theorem O9 (hx:rd n ρ x= .int kd ((a:Nat):Int))(hy:rd n ρ y= .int kd' ((b:Nat):Int))(hb:b<=kd.bits)(h:a*2^b<KM kd):
  X P n ρ ⟨dst,.binOp .shl t x y t',ty,pos,af,g⟩ w (.int kd ((a*2^b:Nat):Int)) w:=by
 have e:kd.wrap (((a:Nat):Int)*2^b)=((a*2^b:Nat):Int):=by
  have:=NB kd (a*2^b) h
  push_cast at this⊢
  exact this
 have h:=shift_shl kd kd' (a:Int) (b:Int) Zo Zo
 rw[Ab4,e]at h
 simp[X,execOp,hx,hy,eqGuard,binOp,h]
theorem TD (hx:rd n ρ x= .int kd ((a:Nat):Int))(hy:rd n ρ y= .int kd ((b:Nat):Int))(j m:Nat)(hj:b=2^j-1)(hm:m=2^j)(ha:a<KM kd)(hb:b<KM kd):
  X P n ρ ⟨dst,.binOp .and t x y t',ty,pos,af,g⟩ w (.int kd ((a%m:Nat):Int)) w:=by subst hm;exact X7 hx hy j hj ha hb
theorem HO (m:Nat)(hm:m=2^b)(hx:rd n ρ x= .int kd ((a:Nat):Int))(hy:rd n ρ y= .int kd' ((b:Nat):Int))(hb:b<=kd.bits):
  X P n ρ ⟨dst,.binOp .shr t x y t',ty,pos,af,g⟩ w (.int kd ((a/m:Nat):Int)) w:=by subst hm;exact TC hx hy hb
theorem TE {m:Nat}(hx:rd n ρ x= .int kd ((a:Nat):Int))(hs:kd.signed=false)(hm:kd.max=((m:Nat):Int))(hmk:m<KM kd)(ha:a<KM kd):
  X P n ρ ⟨dst,.unOp .xor t x,ty,pos,af,g⟩ w (.int kd ((m^^^a:Nat):Int)) w:=by
 simp[X,execOp,hx,unary_xor,intBits_xor,hs,hm,QD kd m a hmk ha]
theorem Ea {d:TypeId}{kx:IntKind}(hx:rd n ρ x= .int kx ((a:Nat):Int))(hs:∃u,P.underlying t=some u)(hd:P.underlying d=some (.int kd))(ha:a<KM kd):
  X P n ρ ⟨dst,.convert t d x,ty,pos,af,g⟩ w (.int kd ((a:Nat):Int)) w:=by
 have:=Fy (P:=P) (w:=w) (dst:=dst) (ty:=ty) (pos:=pos) (af:=af) (g:=g) hx hs hd
 rwa[NB kd a ha]at this
theorem EA {d:TypeId}{kx:IntKind}(hx:rd n ρ x= .int kx ((a:Nat):Int))(hs:∃u,P.underlying t=some u)(hd:P.underlying d=some (.int .u8)):
  X P n ρ ⟨dst,.convert t d x,ty,pos,af,g⟩ w (.int .u8 (((UInt8.ofNat a).toNat:Nat):Int)) w:=by
 have:=Fy (P:=P) (w:=w) (dst:=dst) (ty:=ty) (pos:=pos) (af:=af) (g:=g) hx hs hd
 have e:IntKind.u8.wrap ((a:Nat):Int)=(((UInt8.ofNat a).toNat:Nat):Int):=by
  rw[UInt8.toNat_ofNat']
  simp[IntKind.wrap,IntKind.bits,IntKind.signed]
 rwa[e]at this
end
theorem Pa (m:Nat):(UInt8.ofNat m).toNat|||128=(UInt8.ofNat (m%128+128)).toNat:=by
 rw[UInt8.toNat_ofNat',UInt8.toNat_ofNat']
 have h:∀k:Nat,k<256->k|||128=k%128+128:=by decide+kernel
 rw[h _ Zo]
 omega
theorem Kf (a b k:Nat)(h:a<2^k):a|||(b*2^k)=a+b*2^k:=by
 have:=Nat.two_pow_add_eq_or_of_lt h b
 rw[Nat.or_comm,Abb,<-this];omega
end Go.Proofs.YtjkaicjmfgekjaaGreatDoor
