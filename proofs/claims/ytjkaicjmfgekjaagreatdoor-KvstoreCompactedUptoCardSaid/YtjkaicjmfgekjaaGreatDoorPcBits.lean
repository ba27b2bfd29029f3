/-
  Bits
-/
import Derived.Test.YtjkaicjmfgekjaaGreatDoorPcSteps
import Derived.Laws.BitsAllLaws
import Derived.Laws.Unary
set_option linter.all false
namespace Go.Proofs.YtjkaicjmfgekjaaGreatDoor
def KM :IntKind->Nat
 | .i8=>2^7| .i16=>2^15| .i32=>2^31| .i64=>2^63| .u8=>2^8| .u16=>2^16| .u32=>2^32| .u64=>2^64
def KB :IntKind->Nat
 | .i8=>7| .i16=>15| .i32=>31| .i64=>63| .u8=>8| .u16=>16| .u32=>32| .u64=>64
def Rd (kd:IntKind):KM kd=2^KB kd:=by cases kd<;>rfl
def gI (kd:IntKind):KB kd<=kd.bits:=by cases kd<;>decide
def Og (kd:IntKind)(r:Nat)(h:r<KM kd):kd.wrap ((r:Nat):Int)=((r:Nat):Int):=by
 cases kd<;>simp only[KM]at h<;>simp[IntKind.wrap,IntKind.bits,IntKind.signed]<;>omega
def I3 (kd:IntKind)(a:Nat)(h:a<KM kd):(BitVec.ofInt kd.bits ((a:Nat):Int)).toNat=a:=by
 have h2:a<2^kd.bits:=Aa4 (by rw[<-Rd];exact h) (Ab8 Zd (gI kd));simp only[BitVec.toNat_ofInt];have:((a:Nat):Int)%((2^kd.bits:Nat):Int)=((a:Nat):Int):=Int.emod_eq_of_lt Zo (by exact_mod_cast h2)
 rw[this];rfl
def Wy (kd:IntKind)(a b:Nat)(ha:a<KM kd)(hb:b<KM kd):bits .and kd (a:Int) (b:Int)=((a&&&b:Nat):Int):=by
 show kd.wrap ((BitVec.ofInt kd.bits (a:Int)&&&BitVec.ofInt kd.bits (b:Int)).toNat:Int)=_
 rw[BitVec.toNat_and,I3 kd a ha,I3 kd b hb];exact Og kd _ (by rw[Rd]at*;exact Nat.and_lt_two_pow _ hb)
def YD (kd:IntKind)(a b:Nat)(ha:a<KM kd)(hb:b<KM kd):bits .or kd (a:Int) (b:Int)=((a|||b:Nat):Int):=by
 show kd.wrap ((BitVec.ofInt kd.bits (a:Int)|||BitVec.ofInt kd.bits (b:Int)).toNat:Int)=_
 rw[BitVec.toNat_or,I3 kd a ha,I3 kd b hb];exact Og kd _ (by rw[Rd]at*;exact Nat.or_lt_two_pow ha hb)
def Re (kd:IntKind)(a b:Nat)(ha:a<KM kd)(hb:b<KM kd):bits .xor kd (a:Int) (b:Int)=((a^^^b:Nat):Int):=by
 show kd.wrap ((BitVec.ofInt kd.bits (a:Int)^^^BitVec.ofInt kd.bits (b:Int)).toNat:Int)=_
 rw[BitVec.toNat_xor,I3 kd a ha,I3 kd b hb];exact Og kd _ (by rw[Rd]at*;exact Nat.xor_lt_two_pow ha hb)
section
variable {P :Program}{n:FN}{ρ:Bd}{w:World}
variable {dst :Option Nat}{ty:TypeId}{pos:String}{af:Array Edge}{g:Option (Nat×Bool)}
variable {t t':TypeId}{x y:Operand}{kd kd':IntKind}{a b:Nat}
def YE (hx:rd n ρ x= .int kd ((a:Nat):Int))(hy:rd n ρ y= .int kd ((b:Nat):Int))(ha:a<KM kd)(hb:b<KM kd):
  X P n ρ ⟨dst,.binOp .and t x y t',ty,pos,af,g⟩ w (.int kd ((a&&&b:Nat):Int)) w:=by
 simp[X,execOp,hx,hy,eqGuard,binOp,intBits_and,intBits_or,intBits_xor,Wy kd a b ha hb]
def YF (hx:rd n ρ x= .int kd ((a:Nat):Int))(hy:rd n ρ y= .int kd ((b:Nat):Int))(j:Nat)(hj:b=2^j-1)(ha:a<KM kd)(hb:b<KM kd):
  X P n ρ ⟨dst,.binOp .and t x y t',ty,pos,af,g⟩ w (.int kd ((a%2^j:Nat):Int)) w:=by
 have:=YE (P:=P) (w:=w) (dst:=dst) (ty:=ty) (pos:=pos) (af:=af) (g:=g) (t:=t) (t':=t') hx hy ha hb
 rwa[hj,Nat.and_two_pow_sub_one_eq_mod]at this
def Rf (hx:rd n ρ x= .int kd ((a:Nat):Int))(hy:rd n ρ y= .int kd ((b:Nat):Int))(ha:a<KM kd)(hb:b<KM kd):
  X P n ρ ⟨dst,.binOp .or t x y t',ty,pos,af,g⟩ w (.int kd ((a|||b:Nat):Int)) w:=by
 simp[X,execOp,hx,hy,eqGuard,binOp,intBits_and,intBits_or,intBits_xor,YD kd a b ha hb]
def Uc (hx:rd n ρ x= .int kd ((a:Nat):Int))(hy:rd n ρ y= .int kd ((b:Nat):Int))(ha:a<KM kd)(hb:b<KM kd):
  X P n ρ ⟨dst,.binOp .xor t x y t',ty,pos,af,g⟩ w (.int kd ((a^^^b:Nat):Int)) w:=by
 simp[X,execOp,hx,hy,eqGuard,binOp,intBits_and,intBits_or,intBits_xor,Re kd a b ha hb]
def Ud (hx:rd n ρ x= .int kd ((a:Nat):Int))(hy:rd n ρ y= .int kd' ((b:Nat):Int))(hb:b<=kd.bits):
  X P n ρ ⟨dst,.binOp .shr t x y t',ty,pos,af,g⟩ w (.int kd ((a/2^b:Nat):Int)) w:=by
 have e:((a:Nat):Int)/2^b=((a/2^b:Nat):Int):=by push_cast;rfl
 have h:=shift_shr kd kd' (a:Int) (b:Int) Zo Zo;rw[Int.toNat_natCast,e]at h;simp[X,execOp,hx,hy,eqGuard,binOp,h]
def PS (hx:rd n ρ x= .int kd ((a:Nat):Int))(hy:rd n ρ y= .int kd' ((b:Nat):Int))(hb:b<=kd.bits)(h:a*2^b<KM kd):
  X P n ρ ⟨dst,.binOp .shl t x y t',ty,pos,af,g⟩ w (.int kd ((a*2^b:Nat):Int)) w:=by
 have e:kd.wrap (((a:Nat):Int)*2^b)=((a*2^b:Nat):Int):=by
  have:=Og kd (a*2^b) h
  push_cast at this⊢
  exact this
 have h:=shift_shl kd kd' (a:Int) (b:Int) Zo Zo;rw[Int.toNat_natCast,e]at h;simp[X,execOp,hx,hy,eqGuard,binOp,h]
def Ue (hx:rd n ρ x= .int kd ((a:Nat):Int))(hy:rd n ρ y= .int kd ((b:Nat):Int))(j m:Nat)(hj:b=2^j-1)(hm:m=2^j)(ha:a<KM kd)(hb:b<KM kd):
  X P n ρ ⟨dst,.binOp .and t x y t',ty,pos,af,g⟩ w (.int kd ((a%m:Nat):Int)) w:=by subst hm;exact YF hx hy j hj ha hb
def HT (m:Nat)(hm:m=2^b)(hx:rd n ρ x= .int kd ((a:Nat):Int))(hy:rd n ρ y= .int kd' ((b:Nat):Int))(hb:b<=kd.bits):
  X P n ρ ⟨dst,.binOp .shr t x y t',ty,pos,af,g⟩ w (.int kd ((a/m:Nat):Int)) w:=by subst hm;exact Ud hx hy hb
def Uf {m:Nat}(hx:rd n ρ x= .int kd ((a:Nat):Int))(hs:kd.signed=false)(hm:kd.max=((m:Nat):Int))(hmk:m<KM kd)(ha:a<KM kd):
  X P n ρ ⟨dst,.unOp .xor t x,ty,pos,af,g⟩ w (.int kd ((m^^^a:Nat):Int)) w:=by
 simp[X,execOp,hx,unary_xor,intBits_xor,hs,hm,Re kd m a hmk ha]
def Es {d:TypeId}{kx:IntKind}(hx:rd n ρ x= .int kx ((a:Nat):Int))(hs:∃u,P.underlying t=some u)(hd:P.underlying d=some (.int kd))(ha:a<KM kd):
  X P n ρ ⟨dst,.convert t d x,ty,pos,af,g⟩ w (.int kd ((a:Nat):Int)) w:=by
 have:=Ia (P:=P) (w:=w) (dst:=dst) (ty:=ty) (pos:=pos) (af:=af) (g:=g) hx hs hd
 rwa[Og kd a ha]at this
def ES {d:TypeId}{kx:IntKind}(hx:rd n ρ x= .int kx ((a:Nat):Int))(hs:∃u,P.underlying t=some u)(hd:P.underlying d=some (.int .u8)):
  X P n ρ ⟨dst,.convert t d x,ty,pos,af,g⟩ w (.int .u8 (((UInt8.ofNat a).toNat:Nat):Int)) w:=by
 have:=Ia (P:=P) (w:=w) (dst:=dst) (ty:=ty) (pos:=pos) (af:=af) (g:=g) hx hs hd
 have e:IntKind.u8.wrap ((a:Nat):Int)=(((UInt8.ofNat a).toNat:Nat):Int):=by
  rw[UInt8.toNat_ofNat'];simp[IntKind.wrap,IntKind.bits,IntKind.signed]
 rwa[e]at this
end
def PT (m:Nat):(UInt8.ofNat m).toNat|||128=(UInt8.ofNat (m%128+128)).toNat:=by
 rw[UInt8.toNat_ofNat',UInt8.toNat_ofNat'];have h:∀k:Nat,k<256->k|||128=k%128+128:=by decide+kernel
 rw[h _ Zo];omega
def KC (a b k:Nat)(h:a<2^k):a|||(b*2^k)=a+b*2^k:=by
 have:=Nat.two_pow_add_eq_or_of_lt h b
 rw[Nat.or_comm,Abc,<-this];omega
end Go.Proofs.YtjkaicjmfgekjaaGreatDoor
