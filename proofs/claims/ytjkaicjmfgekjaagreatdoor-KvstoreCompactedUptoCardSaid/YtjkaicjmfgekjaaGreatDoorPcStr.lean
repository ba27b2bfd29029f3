/-
  Str
-/
import Derived.Test.YtjkaicjmfgekjaaGreatDoorPcLoop
import Derived.Laws.IdiomStrings
import Derived.Sort.Walk0
import Derived.Sort.KeysCollected
import Derived.Laws.BitsAllLaws
set_option linter.all false
namespace Go.Proofs.YtjkaicjmfgekjaaGreatDoor
section
variable {P :Program}{n:FN}{ρ:Bd}{w:World}{dst:Option Nat}{ty:TypeId}{pos:String}{af:Array Edge}{g:Option (Nat×Bool)}
def WA {s d e : TypeId} {x : Operand} {a : Option Addr} {c : Nat} {xs : List UInt8} (hs : P.underlying s = some (.slice e)) (he : P.underlying e = some (.int .u8)) (hd : P.underlying d = some .string)
    (hx : rd n ρ x = .slice a xs.length c) (h : Ax w a xs) : X P n ρ ⟨dst, .convert s d x, ty, pos, af, g⟩ w (.string ⟨xs.toArray⟩) w := by
  have hr : (convert s d (.slice a xs.length c)).run P w = .ok (.string ⟨xs.toArray⟩) w := by
    cases a with
    | none =>
      have := h.nil_of rfl;subst this;rw [run_convert_bytes_string w s d e none _ c hs he hd];simp [Conv.bytesToString, Sem.run_pure];rfl
    | some ad =>
      refine run_convert_bytes_back w s d e ad c xs hs he hd λj hj => ?_;rcases h with rfl | ⟨b, o, ha, hc⟩
      · simp at hj
      simp only [Option.some.injEq] at ha;subst ha;rw [Addr.add_lit];refine hc.cell ?_;rw [HQ, Aaz, List.getElem?_eq_getElem hj];rfl
  simp only [X, execOp, hx, Sem.run_bind, hr, Result.andThen_ok, Sem.run_pure]
def YG {t t':TypeId}{x y:Operand}{a b:ByteArray}(hx:rd n ρ x= .string a)(hy:rd n ρ y= .string b)(hs:a.size+b.size<=9223372036854775807):X P n ρ ⟨dst,.binOp .add t x y t',ty,pos,af,g⟩ w (.string (a++b)) w:=by
 have e:IntKind.i64.max=9223372036854775807:=rfl;have h:¬((a.size+b.size:Nat):Int)>IntKind.i64.max:=by rw[e];omega
 have h2:¬(IntKind.i64.max<(a.size:Int)+(b.size:Int)):=by rw[e];omega
 simp[X,execOp,hx,hy,eqGuard,binOp,Op.stringOp,h2];omega
def Sn {t:TypeId}{x hi:Operand}{s:ByteArray}{kd:IntKind}{j:Nat}(ht:P.underlying t=some .string)(hx:rd n ρ x= .string s)(hj:rd n ρ hi= .int kd (j:Int))(h:j<=s.size):
  X P n ρ ⟨dst,.slice t x none (some hi) none,ty,pos,af,g⟩ w (.string (s.extract 0 j)) w:=by
 have hb:(Instr.sliceBounds false s.size s.size none (some (.int kd (j:Int))) none).run P w= .ok (0,j,s.size) w:=by simp[Instr.sliceBounds,Instr.sliceBound,asIntOf,h]
 simp only[X,execOp,hx,Instr.sliceAt,Sem.run_bind,run_underlying ht,Result.andThen_ok,Instr.slice,AbR,AaL,hj,Aca,Abk,if_false,hb,Sem.run_pure]
def JG {t:TypeId}{x lo:Operand}{s:ByteArray}{kd:IntKind}{i:Nat}(ht:P.underlying t=some .string)(hx:rd n ρ x= .string s)(hi:rd n ρ lo= .int kd (i:Int))(h:i<=s.size):
  X P n ρ ⟨dst,.slice t x (some lo) none none,ty,pos,af,g⟩ w (.string (s.extract i s.size)) w:=by
 have hb:(Instr.sliceBounds false s.size s.size (some (.int kd (i:Int))) none none).run P w= .ok (i,s.size,s.size) w:=by simp[Instr.sliceBounds,Instr.sliceBound,asIntOf,h]
 simp only[X,execOp,hx,Instr.sliceAt,Sem.run_bind,run_underlying ht,Result.andThen_ok,Instr.slice,AbR,AaL,hi,Aca,Abk,if_false,hb,Sem.run_pure]
end
end Go.Proofs.YtjkaicjmfgekjaaGreatDoor
