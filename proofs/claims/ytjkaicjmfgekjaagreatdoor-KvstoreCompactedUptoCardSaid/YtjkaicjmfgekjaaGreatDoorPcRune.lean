/-
  Rune
-/
import Derived.Test.YtjkaicjmfgekjaaGreatDoorPcCopy
import Derived.Laws.RangeString
import Derived.Lib.OthersKept
import Derived.Laws.Runes
set_option linter.all false
namespace Go.Proofs.YtjkaicjmfgekjaaGreatDoor
def IH (w:World)(b:Nat)(s:ByteArray)(pos:Nat):Prop:=w.heap[b]? =some (.stringIter s pos)
def IH.lt {w:World}{b:Nat}{s:ByteArray}{pos:Nat}(h:IH w b s pos):b<w.heap.size:=CH h
def IH.ext {w w':World}{b:Nat}{s:ByteArray}{pos:Nat}(h:IH w b s pos)(k:As w w'):IH w' b s pos:=(k.block b h.lt id).trans h
section
variable {P :Program}{f:FuncId}{n:FN}{R:Ending->World->Prop}{k:List Item}{ρ:Bd}{w:World}
variable {dst :Option Nat}{ty:TypeId}{pos:String}{af:Array Edge}{K:Bd->World->Prop}
def AB.rangeStr {t:TypeId}{x:Operand}{s:ByteArray}(ht:P.underlying t=some .string)(hx:rd n ρ x= .string s)
  (h:∀b w',w.heap.size<=b->IH w' b s 0->As w w'->K (Bj ρ dst (.pointer (some ⟨b,0,none⟩))) w'):AB P f n R k ⟨dst,.range t x,ty,pos,af,none⟩ ρ w K:=by
 refine AB.val (v:= .pointer (some ⟨w.heap.size,0,none⟩)) (w':=w.iter s 0) ?_ (h _ _ (Aac _) (World.iter_heap w s 0) (As.push w _));simp only[execOp,hx,Sem.run_bind,run_range_string w t s ht,Result.andThen_ok,Sem.run_pure]
def AB.nextStr {x:Operand}{b p r wd:Nat}{s:ByteArray}(hx:rd n ρ x= .pointer (some ⟨b,0,none⟩))(hi:IH w b s p)(hp:p<s.size)(hd:Utf8.decode s p=(r,wd))
  (h:∀w',IH w' b s (p+wd)->Ae (one b) w w'->K (Bj ρ dst (.tuple #[.bool true,.int .i64 (p:Int),.int .i32 (r:Int)])) w'):AB P f n R k ⟨dst,.next x true,ty,pos,af,none⟩ ρ w K:=by
 have hr:=Lib.run_next_any_at (P:=P) w b s p ty hi hp;rw[hd]at hr;refine AB.val (v:= .tuple #[.bool true,.int .i64 (p:Int),.int .i32 (r:Int)]) (w':=w.iterAt b s (p+wd)) ?_ (h _ (Lib.iterAt_heap w b s p _ hi) ⟨rfl,rfl,rfl,by rw[Lib.iterAt_size];exact Aac _,λj _ hj=>Lib.iterAt_other w b j s _ hj⟩);simp only[execOp,hx,Sem.run_bind,hr,Result.andThen_ok,Sem.run_pure]
def AB.nextEnd {x:Operand}{b p:Nat}{s:ByteArray}(hx:rd n ρ x= .pointer (some ⟨b,0,none⟩))(hi:IH w b s p)(hp:¬p<s.size)
  (h:K (Bj ρ dst (.tuple #[.bool false])) w):AB P f n R k ⟨dst,.next x true,ty,pos,af,none⟩ ρ w K:=by
 have hr:=Lib.run_next_end_at (P:=P) w b s p ty hi hp;refine AB.val (v:= .tuple #[.bool false]) (w':=w) ?_ h;simp only[execOp,hx,Sem.run_bind,hr,Result.andThen_ok,Sem.run_pure]
def Tf {t t':TypeId}{x:Operand}{kd:IntKind}{r:Int}{g:Option (Nat×Bool)}(ht:(P.underlying t).isSome=true)(ht':P.underlying t'=some .string)(hx:rd n ρ x= .int kd r):
  X P n ρ ⟨dst,.convert t t' x,ty,pos,af,g⟩ w (.string (Utf8.encode r)) w:=by
 simp only[X,execOp,hx,Sem.run_bind,run_convert_int_string w t t' kd r ht ht',Result.andThen_ok,Sem.run_pure]
end
def QC {r:Int}(hv:Utf8.valid r=true)(h:128<=r):∃(m:Nat) (c:UInt8),1<=m/\m<=3/\(Utf8.encode r).size=m+1/\(Utf8.encode r).data.toList[m]? =some c/\128<=c.toNat:=by
 have hb:∀n,n<64->128<=(UInt8.ofNat (128+n)).toNat:=λn hn=>by rw[UInt8.toNat_ofNat'];omega
 unfold Utf8.encode;simp only[hv,if_true];split
 ·rename_i h2;omega
 split
 ·exact⟨1,_,by decide,by decide,rfl,rfl,hb _ (Abb _ Zd)⟩
 split
 ·exact⟨2,_,by decide,by decide,rfl,rfl,hb _ (Abb _ Zd)⟩
 exact⟨3,_,by decide,by decide,rfl,rfl,hb _ (Abb _ Zd)⟩
end Go.Proofs.YtjkaicjmfgekjaaGreatDoor
