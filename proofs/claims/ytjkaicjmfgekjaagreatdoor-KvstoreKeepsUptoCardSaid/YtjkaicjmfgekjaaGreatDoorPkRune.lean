/-
  Rune
-/
import Derived.Test.YtjkaicjmfgekjaaGreatDoorPkCopy
import Derived.Laws.RangeString
import Derived.Lib.OthersKept
import Derived.Laws.Runes
set_option linter.all false
namespace Go.Proofs.YtjkaicjmfgekjaaGreatDoor
def Iv (w:World)(b:Nat)(s:ByteArray)(pos:Nat):Prop:=w.heap[b]? =some (.stringIter s pos)
theorem Iv.lt {w:World}{b:Nat}{s:ByteArray}{pos:Nat}(h:Iv w b s pos):b<w.heap.size:=Cr h
theorem Iv.ext {w w':World}{b:Nat}{s:ByteArray}{pos:Nat}(h:Iv w b s pos)(k:Ap w w'):Iv w' b s pos:=(k.block b h.lt id).trans h
section
variable {P :Program}{f:FuncId}{n:FN}{R:Ending->World->Prop}{k:List Item}{ρ:A8}{w:World}
variable {dst :Option Nat}{ty:TypeId}{pos:String}{af:Array Edge}{K:A8->World->Prop}
theorem AA.rangeStr {t:TypeId}{x:Operand}{s:ByteArray}(ht:P.underlying t=some .string)(hx:rd n ρ x= .string s)
  (h:∀b w',w.heap.size<=b->Iv w' b s 0->Ap w w'->K (Bc ρ dst (.pointer (some ⟨b,0,none⟩))) w'):AA P f n R k ⟨dst,.range t x,ty,pos,af,none⟩ ρ w K:=by
 refine AA.val (v:= .pointer (some ⟨w.heap.size,0,none⟩)) (w':=w.iter s 0) ?_ (h _ _ (Aac _) (World.iter_heap w s 0) (Ap.push w _))
 simp only[execOp,hx,Sem.run_bind,run_range_string w t s ht,Result.andThen_ok,Sem.run_pure]
theorem AA.nextStr {x:Operand}{b p r wd:Nat}{s:ByteArray}(hx:rd n ρ x= .pointer (some ⟨b,0,none⟩))(hi:Iv w b s p)(hp:p<s.size)(hd:Utf8.decode s p=(r,wd))
  (h:∀w',Iv w' b s (p+wd)->Ad (one b) w w'->K (Bc ρ dst (.tuple #[.bool true,.int .i64 (p:Int),.int .i32 (r:Int)])) w'):AA P f n R k ⟨dst,.next x true,ty,pos,af,none⟩ ρ w K:=by
 have hr:=Lib.run_next_any_at (P:=P) w b s p ty hi hp
 rw[hd]at hr
 refine AA.val (v:= .tuple #[.bool true,.int .i64 (p:Int),.int .i32 (r:Int)]) (w':=w.iterAt b s (p+wd)) ?_ (h _ (Lib.iterAt_heap w b s p _ hi) ⟨rfl,rfl,rfl,by rw[Lib.iterAt_size];exact Aac _,fun j _ hj=>Lib.iterAt_other w b j s _ hj⟩)
 simp only[execOp,hx,Sem.run_bind,hr,Result.andThen_ok,Sem.run_pure]
theorem AA.nextEnd {x:Operand}{b p:Nat}{s:ByteArray}(hx:rd n ρ x= .pointer (some ⟨b,0,none⟩))(hi:Iv w b s p)(hp:¬p<s.size)
  (h:K (Bc ρ dst (.tuple #[.bool false])) w):AA P f n R k ⟨dst,.next x true,ty,pos,af,none⟩ ρ w K:=by
 have hr:=Lib.run_next_end_at (P:=P) w b s p ty hi hp
 refine AA.val (v:= .tuple #[.bool false]) (w':=w) ?_ h
 simp only[execOp,hx,Sem.run_bind,hr,Result.andThen_ok,Sem.run_pure]
theorem SB {t t':TypeId}{x:Operand}{kd:IntKind}{r:Int}{g:Option (Nat×Bool)}(ht:(P.underlying t).isSome=true)(ht':P.underlying t'=some .string)(hx:rd n ρ x= .int kd r):
  X P n ρ ⟨dst,.convert t t' x,ty,pos,af,g⟩ w (.string (Utf8.encode r)) w:=by
 simp only[X,execOp,hx,Sem.run_bind,run_convert_int_string w t t' kd r ht ht',Result.andThen_ok,Sem.run_pure]
end
theorem PR {r:Int}(hv:Utf8.valid r=true)(h:128<=r):∃(m:Nat) (c:UInt8),1<=m∧m<=3∧(Utf8.encode r).size=m+1∧(Utf8.encode r).data.toList[m]? =some c∧128<=c.toNat:=by
 have hb:∀n,n<64->128<=(UInt8.ofNat (128+n)).toNat:=fun n hn=>by rw[UInt8.toNat_ofNat'];omega
 unfold Utf8.encode
 simp only[hv,if_true]
 split
 ·rename_i h2;omega
 ·split
  ·exact⟨1,_,by decide,by decide,rfl,rfl,hb _ (Aa0 _ Zd)⟩
  ·split
   ·exact⟨2,_,by decide,by decide,rfl,rfl,hb _ (Aa0 _ Zd)⟩
   ·exact⟨3,_,by decide,by decide,rfl,rfl,hb _ (Aa0 _ Zd)⟩
end Go.Proofs.YtjkaicjmfgekjaaGreatDoor
