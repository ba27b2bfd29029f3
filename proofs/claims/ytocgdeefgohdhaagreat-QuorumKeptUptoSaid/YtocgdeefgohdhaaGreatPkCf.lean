/-
  Cf, Cg
-/
import Derived.Test.YtocgdeefgohdhaaGreatRows
import Derived.Test.YtocgdeefgohdhaaGreatPkCd
import Derived.Test.YtocgdeefgohdhaaGreatPkCopy
import Derived.Shelf.Lay
import Derived.Shelf.LaySoft
import Derived.Shelf.SlGeneric
import Derived.Shelf.SlSortCmp.NoneTotal
import Derived.Shelf.Strings.FuncGrows
import Derived.Shelf.Strings.Runes
import Derived.Ground.SlsfProg
import Derived.Ground.NamesProg
import Derived.Lib.Overlaps
import Derived.Test.YtocgdeefgohdhaaGreatPkI
set_option linter.all false
set_option maxRecDepth 100000
set_option maxHeartbeats 4000000
namespace Go.Proofs.YtocgdeefgohdhaaGreat
attribute [local irreducible] RD RS St1 RL RA RT RT1 Run
section
open Go.Shelf Go.RowKit Go.Lib Go.Sort
end
section
open Go.Shelf
def sortDL_ren :Go.Shelf.Ren:=⟨fun|6=>171|15=>170|14=>186|28=>184|29=>185|20=>195|21=>196|22=>197|23=>198|24=>199|25=>200|26=>201|27=>202|46=>206|47=>191|48=>192|49=>207|50=>208|57=>210|n=>n,fun|22=>25|24=>87|25=>162|3=>3|39=>191|0=>0|53=>199|55=>22|4=>4|46=>225|45=>224|50=>229|5=>5|9=>9|66=>237|70=>241|76=>249|77=>250|n=>n,fun|n=>n⟩
def sortEL_ren :Go.Shelf.Ren:=⟨fun|6=>163|15=>170|14=>169|28=>184|29=>185|20=>176|21=>177|22=>178|23=>179|24=>180|25=>181|26=>182|27=>183|46=>190|47=>191|48=>192|49=>193|50=>194|57=>205|n=>n,fun|22=>23|24=>89|25=>167|3=>3|39=>191|0=>0|53=>199|55=>22|4=>4|46=>225|45=>224|50=>229|5=>5|9=>9|66=>237|70=>241|76=>249|77=>250|n=>n,fun|n=>n⟩
def cmpSL_ren :Go.Shelf.Ren:=⟨fun|106=>117|213=>123|265=>131|n=>n,fun|9=>9|3=>3|n=>n,fun|n=>n⟩
theorem cmpSL :Go.Proofs.Lays.n106 Tryz.prog cmpSL_ren:={
 mixed:=by kernel_rfl
 f106:=Tryz.func117.trans (congrArg some (by kernel_rfl))
 f213:=Tryz.func123.trans (congrArg some (by kernel_rfl))
 f265:=Tryz.func131.trans (congrArg some (by kernel_rfl))
 t3:=Tryz.underlying3
 a3:=Tryz.isAgg3
 z3:=Tryz.sizeOf3
 v3:=Tryz.zeroValue3
 t9:=Tryz.underlying9
 a9:=Tryz.isAgg9
 z9:=Tryz.sizeOf9
 v9:=Tryz.zeroValue9}
def idxFL_ren :Go.Shelf.Ren:=⟨fun|315=>121|n=>n,fun|9=>9|40=>176|4=>4|3=>3|0=>0|21=>21|n=>n,fun|n=>n⟩
theorem idxFL :Go.Proofs.Lays.n315 Tryz.prog idxFL_ren:={
 mixed:=by kernel_rfl
 f315:=Tryz.func121.trans (congrArg some (by kernel_rfl))
 t0:=Tryz.underlying0
 a0:=Tryz.isAgg0
 z0:=Tryz.sizeOf0
 v0:=Tryz.zeroValue0
 t3:=Tryz.underlying3
 a3:=Tryz.isAgg3
 z3:=Tryz.sizeOf3
 v3:=Tryz.zeroValue3
 t4:=Tryz.underlying4
 a4:=Tryz.isAgg4
 z4:=Tryz.sizeOf4
 v4:=Tryz.zeroValue4
 t9:=Tryz.underlying9
 a9:=Tryz.isAgg9
 z9:=Tryz.sizeOf9
 v9:=Tryz.zeroValue9
 t21:=Tryz.underlying21
 a21:=Tryz.isAgg21
 z21:=Tryz.sizeOf21
 v21:=Tryz.zeroValue21
 t40:=Tryz.underlying176
 a40:=Tryz.isAgg176
 z40:=Tryz.sizeOf176
 v40:=Tryz.zeroValue176}
def idxBL_ren :Go.Shelf.Ren:=⟨fun|137=>127|217=>132|266=>133|n=>n,fun|9=>9|5=>5|3=>3|n=>n,fun|n=>n⟩
theorem idxBL :Go.Proofs.Lays.n137 Tryz.prog idxBL_ren:={
 mixed:=by kernel_rfl
 f137:=Tryz.func127.trans (congrArg some (by kernel_rfl))
 f217:=Tryz.func132.trans (congrArg some (by kernel_rfl))
 f266:=Tryz.func133.trans (congrArg some (by kernel_rfl))
 t3:=Tryz.underlying3
 a3:=Tryz.isAgg3
 z3:=Tryz.sizeOf3
 v3:=Tryz.zeroValue3
 t5:=Tryz.underlying5
 a5:=Tryz.isAgg5
 z5:=Tryz.sizeOf5
 v5:=Tryz.zeroValue5
 t9:=Tryz.underlying9
 a9:=Tryz.isAgg9
 z9:=Tryz.sizeOf9
 v9:=Tryz.zeroValue9}
end
def uqStep (s:List DotC)(x:DotC):List DotC:=if s.getLast? =some x then s else s++[x]
def uniq (l:List DotC):List DotC:=l.foldl uqStep []
theorem take_snocD {α:Type}{xs:List α}{i:Nat}{x:α}(h:xs[i]? =some x):xs.take (i+1)=xs.take i++[x]:=by
 obtain⟨hi,rfl⟩:=List.getElem?_eq_some_iff.1 h
 exact List.take_succ_eq_append_getElem hi
def NoR (xs:List DotC)(i:Nat):Prop:=∀j x y,j+1<i→xs[j+1]? =some x→xs[j]? =some y→x≠y
theorem NoR.one (xs:List DotC):NoR xs 1:=fun _ _ _ h=>absurd h (by omega)
theorem NoR.step {xs:List DotC}{i:Nat}{x y:DotC}(h:NoR xs (i+1))(h1:xs[i+1]? =some x)(h2:xs[i]? =some y)(hn:x≠y):NoR xs (i+2):=fun j a b hj ha hb=>by
 by_cases c:j=i
 ·subst c;rw[h1]at ha;rw[h2]at hb;cases ha;cases hb;exact hn
 ·exact h j a b (by omega) ha hb
instance : Inhabited {d:DotC//mayD d}:=⟨⟨⟨0,1,1⟩,by unfold mayD;decide⟩⟩
section
open Go.Shelf Go.RowKit Go.Lib Go.Sort
def cfD (x y:{d:DotC//mayD d}):Int:=ordD x.1 y.1
end
end Go.Proofs.YtocgdeefgohdhaaGreat
namespace Go.Proofs.YtocgdeefgohdhaaGreat
attribute [local irreducible] RD RS St1 RL RA RT RT1 Run
structure PartsE {α:Type}[Enc α](w:World)(ss:List SH)(bss:List (List α)):Prop where
 len:ss.length=bss.length
 all:∀(i:Nat) (s:SH) (bs:List α),ss[i]? =some s→bss[i]? =some bs→s.len=bs.length∧SlOf w s.a bs
section
variable {α :Type}[Enc α]
theorem PartsE.ext {w w':World}{ss:List SH}{bss:List (List α)}(h:PartsE w ss bss)(k:Ext w w'):PartsE w' ss bss:=
 ⟨h.len,fun i s bs h1 h2=>have h3:=h.all i s bs h1 h2;⟨h3.1,h3.2.ext k⟩⟩
omit [Enc α]in
omit [Enc α]in
end
def insL {α:Type}(xs:List α)(i:Nat)(x:α):List α:=xs.take i++x::xs.drop i
section
variable {α :Type}[Enc α]
end
attribute [local irreducible] mayD smD ltD ltM ordD mkN Cov CovR
attribute [local irreducible] setX insX setR insR normE joinE normX rnd Raw
def keepF {α:Type}(q:α→Bool)(xs:List α)(j:Nat):List α:=(xs.take j).filter (fun x=> !q x)
end Go.Proofs.YtocgdeefgohdhaaGreat
