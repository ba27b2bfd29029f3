/-
  Cf, Cg
-/
import Derived.Test.YtjkaicjmfgekjaaGreatDoorRows
import Derived.Test.YtjkaicjmfgekjaaGreatDoorPkCd
import Derived.Test.YtjkaicjmfgekjaaGreatDoorPkCopy
import Derived.Shelf.Lay
import Derived.Shelf.LaySoft
import Derived.Shelf.SlGeneric
import Derived.Shelf.SlSortCmp.NoneTotal
import Derived.Shelf.Strings.FuncGrows
import Derived.Shelf.Strings.Runes
import Derived.Ground.SlsfProg
import Derived.Ground.NamesProg
import Derived.Lib.Overlaps
import Derived.Test.YtjkaicjmfgekjaaGreatDoorPkI
set_option linter.all false
set_option maxRecDepth 100000
set_option maxHeartbeats 4000000
namespace Go.Proofs.YtjkaicjmfgekjaaGreatDoor
open Go.Proofs.Tryz
attribute [local irreducible] RD RS Av RL RA RT CJ Aj
section
open Go.Shelf Go.RowKit Go.Lib Go.Sort
theorem Ji {α β:Type}[Inhabited α][Enc β](f:α→β)(ts:List α):(flatK (fun x=>cellsOf (f x)) (Enc.size β) ts.toArray).toList=AB (ts.map f):=by
 have hk:=Enc.pos (α:=β)
 apply List.ext_getElem?
 intro t
 by_cases ht:t<ts.length*Enc.size β
 ·have hd:t/Enc.size β<ts.length:=Nat.div_lt_of_lt_mul (by rw[Nat.mul_comm];exact ht)
  have hm:t%Enc.size β<Enc.size β:=Nat.mod_lt _ hk
  have hlen:(cellsOf (f ts[t/Enc.size β])).length=Enc.size β:=Ax _
  have h1:=FF (ts.map f) (t/Enc.size β) (by simpa using hd) (t%Enc.size β) ((cellsOf (f ts[t/Enc.size β]))[t%Enc.size β]'(by omega)) (by
   rw[List.getElem_map];exact List.getElem?_eq_getElem Zo)
  rw[show t/Enc.size β*Enc.size β+t%Enc.size β=t from Nat.div_add_mod' t _]at h1
  rw[h1,Array.getElem?_toList]
  have h2:=get_flatK (fun x=>cellsOf (f x)) (Enc.size β) ts.toArray t (by simpa using ht)
  have h3:t<(flatK (fun x=>cellsOf (f x)) (Enc.size β) ts.toArray).size:=by rw[size_flatK];simpa using ht
  rw[getElem!_pos _ t h3]at h2
  rw[Array.getElem?_eq_getElem h3,h2,getElem!_pos ts.toArray _ (by simpa using hd)]
  simp only[List.getElem_toArray]
  rw[getElem!_pos _ _ Zo]
 ·rw[Array.getElem?_toList,Array.getElem?_eq_none (by rw[size_flatK];simpa using Nat.le_of_not_lt ht),List.getElem?_eq_none (by rw[Aw,List.length_map];omega)]
theorem PV {α β:Type}[Inhabited α][Enc β](f:α→β){w:World}{g:Nat}{T:TypeId}{cur:Array Value}(ds:List α)(hb:w.heap[g]? =some (.cells cur T (0,0)))
  (ht:cur.toList.take (ds.length*Enc.size β)=AB (ds.map f)):HoldsK (fun x=>cellsOf (f x)) (Enc.size β) w g 0 ds.toArray:=by
 intro j hj
 have hj':j<ds.length*Enc.size β:=by simpa using hj
 refine⟨?_,by simp[World.frozen?,hb]⟩
 have h1:(cur.toList.take (ds.length*Enc.size β))[j]? =(AB (ds.map f))[j]? :=by rw[ht]
 rw[List.getElem?_take_of_lt hj',←Ji f ds,Array.getElem?_toList,Array.getElem?_toList,Array.getElem?_eq_getElem (xs:=flatK (fun x=>cellsOf (f x)) (Enc.size β) ds.toArray) hj]at h1
 simp only[World.cell?,hb,Nat.zero_add,Option.isSome_none,Bool.false_eq_true,if_false]
 rw[h1,getElem!_pos _ j hj];rfl
theorem V0 {w:World}{g n:Nat}{os:Array Obj}{cur:Array Value}{e:TypeId}{fr:Nat×Nat}(d:Array Value)(hb:w.heap[g]? =some (.cells cur e fr)):
  (grow (putRow id (Sort.ahead w n) g 0 d) os).heap[g]? =some (.cells (putCells id 0 d cur) e fr):=by
 have hg:g<w.heap.size:=(Array.getElem?_eq_some_iff.1 hb).1
 rw[heap_grow_old _ _ (by simpa using hg)]
 have hb':(Sort.ahead w n).heap[g]? =some (.cells cur e fr):=hb
 simp only[putRow,mapBlock,Array.getElem?_modify,hb']
 simp[onCells]
theorem U6 {w:World}{g n:Nat}{os:Array Obj}(d:Array Value):Ah (own (some ⟨g,0,none⟩)) w (grow (putRow id (Sort.ahead w n) g 0 d) os):=by
 refine⟨rfl,rfl,rfl,by simp,fun k hk hne=> ?_⟩
 rw[heap_grow_old _ _ (by simpa using hk)]
 have:g≠k:=fun e=>hne (Ch.2 e)
 simp[putRow,mapBlock,Sort.ahead,Array.getElem?_modify,this]
theorem V1 (cur:Array Value)(F:Array Value)(h:F.size≤cur.size):(putCells id 0 F cur).toList.take F.size=F.toList:=by
 apply List.ext_getElem?
 intro j
 by_cases hj:j<F.size
 ·rw[List.getElem?_take_of_lt hj,Array.getElem?_toList]
  simp[putCells,hj,show j<cur.size by omega]
 ·rw[List.getElem?_take_eq_none Zo,List.getElem?_eq_none Zi]
theorem WA {α β:Type}[Inhabited α][Enc β](f:α→β){w:World}{g n cap:Nat}{T:TypeId}{os:Array Obj}{cur:Array Value}(ts:List α)(hb:w.heap[g]? =some (.cells cur T (0,0)))
  (h1:ts.length≤cap) (h2:cap≤maxLen) (h3:cur.size=cap*Enc.size β):Af (sortWorldK (fun x=>cellsOf (f x)) (Enc.size β) w g 0 n ts.toArray os) T (some ⟨g,0,none⟩) cap (ts.map f):=by
 have hs:(flatK (fun x=>cellsOf (f x)) (Enc.size β) ts.toArray).size=ts.length*Enc.size β:=by rw[size_flatK];simp
 refine⟨Aw _,.inr ⟨g,cap,_,by rw[List.length_map],Nat.zero_le _,V0 _ hb,by rw[List.length_map];exact h1,h2,by simp[putCells,h3],?_⟩⟩
 rw[List.length_map,←hs,V1 _ _ (by rw[hs,h3];exact Nat.mul_le_mul_right _ h1),Ji]
theorem Mt {α β:Type}(f:α→β)(r:α→α→Bool)(s:β→β→Bool)(h:∀a b,r a b=s (f a) (f b))(l:List α):(l.mergeSort r).map f=(l.map f).mergeSort s:=
 List.map_mergeSort fun a _ b _=>h a b
theorem OS {P:Program}{ρ:Ren}{α β:Type}[Inhabited α][Enc β](L:SlLaysF0.n6 P ρ)(f:α→β)(aE:∀w,(isAgg (ρ.t 24)).run P w= .ok true w)(zE:∀w,(Go.sizeOf (ρ.t 24)).run P w= .ok (Enc.size β) w)
  (cf:α→α→Int) (hO:SWO (ltOf cf)) (hT:∀x y,(ltOf cf) x y=false→(ltOf cf) y x=false→x=y) (g:Nat) (eg:∀args w,(callFunc g args).run P w= .ok (.enter g args) w)
  (hcmp:∀x y W,Calls P g #[.agg (cellsOf (f x)).toArray,.agg (cellsOf (f y)).toArray] W fun e w'=>e= .returned (.int .i64 (cf x y))∧∃q os',w'=grow (W.drewN q) os')
  {T:TypeId} {a:Option Addr} {c:Nat} {w:World} (ds:List α) (ho:Af w T a c (ds.map f)) (hl:ds.length≤4294967295):
  Calls P (ρ.f 6) #[.slice a (ds.map f).length c,.func (.func g) #[] #[]] w (AS fun v w'=>v= .tuple #[]∧Af w' T a c ((ds.mergeSort (fun x y=> !(ltOf cf) y x)).map f)∧Ah (own a) w w'):=by
 rcases ho.cases with⟨rfl,rfl,h0⟩|⟨g',cur,rfl,hb,h1,h2,h3,h4⟩
 ·have:ds=[]:=by cases ds with|nil=>rfl|cons _ _=>cases h0
  subst this
  exact(AnyF.slices_SortFunc_none L none 0 _ w).mono fun e w' h=>⟨_,h.1,rfl,by rw[h.2];simpa using Af.nil _ _,by rw[h.2];exact Ah.refl _ _⟩
 ·rw[List.length_map]at h1 h4
  have hH:=PV f ds hb h4
  have h:=AnyQ.slices_SortFunc_total L (Enc.size β) aE zE (fun x=>cellsOf (f x)) (fun x=>Ax _) (fun x v hv=>Enc.plain (f x) v hv) cf hO g #[] g' 0 c ds.toArray w eg (fun m os dk _ x y=>hcmp x y _) hH (BT hb) Zi hT
  rw[List.length_map]
  refine(show Calls P (ρ.f 6) #[.slice (some ⟨g',0,none⟩) ds.length c,.func (.func g) #[] #[]] w _ from by simpa using h).mono fun e w' he=> ?_
  obtain⟨rfl,n,os,rfl⟩:=he
  exact⟨_,rfl,rfl,by simpa using WA f (ds.mergeSort (fun x y=> !(ltOf cf) y x)) hb (by rw[List.length_mergeSort];exact h1) h2 h3,U6 _⟩
end
section
open Go.Shelf
def sortDL_ren :Go.Shelf.Ren:=⟨fun|6=>241|15=>210|14=>281|28=>254|29=>255|20=>323|21=>324|22=>325|23=>326|24=>327|25=>328|26=>329|27=>330|46=>348|47=>285|48=>286|49=>349|50=>350|57=>357|n=>n,fun|22=>29|24=>73|25=>211|3=>3|39=>106|0=>0|53=>84|55=>74|4=>4|46=>299|45=>298|50=>228|5=>5|9=>9|66=>325|70=>318|76=>360|77=>361|n=>n,fun|n=>n⟩
theorem sortDL :Go.Proofs.SlLaysF0.n6 prog sortDL_ren:={
 mixed:=by kernel_rfl
 f6:=⟨Tryz.f241.name,by decide,func241.trans (congrArg some Zk)⟩
 f14:=⟨Tryz.f281.name,by decide,func281.trans (congrArg some Zk)⟩
 f15:=func210.trans (congrArg some Zk)
 f20:=⟨Tryz.f323.name,by decide,func323.trans (congrArg some Zk)⟩
 f21:=⟨Tryz.f324.name,by decide,func324.trans (congrArg some Zk)⟩
 f22:=⟨Tryz.f325.name,by decide,func325.trans (congrArg some Zk)⟩
 f23:=⟨Tryz.f326.name,by decide,func326.trans (congrArg some Zk)⟩
 f24:=⟨Tryz.f327.name,by decide,func327.trans (congrArg some Zk)⟩
 f25:=⟨Tryz.f328.name,by decide,func328.trans (congrArg some Zk)⟩
 f26:=⟨Tryz.f329.name,by decide,func329.trans (congrArg some Zk)⟩
 f27:=⟨Tryz.f330.name,by decide,func330.trans (congrArg some Zk)⟩
 f28:=func254.trans (congrArg some Zk)
 f29:=func255.trans (congrArg some Zk)
 f46:=⟨Tryz.f348.name,by decide,func348.trans (congrArg some Zk)⟩
 f47:=func285.trans (congrArg some Zk)
 f48:=func286.trans (congrArg some Zk)
 f49:=⟨Tryz.f349.name,by decide,func349.trans (congrArg some Zk)⟩
 f50:=⟨Tryz.f350.name,by decide,func350.trans (congrArg some Zk)⟩
 f57:=⟨Tryz.f357.name,by decide,func357.trans (congrArg some Zk)⟩
 t0:=underlying0
 a0:=Tryz.isAgg0
 z0:=Tryz.sizeOf0
 v0:=Tryz.zeroValue0
 t3:=underlying3
 a3:=Tryz.isAgg3
 z3:=Tryz.sizeOf3
 v3:=Tryz.zeroValue3
 t4:=underlying4
 a4:=Tryz.isAgg4
 z4:=Tryz.sizeOf4
 v4:=Tryz.zeroValue4
 t5:=underlying5
 a5:=Tryz.isAgg5
 z5:=Tryz.sizeOf5
 v5:=Tryz.zeroValue5
 t9:=underlying9
 a9:=Tryz.isAgg9
 z9:=Tryz.sizeOf9
 v9:=Tryz.zeroValue9
 t22:=underlying29
 a22:=Tryz.isAgg29
 z22:=Tryz.sizeOf29
 v22:=Tryz.zeroValue29
 t25:=underlying211
 a25:=Tryz.isAgg211
 z25:=Tryz.sizeOf211
 v25:=Tryz.zeroValue211
 t39:=underlying106
 a39:=Tryz.isAgg106
 z39:=Tryz.sizeOf106
 v39:=Tryz.zeroValue106
 t45:=underlying298
 a45:=Tryz.isAgg298
 z45:=Tryz.sizeOf298
 v45:=Tryz.zeroValue298
 t46:=underlying299
 a46:=Tryz.isAgg299
 z46:=Tryz.sizeOf299
 v46:=Tryz.zeroValue299
 t50:=underlying228
 a50:=Tryz.isAgg228
 z50:=Tryz.sizeOf228
 v50:=Tryz.zeroValue228
 t53:=underlying84
 a53:=Tryz.isAgg84
 z53:=Tryz.sizeOf84
 v53:=Tryz.zeroValue84
 t55:=underlying74
 a55:=Tryz.isAgg74
 z55:=Tryz.sizeOf74
 v55:=Tryz.zeroValue74
 t66:=underlying325
 a66:=Tryz.isAgg325
 z66:=Tryz.sizeOf325
 v66:=Tryz.zeroValue325
 t70:=underlying318
 a70:=Tryz.isAgg318
 z70:=Tryz.sizeOf318
 v70:=Tryz.zeroValue318
 t76:=underlying360
 a76:=Tryz.isAgg360
 z76:=Tryz.sizeOf360
 v76:=Tryz.zeroValue360
 t77:=underlying361
 a77:=Tryz.isAgg361
 z77:=Tryz.sizeOf361
 v77:=Tryz.zeroValue361}
def sortEL_ren :Go.Shelf.Ren:=⟨fun|6=>151|15=>210|14=>209|28=>254|29=>255|20=>246|21=>247|22=>248|23=>249|24=>250|25=>251|26=>252|27=>253|46=>284|47=>285|48=>286|49=>287|50=>288|57=>331|n=>n,fun|22=>27|24=>76|25=>213|3=>3|39=>106|0=>0|53=>84|55=>74|4=>4|46=>299|45=>298|50=>228|5=>5|9=>9|66=>325|70=>318|76=>360|77=>361|n=>n,fun|n=>n⟩
theorem sortEL :Go.Proofs.SlLaysF0.n6 prog sortEL_ren:={
 mixed:=by kernel_rfl
 f6:=⟨Tryz.f151.name,by decide,func151.trans (congrArg some Zk)⟩
 f14:=⟨Tryz.f209.name,by decide,func209.trans (congrArg some Zk)⟩
 f15:=func210.trans (congrArg some Zk)
 f20:=⟨Tryz.f246.name,by decide,func246.trans (congrArg some Zk)⟩
 f21:=⟨Tryz.f247.name,by decide,func247.trans (congrArg some Zk)⟩
 f22:=⟨Tryz.f248.name,by decide,func248.trans (congrArg some Zk)⟩
 f23:=⟨Tryz.f249.name,by decide,func249.trans (congrArg some Zk)⟩
 f24:=⟨Tryz.f250.name,by decide,func250.trans (congrArg some Zk)⟩
 f25:=⟨Tryz.f251.name,by decide,func251.trans (congrArg some Zk)⟩
 f26:=⟨Tryz.f252.name,by decide,func252.trans (congrArg some Zk)⟩
 f27:=⟨Tryz.f253.name,by decide,func253.trans (congrArg some Zk)⟩
 f28:=func254.trans (congrArg some Zk)
 f29:=func255.trans (congrArg some Zk)
 f46:=⟨Tryz.f284.name,by decide,func284.trans (congrArg some Zk)⟩
 f47:=func285.trans (congrArg some Zk)
 f48:=func286.trans (congrArg some Zk)
 f49:=⟨Tryz.f287.name,by decide,func287.trans (congrArg some Zk)⟩
 f50:=⟨Tryz.f288.name,by decide,func288.trans (congrArg some Zk)⟩
 f57:=⟨Tryz.f331.name,by decide,func331.trans (congrArg some Zk)⟩
 t0:=underlying0
 a0:=Tryz.isAgg0
 z0:=Tryz.sizeOf0
 v0:=Tryz.zeroValue0
 t3:=underlying3
 a3:=Tryz.isAgg3
 z3:=Tryz.sizeOf3
 v3:=Tryz.zeroValue3
 t4:=underlying4
 a4:=Tryz.isAgg4
 z4:=Tryz.sizeOf4
 v4:=Tryz.zeroValue4
 t5:=underlying5
 a5:=Tryz.isAgg5
 z5:=Tryz.sizeOf5
 v5:=Tryz.zeroValue5
 t9:=underlying9
 a9:=Tryz.isAgg9
 z9:=Tryz.sizeOf9
 v9:=Tryz.zeroValue9
 t22:=underlying27
 a22:=Tryz.isAgg27
 z22:=Tryz.sizeOf27
 v22:=Tryz.zeroValue27
 t25:=underlying213
 a25:=Tryz.isAgg213
 z25:=Tryz.sizeOf213
 v25:=Tryz.zeroValue213
 t39:=underlying106
 a39:=Tryz.isAgg106
 z39:=Tryz.sizeOf106
 v39:=Tryz.zeroValue106
 t45:=underlying298
 a45:=Tryz.isAgg298
 z45:=Tryz.sizeOf298
 v45:=Tryz.zeroValue298
 t46:=underlying299
 a46:=Tryz.isAgg299
 z46:=Tryz.sizeOf299
 v46:=Tryz.zeroValue299
 t50:=underlying228
 a50:=Tryz.isAgg228
 z50:=Tryz.sizeOf228
 v50:=Tryz.zeroValue228
 t53:=underlying84
 a53:=Tryz.isAgg84
 z53:=Tryz.sizeOf84
 v53:=Tryz.zeroValue84
 t55:=underlying74
 a55:=Tryz.isAgg74
 z55:=Tryz.sizeOf74
 v55:=Tryz.zeroValue74
 t66:=underlying325
 a66:=Tryz.isAgg325
 z66:=Tryz.sizeOf325
 v66:=Tryz.zeroValue325
 t70:=underlying318
 a70:=Tryz.isAgg318
 z70:=Tryz.sizeOf318
 v70:=Tryz.zeroValue318
 t76:=underlying360
 a76:=Tryz.isAgg360
 z76:=Tryz.sizeOf360
 v76:=Tryz.zeroValue360
 t77:=underlying361
 a77:=Tryz.isAgg361
 z77:=Tryz.sizeOf361
 v77:=Tryz.zeroValue361}
def cmpSL_ren :Go.Shelf.Ren:=⟨fun|106=>172|213=>224|265=>273|n=>n,fun|9=>9|3=>3|n=>n,fun|n=>n⟩
theorem cmpSL :Go.Proofs.Lays.n106 prog cmpSL_ren:={
 mixed:=by kernel_rfl
 f106:=func172.trans (congrArg some Zk)
 f213:=func224.trans (congrArg some Zk)
 f265:=func273.trans (congrArg some Zk)
 t3:=underlying3
 a3:=Tryz.isAgg3
 z3:=Tryz.sizeOf3
 v3:=Tryz.zeroValue3
 t9:=underlying9
 a9:=Tryz.isAgg9
 z9:=Tryz.sizeOf9
 v9:=Tryz.zeroValue9}
def idxFL_ren :Go.Shelf.Ren:=⟨fun|315=>239|n=>n,fun|9=>9|40=>257|4=>4|3=>3|0=>0|21=>21|n=>n,fun|n=>n⟩
theorem idxFL :Go.Proofs.Lays.n315 prog idxFL_ren:={
 mixed:=by kernel_rfl
 f315:=func239.trans (congrArg some Zk)
 t0:=underlying0
 a0:=Tryz.isAgg0
 z0:=Tryz.sizeOf0
 v0:=Tryz.zeroValue0
 t3:=underlying3
 a3:=Tryz.isAgg3
 z3:=Tryz.sizeOf3
 v3:=Tryz.zeroValue3
 t4:=underlying4
 a4:=Tryz.isAgg4
 z4:=Tryz.sizeOf4
 v4:=Tryz.zeroValue4
 t9:=underlying9
 a9:=Tryz.isAgg9
 z9:=Tryz.sizeOf9
 v9:=Tryz.zeroValue9
 t21:=underlying21
 a21:=Tryz.isAgg21
 z21:=Tryz.sizeOf21
 v21:=Tryz.zeroValue21
 t40:=underlying257
 a40:=Tryz.isAgg257
 z40:=Tryz.sizeOf257
 v40:=Tryz.zeroValue257}
def idxBL_ren :Go.Shelf.Ren:=⟨fun|137=>277|217=>322|266=>347|n=>n,fun|9=>9|5=>5|3=>3|n=>n,fun|n=>n⟩
theorem idxBL :Go.Proofs.Lays.n137 prog idxBL_ren:={
 mixed:=by kernel_rfl
 f137:=func277.trans (congrArg some Zk)
 f217:=func322.trans (congrArg some Zk)
 f266:=func347.trans (congrArg some Zk)
 t3:=underlying3
 a3:=Tryz.isAgg3
 z3:=Tryz.sizeOf3
 v3:=Tryz.zeroValue3
 t5:=underlying5
 a5:=Tryz.isAgg5
 z5:=Tryz.sizeOf5
 v5:=Tryz.zeroValue5
 t9:=underlying9
 a9:=Tryz.isAgg9
 z9:=Tryz.sizeOf9
 v9:=Tryz.zeroValue9}
end
def Et (s:List Ad)(x:Ad):List Ad:=if s.getLast? =some x then s else s++[x]
def uniq (l:List Ad):List Ad:=l.foldl Et []
theorem CP {α:Type}{xs:List α}{i:Nat}{x:α}(h:xs[i]? =some x):xs.take (i+1)=xs.take i++[x]:=by
 obtain⟨hi,rfl⟩:=List.getElem?_eq_some_iff.1 h
 exact List.take_succ_eq_append_getElem hi
theorem E8 {xs:List Ad}{j:Nat}{x:Ad}(h:xs[j]? =some x):uniq (xs.take (j+1))=Et (uniq (xs.take j)) x:=by rw[uniq,CP h,List.foldl_append];rfl
theorem uniq_last :∀{xs:List Ad} {j:Nat} {x:Ad},xs[j]? =some x→(uniq (xs.take (j+1))).getLast? =some x:=by
 intro xs j x h
 rw[E8 h,Et]
 split
 ·assumption
 ·simp
theorem Ku {xs:List Ad}{j:Nat}{x:Ad}(h1:xs[j]? =some x)(h2:xs[j+1]? =some x):uniq (xs.take (j+2))=uniq (xs.take (j+1)):=by
 rw[E8 h2,Et,if_pos (uniq_last h1)]
theorem Mu {xs:List Ad}{j:Nat}{x y:Ad}(h1:xs[j]? =some y)(h2:xs[j+1]? =some x)(hn:x≠y):uniq (xs.take (j+2))=uniq (xs.take (j+1))++[x]:=by
 rw[E8 h2,Et,if_neg (by rw[uniq_last h1];simpa using fun e=>hn e.symm)]
def PW (xs:List Ad)(i:Nat):Prop:=∀j x y,j+1<i→xs[j+1]? =some x→xs[j]? =some y→x≠y
theorem PW.one (xs:List Ad):PW xs 1:=fun _ _ _ h=>absurd h Zo
theorem PW.step {xs:List Ad}{i:Nat}{x y:Ad}(h:PW xs (i+1))(h1:xs[i+1]? =some x)(h2:xs[i]? =some y)(hn:x≠y):PW xs (i+2):=fun j a b hj ha hb=>by
 by_cases c:j=i
 ·subst c;rw[h1]at ha;rw[h2]at hb;cases ha;cases hb;exact hn
 ·exact h j a b Zo ha hb
theorem Fs {xs : List Ad} : ∀ {i : Nat}, i ≤ xs.length → PW xs i → uniq (xs.take i) = xs.take i
  | 0, _, _ => rfl
  | 1, h, _ => by
    rw [E8 (List.getElem?_eq_getElem Zo), CP (List.getElem?_eq_getElem Zo)]; rfl
  | i + 2, h, hn => by
    have h1 : xs[i]? = some xs[i] := List.getElem?_eq_getElem Zo
    have h2 : xs[i + 1]? = some xs[i + 1] := List.getElem?_eq_getElem Zo
    rw [Mu h1 h2 (hn i _ _ Zo h2 h1), Fs Zo (fun j a b hj => hn j a b Zo), ← CP h2]
theorem TH (xs : List Ad) : (uniq xs).length ≤ xs.length := by
  have : ∀ i, i ≤ xs.length → (uniq (xs.take i)).length ≤ i := by
    intro i
    induction i with
    | zero => intro _; exact Nat.le_refl _
    | succ i ih =>
      intro h
      rw [E8 (List.getElem?_eq_getElem Zo), Et]
      have := ih Zo
      split
      · omega
      · simp; omega
  have h := this xs.length (Nat.le_refl _)
  rwa [List.take_length] at h
theorem PW.pred {xs:List Ad}{i:Nat}{x y:Ad}(h:PW xs i)(h0:1≤i)(h1:xs[i]? =some x)(h2:xs[i-1]? =some y)(hn:¬x=y):PW xs (i+1):=by
 obtain⟨j,rfl⟩:∃j,i=j+1:=⟨i-1,by omega⟩
 exact PW.step h h1 h2 hn
theorem TI {xs:List Ad}{k:Nat}{x y:Ad}(h:PW xs k)(h0:1≤k)(h1:xs[k]? =some x)(h2:xs[k-1]? =some y)(he:x=y):uniq (xs.take (k+1))=xs.take k:=by
 obtain⟨j,rfl⟩:∃j,k=j+1:=⟨k-1,by omega⟩
 subst he
 have:=(List.getElem?_eq_some_iff.1 h1).1
 have h2':xs[j]? =some x:=h2
 rw[Ku h2' h1,Fs Zo h]
theorem Kv {xs:List Ad}{j:Nat}{x y:Ad}(h0:1≤j)(h1:xs[j]? =some x)(h2:xs[j-1]? =some y):uniq (xs.take (j+1))=if x=y then uniq (xs.take j)else uniq (xs.take j)++[x]:=by
 obtain⟨i,rfl⟩:∃i,j=i+1:=⟨j-1,by omega⟩
 split
 ·rename_i e;subst e;exact Ku h2 h1
 ·rename_i e;exact Mu h2 h1 e
theorem G7 {xs ys:List Ad}{k q j:Nat}{x:Ad}(h:(ys.drop k)[q]? =some x)(hd:ys.drop j=xs.drop j)(hj:j≤k+q):xs[k+q]? =some x:=by
 rw[List.getElem?_drop]at h
 rw[←h]
 have:=congrArg (fun l=>l[k+q-j]?) hd
 simp only[List.getElem?_drop]at this
 rw[show j+(k+q-j)=k+q by omega]at this
 exact this.symm
theorem uniq_fold : ∀ (l acc : List Ad) (a : Ad), l.foldl Et (acc ++ [a]) = acc ++ compD (a :: l)
  | [], acc, a => by simp [compD]
  | b :: l, acc, a => by
    rw [List.foldl_cons, compD]
    by_cases h : a = b
    · have e : Et (acc ++ [a]) b = acc ++ [b] := by rw [Et, if_pos (by simp [h]), h]
      rw [e, uniq_fold, if_pos h]
    · have e : Et (acc ++ [a]) b = (acc ++ [a]) ++ [b] := by rw [Et, if_neg (by simpa using h)]
      rw [e, uniq_fold, if_neg h]
      simp
theorem Kw (l:List Ad):uniq l=compD l:=by
 cases l with
 |nil=>rfl
 |cons a l=>exact uniq_fold l [] a
instance : Inhabited {d:Ad//AE d}:=⟨⟨⟨0,1,1⟩,by unfold AE;decide⟩⟩
section
open Go.Shelf Go.RowKit Go.Lib Go.Sort
theorem WB (x y:Ad)(hx:FC x)(hy:FC y)(W:World):Calls prog 139 #[.agg #[.int .i64 x.node,.int .i64 x.life,.int .i64 x.count],.agg #[.int .i64 y.node,.int .i64 y.life,.int .i64 y.count]] W fun e w'=>e= .returned (.int .i64 (BL x y))∧∃q os',w'=grow (W.drewN q) os':=by
 obtain⟨⟨a1,a2⟩,⟨a3,a4⟩,a5,a6⟩:=hx
 obtain⟨⟨b1,b2⟩,⟨b3,b4⟩,b5,b6⟩:=hy
 unfold BL
 by_cases h1:x.node=y.node
 ·by_cases h2:x.life=y.life
  ·simp only[h1,h2,if_true];go_enter func139,Tryz.ntmps139;go_wp2;go_ret
   exact⟨rfl,0,_,by rw[alloc_eq_grow,alloc_eq_grow,grow_grow];rfl⟩
  ·simp only[h1,h2,if_true,if_false];go_enter func139,Tryz.ntmps139;go_wp2;go_ret
   exact⟨rfl,0,_,by rw[alloc_eq_grow,alloc_eq_grow,grow_grow];rfl⟩
 ·simp only[h1,if_false];go_enter func139,Tryz.ntmps139;go_wp2;go_ret
  exact⟨rfl,0,_,by rw[alloc_eq_grow,alloc_eq_grow,grow_grow];rfl⟩
def SJ (x y:{d:Ad//AE d}):Int:=BL x.1 y.1
theorem swoD :SWO (ltOf SJ) where
 irrefl x:=by simp only[ltOf,SJ];exact decide_eq_false (fun h=>Lb (DP.1 h))
 trans x y z h1 h2:=by simp only[ltOf,SJ]at*;exact decide_eq_true (DP.2 (E4 (DP.1 (of_decide_eq_true h1)) (DP.1 (of_decide_eq_true h2))))
 ntrans x y z h1 h2:=by simp only[ltOf,SJ,decide_eq_false_iff_not,DP]at*;unfold CC at*;omega
theorem WC (x y:{d:Ad//AE d})(h1:ltOf SJ x y=false)(h2:ltOf SJ y x=false):x=y:=by
 simp only[ltOf,SJ,decide_eq_false_iff_not,DP]at*;exact Subtype.ext (Io h1 h2)
theorem Mv {a:Option Addr}{xs:List Ad}{c:Nat}{w:World}(ho:Af w 73 a c xs)(hx:∀x∈xs,AE x)(hl:xs.length≤4294967295):
  Calls prog 241 #[.slice a xs.length c,.func (.func 139) #[] #[]] w (AS fun v w'=>v= .tuple #[]∧Af w' 73 a c (AT xs)∧Ah (own a) w w'):=by
 have e:(xs.attachWith AE hx).map Subtype.val=xs:=List.attachWith_map_subtype_val hx
 have h:=OS (α:={d:Ad//AE d}) (β:=Ad) sortDL Subtype.val Tryz.isAgg73 Tryz.sizeOf73 SJ swoD WC 139 (Ec func139 rfl Zk) (fun x y W=>WB x.1 y.1 x.2.sm y.2.sm W) (xs.attachWith AE hx) (by rw[e];exact ho) (by rw[List.length_attachWith];exact hl)
 rw[Mt Subtype.val (fun x y=> !(ltOf SJ) y x) Qg (fun a b=>by simp only[ltOf,SJ,Qg,DP]),e]at h
 exact h
end
end Go.Proofs.YtjkaicjmfgekjaaGreatDoor
namespace Go.Proofs.YtjkaicjmfgekjaaGreatDoor
open Go.Proofs.Tryz
attribute [local irreducible] RD RS Av RL RA RT CJ Aj
structure Df {α:Type}[Enc α](w:World)(ss:List SH)(bss:List (List α)):Prop where
 len:ss.length=bss.length
 all:∀(i:Nat) (s:SH) (bs:List α),ss[i]? =some s→bss[i]? =some bs→s.len=bs.length∧As w s.a bs
section
variable {α :Type}[Enc α]
theorem Df.ext {w w':World}{ss:List SH}{bss:List (List α)}(h:Df w ss bss)(k:Aq w w'):Df w' ss bss:=
 ⟨h.len,fun i s bs h1 h2=>have h3:=h.all i s bs h1 h2;⟨h3.1,h3.2.ext k⟩⟩
theorem Df.two {w:World}{a b:SH}{x y:List α}(h1:a.len=x.length)(h2:As w a.a x)(h3:b.len=y.length)(h4:As w b.a y):Df w [a,b] [x,y]:=
 ⟨rfl,fun i s bs hx hb=>by
  match i with
  |0=>simp at hx hb;subst hx;subst hb;exact⟨h1,h2⟩
  |1=>simp at hx hb;subst hx;subst hb;exact⟨h3,h4⟩
  |i+2=>simp at hx⟩
omit [Enc α]in
theorem Ge {bss:List (List α)}{i:Nat}{bs:List α}(h:bss[i]? =some bs):(bss.take (i+1)).flatten=(bss.take i).flatten++bs:=by rw[CP h];simp
omit [Enc α]in
theorem E9 (bss:List (List α))(i:Nat):(bss.take i).flatten.length≤bss.flatten.length:=by
 have e:bss.flatten=(bss.take i).flatten++(bss.drop i).flatten:=by rw[←List.flatten_append,List.take_append_drop]
 rw[e,List.length_append];omega
end
def EA {α:Type}(xs:List α)(i:Nat)(x:α):List α:=xs.take i++x::xs.drop i
theorem Mw {α:Type}{xs:List α}{i:Nat}{x:α}(h:i≤xs.length):(EA xs i x).length=xs.length+1:=by simp[EA];omega
theorem RF {α:Type}(xs:List α)(x:α):xs++[x]=EA xs xs.length x:=by simp[EA]
section
variable {α :Type}[Enc α]
theorem RG {xs : List α} {i : Nat} {x : α} {cur : List Value} {c : Nat} (hi : i ≤ xs.length) (hc : cur.length = c * Enc.size α) (hle : xs.length + 1 ≤ c) (ht : cur.take (i * Enc.size α) = AB (xs.take i)) :
    ∀ cur2 cur3, cur2 = cur.take (i * Enc.size α) ++ cellsOf x ++ cur.drop (i * Enc.size α + (cellsOf x).length) → cur3 = cur2.take ((i + 1) * Enc.size α) ++ AB (xs.drop i) ++ cur2.drop ((i + 1) * Enc.size α + (AB (xs.drop i)).length) →
      cur2.length = c * Enc.size α ∧ cur3.length = c * Enc.size α ∧ cur3.take ((xs.length + 1) * Enc.size α) = AB (EA xs i x) := by
  intro cur2 cur3 e2 e3
  have hk := Enc.pos (α := α)
  have hx : (cellsOf x).length = Enc.size α := Ax x
  have hf : (AB (xs.drop i)).length = (xs.length - i) * Enc.size α := by rw [Aw, List.length_drop]
  have b1 : (xs.length + 1) * Enc.size α ≤ c * Enc.size α := Nat.mul_le_mul_right _ hle
  have b2 : i * Enc.size α + (xs.length - i) * Enc.size α = xs.length * Enc.size α := by rw [← Nat.add_mul]; congr 1; omega
  have b3 : (xs.length + 1) * Enc.size α = xs.length * Enc.size α + Enc.size α := Nat.succ_mul _ _
  have b4 : (i + 1) * Enc.size α = i * Enc.size α + Enc.size α := Nat.succ_mul _ _
  have l0 : (cur.take (i * Enc.size α)).length = i * Enc.size α := by rw [List.length_take]; omega
  have l2 : cur2.length = c * Enc.size α := by rw [e2]; simp only [List.length_append, List.length_drop, l0, hx]; omega
  have t2 : cur2.take ((i + 1) * Enc.size α) = AB (xs.take i) ++ cellsOf x := by
    rw [e2, ← ht]; exact List.take_left' (by rw [List.length_append, l0, hx, b4])
  have l3 : cur3.length = c * Enc.size α := by rw [e3]; simp only [List.length_append, List.length_drop, List.length_take, l2, hf]; omega
  refine ⟨l2, l3, ?_⟩
  rw [e3, t2]
  have lf : (AB (xs.take i)).length = i * Enc.size α := by rw [← ht]; exact l0
  rw [List.take_left' (by simp only [List.length_append, lf, hx, hf]; omega)]
  rw [EA, Dg, BC, List.append_assoc]
theorem RH {xs : List α} {i : Nat} {x : α} {cur : List Value} {c : Nat} (hi : i ≤ xs.length) (hc : cur.length = c * Enc.size α) (hle : xs.length + 1 ≤ c) (ht : cur.take (xs.length * Enc.size α) = AB xs) :
    ∀ cur2 cur3, cur2 = cur.take ((i + 1) * Enc.size α) ++ AB (xs.drop i) ++ cur.drop ((i + 1) * Enc.size α + (AB (xs.drop i)).length) → cur3 = cur2.take (i * Enc.size α) ++ cellsOf x ++ cur2.drop (i * Enc.size α + (cellsOf x).length) →
      cur2.length = c * Enc.size α ∧ cur3.length = c * Enc.size α ∧ cur3.take ((xs.length + 1) * Enc.size α) = AB (EA xs i x) := by
  intro cur2 cur3 e2 e3
  have hk := Enc.pos (α := α)
  have hx : (cellsOf x).length = Enc.size α := Ax x
  have hf : (AB (xs.drop i)).length = (xs.length - i) * Enc.size α := by rw [Aw, List.length_drop]
  have b1 : (xs.length + 1) * Enc.size α ≤ c * Enc.size α := Nat.mul_le_mul_right _ hle
  have b2 : i * Enc.size α + (xs.length - i) * Enc.size α = xs.length * Enc.size α := by rw [← Nat.add_mul]; congr 1; omega
  have b3 : (xs.length + 1) * Enc.size α = xs.length * Enc.size α + Enc.size α := Nat.succ_mul _ _
  have b4 : (i + 1) * Enc.size α = i * Enc.size α + Enc.size α := Nat.succ_mul _ _
  have l0 : (cur.take ((i + 1) * Enc.size α)).length = (i + 1) * Enc.size α := by rw [List.length_take]; omega
  have l2 : cur2.length = c * Enc.size α := by rw [e2]; simp only [List.length_append, List.length_drop, l0, hf]; omega
  have ti : cur.take (i * Enc.size α) = AB (xs.take i) := by
    rw [F0, ← ht, List.take_take]; congr 1; omega
  have t2 : cur2.take (i * Enc.size α) = AB (xs.take i) := by
    rw [e2, List.append_assoc, List.take_append_of_le_length (by rw [l0]; omega), List.take_take, Nat.min_eq_left Zo, ti]
  have d2 : cur2.drop (i * Enc.size α + Enc.size α) = AB (xs.drop i) ++ cur.drop ((i + 1) * Enc.size α + (AB (xs.drop i)).length) := by
    rw [← b4, e2, List.append_assoc]; exact List.drop_left' l0
  have lf : (AB (xs.take i)).length = i * Enc.size α := by rw [← t2, List.length_take]; omega
  have l3 : cur3.length = c * Enc.size α := by rw [e3]; simp only [List.length_append, List.length_drop, List.length_take, l2, hx]; omega
  refine ⟨l2, l3, ?_⟩
  rw [e3, t2, hx, d2, ← List.append_assoc]
  rw [List.take_left' (by simp only [List.length_append, lf, hx, hf]; omega)]
  rw [EA, Dg, BC, List.append_assoc]
end
attribute [local irreducible] AE FC CC BS BL B2 B0 Du
attribute [local irreducible] DW DX EL Fr A5 Ar Bu Fg F8
def keepF {α:Type}(q:α→Bool)(xs:List α)(j:Nat):List α:=(xs.take j).filter (fun x=> !q x)
theorem G8 {α:Type}{xs ys:List α}{j:Nat}(h:ys.drop j=xs.drop j):ys.drop (j+1)=xs.drop (j+1):=by
 rw[←List.drop_drop,h,List.drop_drop]
theorem JD {α:Type}{ys:List α}{i:Nat}{x:α}(hi:i<ys.length):(ys.set i x).take (i+1)=ys.take i++[x]:=by
 rw[List.take_succ_eq_append_getElem (by simpa using hi),List.getElem_set_self,List.take_set_of_le (Nat.le_refl _)]
theorem Mx {α:Type}{ys:List α}{i j:Nat}{x:α}(h:i<j):(ys.set i x).drop j=ys.drop j:=by
 rw[List.drop_set,if_pos h]
theorem NH {w:World}{vb g:Nat}{vc cur:List Value}{T:TypeId}(hV:AA w vb vc T)(hB:AA w g cur T)(hne:vb≠g)(hl:0<cur.length)(o n1 c1 n2:Nat){c2:Nat}:
  (callFunc 217 (([.slice (some ⟨vb,0,none⟩) n1 c1,.slice (some ⟨g,o,none⟩) n2 c2]:List Value).toArray)).run prog w= .ok (.value (.bool false)) w:=by
 have e1:w.shape? vb=some (T,vc.length):=by simp[World.shape?,show w.heap[vb]? =_ from hV]
 have e2:w.shape? g=some (T,cur.length):=by simp[World.shape?,show w.heap[g]? =_ from hB]
 have e3:∀o,w.frozen? ⟨vb,o,none⟩=false:=fun o=>by simp[World.frozen?,show w.heap[vb]? =_ from hV]
 show(callFunc 217 #[.slice (some ⟨vb,0,none⟩) n1 c1,.slice (some ⟨g,o,none⟩) n2 c2]).run prog w=_
 rw[run_callFunc_extern func217 Zk Zk Zk (e:=Extern.SlicesOverlaps.overlaps #[28,28] #[4]) Zk,
  Lib.run_overlaps_apart w 28 4 46 underlying28 3 Tryz.sizeOf46 ⟨vb,0,none⟩ ⟨g,o,none⟩ n1 c1 n2 c2 hne T T vc.length cur.length e1 e2 Zo (e3 0) (e3 _)]
 rfl
attribute [local irreducible] X
theorem U7 (q:Nat)(w:World)(hq:q≤4294967295):
  Calls prog 244 #[.slice none 0 0,.int .i64 ((q:Nat):Int)] w (AS (fun v w'=>∃a' c',v= .slice a' 0 c'∧Af w' 46 a' c' ([]:List Aa)∧(∀b,own a' b→w.heap.size≤b)∧Aq w w')):=by
 refine Ae (n:=27) func244 rfl rfl rfl ?_;refine jG ?_;refine jF ?_ ?_
 ·intro hc6
  exfalso;omega
 ·intro hc6
  refine jG ?_;refine jV (At (c:=0) (F2 underlying28 rfl) rfl) ?_;refine Ex ?_;refine jV (At (c:=0) (Cu underlying28 rfl) rfl) ?_;refine jV (At (c:=0) (BE rfl rfl Zd Zd) Zd) ?_;refine jV (At (c:=((q:Nat):Int)) (BE rfl rfl Zo Zo) Zo) ?_;refine jG ?_;refine jF ?_ ?_
  ·intro hc16
   refine jG ?_;refine jV (At (c:=0) (F2 underlying28 rfl) rfl) ?_;refine jV (BI (j:=0) underlying28 ty46 rfl rfl Zo) ?_;refine jG ?_;refine jR<|Av.appendZeros (q:=q) Aa underlying28 underlying3 ty46 rfl rfl rfl Zo Zo Zd ?_;intro a1 a2 a6 a0 a7 a3 a4;have a5:=A1 (Nat.le_refl _) (A9 a0);clear a0;have K0:=(a4:Aq w _);refine Ex ?_;refine jV (At (c:=0) (Cu underlying28 rfl) rfl) ?_;refine jV (BI (j:=0) underlying28 ty46 rfl rfl Zo) ?_;refine jG ?_;refine jJ func244 ?_;exact⟨_,rfl,some ⟨a1,0,none⟩,a2,rfl,a3,a5,K0⟩
  ·intro hc16
   refine jG ?_;refine jJ func244 ?_;exact⟨_,rfl,none,0,rfl,Af.nil _ _,fun b h=>absurd h (Ac b),Ah.refl _ w⟩
theorem RI (a:Option Addr)(ss:List SH)(c:Nat)(bss:List (List Aa))(w:World)(hs:As w a ss)(hp:Df w ss bss)(hl:bss.flatten.length≤4294967295)(hl2:bss.length≤4294967295):
  Calls prog 206 #[.slice a ss.length c] w (AS (fun v w'=>∃a' c',v= .slice a' bss.flatten.length c'∧Af w' 46 a' c' bss.flatten∧(∀b,own a' b→w.heap.size≤b)∧Aq w w')):=by
 have hlen:=hp.len;refine Ae (n:=36) func206 rfl rfl rfl ?_;refine jG ?_;refine Aj.loop (ι:=Nat) (fun i ρ' w'=>Holds ρ' [(0,.slice a ss.length c),(3,.int .i64 ((((bss.take i).flatten).length:Nat):Int)),(9,.slice a ss.length c),(10,.int .i64 ((ss.length:Nat):Int)),(11,.int .i64 ((i:Nat):Int))]∧Aq w w'∧(i≤bss.length)) (fun i=>bss.length-i) 0 ?_ ?_
 ·refine⟨⟨rfl,rfl,rfl,rfl,rfl,trivial⟩,(Ah.refl _ w),?_⟩
  ·omega
 rintro i ai aj ⟨a4,K0,hi⟩ ih1;obtain⟨ρ₀,rfl⟩:=a4.ex;clear a4;refine jG ?_;refine jF ?_ ?_
 ·intro hc12
  refine Ds ?_;obtain⟨ak,al,s,hx,a9,a0⟩:=hs.eo i;have hc_7_lt:=a0.lt;refine jV (AI underlying53 ty28 rfl rfl a9 Zl) ?_;obtain⟨bs,hbs⟩:∃bs,bss[i]? =some bs:=⟨_,List.getElem?_eq_getElem Zo⟩;obtain⟨hsl1,hsl2⟩:=(hp.ext K0).all i s bs hx hbs;have hfl:=Ge (i:=i) hbs;have hfl2:(bss.take (i+1)).flatten.length=(bss.take i).flatten.length+bs.length:=by rw[hfl,List.length_append]
  have hft:=E9 bss (i+1);replace a0:=a0.ext K0;refine jG ?_;refine jV (At (c:=(((bss.take (i+1)).flatten).length:Int)) (At (c:=(((((bss.take i).flatten).length)+s.len:Nat):Int)) (An rfl rfl Zo Zo) rfl) Zo) ?_;refine jG ?_;refine jF ?_ ?_
  ·intro hc20
   exfalso;omega
  ·intro hc20
   refine jG ?_;refine jV (At (c:=((i+1:Nat):Int)) (An rfl rfl Zo Zo) rfl) ?_;refine jG ?_;refine ih1 (i+1) _ _ ?_ Zo;refine⟨⟨rfl,rfl,rfl,rfl,rfl,trivial⟩,K0,?_⟩
   ·omega
 ·intro hc12
  refine jG ?_;have hfull:(bss.take i).flatten=bss.flatten:=by rw[List.take_of_length_le Zo]
  rw[hfull];refine jG ?_;refine jR<|jC (U7 bss.flatten.length _ Zo) ?_;rintro _ am ⟨an,ap,rfl,a5,a6,aa⟩;have ab:=A1 K0.size a6;clear a6;refine jG ?_;replace K0:=K0.ext aa;refine Aj.loop (ι:=Nat) (fun i ρ' w'=>∃ao:Option Addr,∃co:Nat,Holds ρ' [(6,.slice ao (((bss.take i).flatten).length) co),(25,.slice a ss.length c),(26,.int .i64 ((ss.length:Nat):Int)),(27,.int .i64 ((i:Nat):Int))]∧Aq w w'∧(Af w' 46 ao co ((bss.take i).flatten))∧(∀q_,own ao q_→w.heap.size≤q_)∧(i≤bss.length)) (fun i=>bss.length-i) 0 ?_ ?_
  ·refine⟨_,_,⟨rfl,rfl,rfl,rfl,trivial⟩,K0,a5,ab,?_⟩
   ·omega
  clear a5;clear K0;rintro i aq ar ⟨ao,co,a7,K0,a1,a2,hi⟩ ih2;obtain⟨ρ₀,rfl⟩:=a7.ex;clear a7;refine jG ?_;refine jF ?_ ?_
  ·intro hc28
   refine Ds ?_;obtain⟨au,av,s,hx,ac,a3⟩:=hs.eo i;have hc_25_lt:=a3.lt;refine jV (AI underlying53 ty28 rfl rfl ac Zl) ?_;replace a3:=a3.ext K0;refine jG ?_;obtain⟨bs,hbs⟩:∃bs,bss[i]? =some bs:=⟨_,List.getElem?_eq_getElem Zo⟩;obtain⟨hsl1,hsl2⟩:=(hp.ext K0).all i s bs hx hbs;have hfl:=Ge (i:=i) hbs;have hfl2:(bss.take (i+1)).flatten.length=(bss.take i).flatten.length+bs.length:=by rw[hfl,List.length_append]
   have hft:=E9 bss (i+1);rw[hsl1];refine jG ?_;refine jR<|Av.append (xs:=(bss.take i).flatten) (ys:=bs) underlying28 ty46 rfl rfl rfl a1 hsl2 (by have:=E9 bss i;rw[hfl,List.length_append]at hft;omega) Zd ?_;intro ad aw ax ae af a8 ag;have ah:∀q_,own ad q_→w.heap.size≤q_:=a8.ge a2 K0.size;clear a8;clear ag;refine jG ?_;refine jV (At (c:=((i+1:Nat):Int)) (An rfl rfl Zo Zo) rfl) ?_;refine jG ?_;refine ih2 (i+1) _ _ ?_ Zo;rw[hfl];replace K0:=K0.new af a2;refine⟨_,_,⟨rfl,rfl,rfl,rfl,trivial⟩,K0,ae,ah,?_⟩
   ·omega
  ·intro hc28
   refine jG ?_;refine Aj.ret1 (v:= .slice ao (((bss.take i).flatten).length) co) func206 rfl rfl ?_;have hil:i=bss.length:=by omega
   subst hil;rw[List.take_length]at a1⊢;exact⟨_,rfl,ao,co,rfl,a1,a2,K0⟩
theorem NI (a:Option Addr)(ss:List SH)(c:Nat)(xs ys:List Aa)(w:World)(hs:As w a ss)(hp:Df w ss [xs,ys])(hl:xs.length+ys.length≤4294967295):
  Calls prog 206 #[.slice a ss.length c] w (AS fun v w'=>∃a' c',v= .slice a' (xs++ys).length c'∧Af w' 46 a' c' (xs++ys)∧(∀b,own a' b→w.heap.size≤b)∧Aq w w'):=by
 have e:[xs,ys].flatten=xs++ys:=by simp
 have:=RI a ss c _ w hs hp (by rw[e,List.length_append];exact hl) Zs
 rw[e]at this
 exact this
theorem U8 (q:Nat)(w:World)(hq:q≤4294967295):
  Calls prog 245 #[.slice none 0 0,.int .i64 ((q:Nat):Int)] w (AS (fun v w'=>∃a' c',v= .slice a' 0 c'∧Af w' 73 a' c' ([]:List Ad)∧(∀b,own a' b→w.heap.size≤b)∧Aq w w')):=by
 refine Ae (n:=27) func245 rfl rfl rfl ?_;refine jG ?_;refine jF ?_ ?_
 ·intro hc6
  exfalso;omega
 ·intro hc6
  refine jG ?_;refine jV (At (c:=0) (F2 underlying29 rfl) rfl) ?_;refine Ex ?_;refine jV (At (c:=0) (Cu underlying29 rfl) rfl) ?_;refine jV (At (c:=0) (BE rfl rfl Zd Zd) Zd) ?_;refine jV (At (c:=((q:Nat):Int)) (BE rfl rfl Zo Zo) Zo) ?_;refine jG ?_;refine jF ?_ ?_
  ·intro hc16
   refine jG ?_;refine jV (At (c:=0) (F2 underlying29 rfl) rfl) ?_;refine jV (BI (j:=0) underlying29 ty73 rfl rfl Zo) ?_;refine jG ?_;refine jR<|Av.appendZeros (q:=q) Ad underlying29 underlying3 ty73 rfl rfl rfl Zo Zo Zd ?_;intro a1 a2 a6 a0 a7 a3 a4;have a5:=A1 (Nat.le_refl _) (A9 a0);clear a0;have K0:=(a4:Aq w _);refine Ex ?_;refine jV (At (c:=0) (Cu underlying29 rfl) rfl) ?_;refine jV (BI (j:=0) underlying29 ty73 rfl rfl Zo) ?_;refine jG ?_;refine jJ func245 ?_;exact⟨_,rfl,some ⟨a1,0,none⟩,a2,rfl,a3,a5,K0⟩
  ·intro hc16
   refine jG ?_;refine jJ func245 ?_;exact⟨_,rfl,none,0,rfl,Af.nil _ _,fun b h=>absurd h (Ac b),Ah.refl _ w⟩
theorem RJ (a:Option Addr)(ss:List SH)(c:Nat)(bss:List (List Ad))(w:World)(hs:As w a ss)(hp:Df w ss bss)(hl:bss.flatten.length≤4294967295)(hl2:bss.length≤4294967295):
  Calls prog 207 #[.slice a ss.length c] w (AS (fun v w'=>∃a' c',v= .slice a' bss.flatten.length c'∧Af w' 73 a' c' bss.flatten∧(∀b,own a' b→w.heap.size≤b)∧Aq w w')):=by
 have hlen:=hp.len;refine Ae (n:=36) func207 rfl rfl rfl ?_;refine jG ?_;refine Aj.loop (ι:=Nat) (fun i ρ' w'=>Holds ρ' [(0,.slice a ss.length c),(3,.int .i64 ((((bss.take i).flatten).length:Nat):Int)),(9,.slice a ss.length c),(10,.int .i64 ((ss.length:Nat):Int)),(11,.int .i64 ((i:Nat):Int))]∧Aq w w'∧(i≤bss.length)) (fun i=>bss.length-i) 0 ?_ ?_
 ·refine⟨⟨rfl,rfl,rfl,rfl,rfl,trivial⟩,(Ah.refl _ w),?_⟩
  ·omega
 rintro i ai aj ⟨a4,K0,hi⟩ ih1;obtain⟨ρ₀,rfl⟩:=a4.ex;clear a4;refine jG ?_;refine jF ?_ ?_
 ·intro hc12
  refine Ds ?_;obtain⟨ak,al,s,hx,a9,a0⟩:=hs.eo i;have hc_7_lt:=a0.lt;refine jV (AI underlying295 ty29 rfl rfl a9 Zl) ?_;obtain⟨bs,hbs⟩:∃bs,bss[i]? =some bs:=⟨_,List.getElem?_eq_getElem Zo⟩;obtain⟨hsl1,hsl2⟩:=(hp.ext K0).all i s bs hx hbs;have hfl:=Ge (i:=i) hbs;have hfl2:(bss.take (i+1)).flatten.length=(bss.take i).flatten.length+bs.length:=by rw[hfl,List.length_append]
  have hft:=E9 bss (i+1);replace a0:=a0.ext K0;refine jG ?_;refine jV (At (c:=(((bss.take (i+1)).flatten).length:Int)) (At (c:=(((((bss.take i).flatten).length)+s.len:Nat):Int)) (An rfl rfl Zo Zo) rfl) Zo) ?_;refine jG ?_;refine jF ?_ ?_
  ·intro hc20
   exfalso;omega
  ·intro hc20
   refine jG ?_;refine jV (At (c:=((i+1:Nat):Int)) (An rfl rfl Zo Zo) rfl) ?_;refine jG ?_;refine ih1 (i+1) _ _ ?_ Zo;refine⟨⟨rfl,rfl,rfl,rfl,rfl,trivial⟩,K0,?_⟩
   ·omega
 ·intro hc12
  refine jG ?_;have hfull:(bss.take i).flatten=bss.flatten:=by rw[List.take_of_length_le Zo]
  rw[hfull];refine jG ?_;refine jR<|jC (U8 bss.flatten.length _ Zo) ?_;rintro _ am ⟨an,ap,rfl,a5,a6,aa⟩;have ab:=A1 K0.size a6;clear a6;refine jG ?_;replace K0:=K0.ext aa;refine Aj.loop (ι:=Nat) (fun i ρ' w'=>∃ao:Option Addr,∃co:Nat,Holds ρ' [(6,.slice ao (((bss.take i).flatten).length) co),(25,.slice a ss.length c),(26,.int .i64 ((ss.length:Nat):Int)),(27,.int .i64 ((i:Nat):Int))]∧Aq w w'∧(Af w' 73 ao co ((bss.take i).flatten))∧(∀q_,own ao q_→w.heap.size≤q_)∧(i≤bss.length)) (fun i=>bss.length-i) 0 ?_ ?_
  ·refine⟨_,_,⟨rfl,rfl,rfl,rfl,trivial⟩,K0,a5,ab,?_⟩
   ·omega
  clear a5;clear K0;rintro i aq ar ⟨ao,co,a7,K0,a1,a2,hi⟩ ih2;obtain⟨ρ₀,rfl⟩:=a7.ex;clear a7;refine jG ?_;refine jF ?_ ?_
  ·intro hc28
   refine Ds ?_;obtain⟨au,av,s,hx,ac,a3⟩:=hs.eo i;have hc_25_lt:=a3.lt;refine jV (AI underlying295 ty29 rfl rfl ac Zl) ?_;replace a3:=a3.ext K0;refine jG ?_;obtain⟨bs,hbs⟩:∃bs,bss[i]? =some bs:=⟨_,List.getElem?_eq_getElem Zo⟩;obtain⟨hsl1,hsl2⟩:=(hp.ext K0).all i s bs hx hbs;have hfl:=Ge (i:=i) hbs;have hfl2:(bss.take (i+1)).flatten.length=(bss.take i).flatten.length+bs.length:=by rw[hfl,List.length_append]
   have hft:=E9 bss (i+1);rw[hsl1];refine jG ?_;refine jR<|Av.append (xs:=(bss.take i).flatten) (ys:=bs) underlying29 ty73 rfl rfl rfl a1 hsl2 (by have:=E9 bss i;rw[hfl,List.length_append]at hft;omega) Zd ?_;intro ad aw ax ae af a8 ag;have ah:∀q_,own ad q_→w.heap.size≤q_:=a8.ge a2 K0.size;clear a8;clear ag;refine jG ?_;refine jV (At (c:=((i+1:Nat):Int)) (An rfl rfl Zo Zo) rfl) ?_;refine jG ?_;refine ih2 (i+1) _ _ ?_ Zo;rw[hfl];replace K0:=K0.new af a2;refine⟨_,_,⟨rfl,rfl,rfl,rfl,trivial⟩,K0,ae,ah,?_⟩
   ·omega
  ·intro hc28
   refine jG ?_;refine Aj.ret1 (v:= .slice ao (((bss.take i).flatten).length) co) func207 rfl rfl ?_;have hil:i=bss.length:=by omega
   subst hil;rw[List.take_length]at a1⊢;exact⟨_,rfl,ao,co,rfl,a1,a2,K0⟩
theorem NJ (a:Option Addr)(ss:List SH)(c:Nat)(xs ys:List Ad)(w:World)(hs:As w a ss)(hp:Df w ss [xs,ys])(hl:xs.length+ys.length≤4294967295):
  Calls prog 207 #[.slice a ss.length c] w (AS fun v w'=>∃a' c',v= .slice a' (xs++ys).length c'∧Af w' 73 a' c' (xs++ys)∧(∀b,own a' b→w.heap.size≤b)∧Aq w w'):=by
 have e:[xs,ys].flatten=xs++ys:=by simp
 have:=RJ a ss c _ w hs hp (by rw[e,List.length_append];exact hl) Zs
 rw[e]at this
 exact this
theorem PX (a:Option Addr)(xs:List Ad)(c:Nat)(w:World)(ho:Af w 73 a c xs)(hl:xs.length≤4294967295):
  Calls prog 242 #[.slice a xs.length c] w (AS (fun v w'=>v= .slice a (uniq xs).length c∧Af w' 73 a c (uniq xs)∧Ah (own a) w w')):=by
 have hcap:=ho.le_cap;refine Ae (n:=61) func242 rfl rfl rfl ?_;refine jG ?_;refine jF ?_ ?_
 ·intro hc8
  refine jG ?_;refine jJ func242 ?_;have e:uniq xs=xs:=by have:=Fs (xs:=xs) (Nat.le_refl _) (fun j x y hj=>absurd hj Zo);rwa[List.take_length]at this
  rw[e];exact⟨_,rfl,rfl,ho,Ah.refl _ w⟩
 ·intro hc8
  refine jG ?_;refine Aj.loop (ι:=Nat) (fun i ρ' w'=>Holds ρ' [(0,.slice a xs.length c),(3,.int .i64 ((i:Nat):Int))]∧Ah (own a) w w'∧(Af w' 73 a c xs)∧(1≤i∧i≤xs.length)∧(PW xs i)) (fun i=>xs.length-i) 1 ?_ ?_
  ·refine⟨⟨rfl,rfl,trivial⟩,(Ah.refl _ w),ho,?_,?_⟩
   ·omega
   ·exact PW.one _
  clear ho;rintro i aq ar ⟨a4,K0,ho,hi,hno⟩ ih1;obtain⟨ρ₀,rfl⟩:=a4.ex;clear a4;refine jG ?_;refine jF ?_ ?_
  ·intro hc13
   refine jG ?_;obtain⟨au,av,x,hx,ad,a5⟩:=ho.sl.eo i;obtain⟨aw,ax,y,hy,ae,a6⟩:=ho.sl.el (i:=(((i:Nat):Int)-1).toNat) Zl;refine Aj.drawR ?_;intro ay a1;refine FJ ?_;refine jD (AI underlying29 ty73 rfl rfl ad Zl) ?_;replace a5:=a5.ext a1;refine jG ?_;refine jD (BE rfl rfl Zo Zo) ?_;refine jD (DG underlying29 ty73 rfl rfl ae Zo Zl) ?_;replace a6:=a6.ext a1;refine jG ?_;refine jD (EC Zk rfl rfl (C9 x y)) ?_;refine jG ?_;have hy':xs[i-1]? =some y:=by rw[show i-1=((i:Int)-1).toNat by omega];exact hy
   replace ho:=ho.ext a1;replace K0:=K0.ext a1;refine jF ?_ ?_
   ·intro hc25
    have hil:i<xs.length:=(List.getElem?_eq_some_iff.1 hx).1;have e1:=TI hno hi.1 hx hy' hc25;have hdl:(xs.drop i).length=xs.length-i:=List.length_drop;refine jG ?_;refine jV (CL (xs:=xs) underlying29 ty73 rfl rfl Zo) ?_;refine jG ?_;refine Aj.loop (ι:=Nat) (fun q ρ' w'=>∃ys:List Ad,Holds ρ' [(0,.slice a xs.length c),(3,.int .i64 (((uniq (xs.take (i+q))).length:Nat):Int)),(4,.slice (GN a c i 3) ((xs.drop i).length) (c-i)),(5,.int .i64 ((q:Nat):Int))]∧Ah (own a) w w'∧(Af w' 73 a c ys)∧(∀q_,own a q_→q_<w.heap.size→(own a) q_)∧(1≤q∧i+q≤xs.length)∧(ys.take (uniq (xs.take (i+q))).length=(uniq (xs.take (i+q))))∧(ys.drop (i+q-1)=xs.drop (i+q-1))∧(ys.length=xs.length)∧((uniq (xs.take (i+q))).length+1≤i+q)) (fun q=>xs.length-q) 1 ?_ ?_
    ·rw[e1,List.length_take,Nat.min_eq_left (Nat.le_of_lt hil)]
     refine⟨_,⟨rfl,rfl,rfl,rfl,trivial⟩,K0,ho,(fun x h _=>h),?_,?_,?_,?_,?_⟩
     ·omega
     ·rfl
     ·rfl
     ·rfl
     ·omega
    clear ho;clear K0;rintro q az aA ⟨ys,a7,K0,a0,a2,hq,h1,h2,h3,h4⟩ ih2;obtain⟨ρ₀,rfl⟩:=a7.ex;clear a7;refine jG ?_;refine jF ?_ ?_
    ·intro hc32
     refine jG ?_;obtain⟨aB,aC,x2,hx2,af,a8⟩:=(a0.sl.from i c a0.le_cap).el (i:=q) Zh;obtain⟨aD,aE,y2,hy2,ag,a9⟩:=(a0.sl.from i c a0.le_cap).el (i:=(((q:Nat):Int)-1).toNat) Zh;refine Aj.drawR ?_;intro aF a3;refine FJ ?_;refine jD (AI underlying29 ty73 rfl rfl af Zh) ?_;replace a8:=a8.ext a3;refine jG ?_;refine jD (BE rfl rfl Zo Zo) ?_;refine jD (DG underlying29 ty73 rfl rfl ag Zo Zh) ?_;replace a9:=a9.ext a3;refine jG ?_;refine jD (JQ Zk rfl rfl (C9 x2 y2)) ?_;refine jG ?_;replace a0:=a0.ext a3;replace K0:=K0.ext a3;refine jF ?_ ?_
     ·intro hc44
      refine LO ?_;obtain⟨aG,aH,ah,ai,aj,ak⟩:=(a0.sl.from i c a0.le_cap).el (i:=q) Zh;obtain rfl:x2=ah:=Option.some.inj (hx2.symm.trans ai);refine jV (AI underlying29 ty73 rfl rfl aj Zh) ?_;obtain⟨aI,aJ,aK,al,am,an⟩:=a0.sl.el (i:=(uniq (xs.take (i+q))).length) Zo;refine jG ?_;refine jR<|Av.storeEl (v:= .agg #[.int .i64 ((x2).node),.int .i64 ((x2).life),.int .i64 ((x2).count)]) (off:=0) (i:=(uniq (xs.take (i+q))).length) x2 ty73 rfl rfl rfl Zv a0 am al rfl Zd rfl ?_;intro aL aa ao;clear ak;clear an;replace K0:=K0.trans ao (fun x hlt hx=>a2 x hx hlt);replace a0:=aa;clear aa;refine jG ?_;refine jV (At (c:=((((uniq (xs.take (i+q))).length)+1:Nat):Int)) (An rfl rfl Zo Zo) rfl) ?_;refine jG ?_;refine jV (At (c:=((q+1:Nat):Int)) (An rfl rfl Zo Zo) rfl) ?_;refine jG ?_;have hz:=G7 hx2 h2 Zo;have hz2:=G7 hy2 h2 Zo;rw[show i+((q:Int)-1).toNat=i+q-1 by omega]at hz2;have e:uniq (xs.take (i+(q+1)))=_:=Kv (j:=i+q) Zo hz hz2;rw[if_neg hc44]at e;have e2:(uniq (xs.take (i+(q+1)))).length=(uniq (xs.take (i+q))).length+1:=by rw[e];simp
      refine ih2 (q+1) _ _ ?_ Zo;rw[e2,e];refine⟨_,⟨rfl,rfl,rfl,rfl,trivial⟩,K0,a0,a2,?_,?_,?_,?_,?_⟩
      ·omega
      ·rw[JD Zo,h1]
      ·rw[Mx Zo,show i+(q+1)-1=(i+q-1)+1 by omega];exact G8 h2
      ·rw[List.length_set];exact h3
      ·omega
     ·intro hc44
      refine jG ?_;refine jV (At (c:=((q+1:Nat):Int)) (An rfl rfl Zo Zo) rfl) ?_;refine jG ?_;have hz:=G7 hx2 h2 Zo;have hz2:=G7 hy2 h2 Zo;rw[show i+((q:Int)-1).toNat=i+q-1 by omega]at hz2;have e:uniq (xs.take (i+(q+1)))=_:=Kv (j:=i+q) Zo hz hz2;rw[if_pos hc44]at e;refine ih2 (q+1) _ _ ?_ Zo;rw[e];refine⟨_,⟨rfl,rfl,rfl,rfl,trivial⟩,K0,a0,a2,?_,?_,?_,?_,?_⟩
      ·omega
      ·exact h1
      ·rw[show i+(q+1)-1=(i+q-1)+1 by omega];exact G8 h2
      ·exact h3
      ·omega
    ·intro hc32
     have hcap2:ys.length≤c:=by omega
     refine jG ?_;refine jV (CL (xs:=ys) underlying29 ty73 (Vx rfl h3) rfl Zo) ?_;have ab:=a0.take ((uniq (xs.take (i+q))).length);have ht_55_l:(ys.take ((uniq (xs.take (i+q))).length)).length=(uniq (xs.take (i+q))).length:=by rw[List.length_take];omega
     refine jR<|Av.clearTail (xs:=ys.take ((uniq (xs.take (i+q))).length)) underlying29 ty73 rfl Zv (by rw[ht_55_l];exact rfl) ab (by rw[ht_55_l];simp only[List.length_drop];omega) ?_;intro aM ac ap;replace K0:=K0.trans ap (fun x hlt hx=>a2 x hx hlt);replace a0:=ac;clear ac ab;refine jG ?_;refine jV (Gl (m':=(ys.take ((uniq (xs.take (i+q))).length)).length) (BI underlying29 ty73 rfl rfl Zo) Zt) ?_;refine jG ?_;refine jJ func242 ?_;have hkq:i+q=xs.length:=by omega
     rw[hkq,List.take_length]at h1 a0⊢;rw[h1]at a0⊢;exact⟨_,rfl,rfl,a0,K0⟩
   ·intro hc25
    refine jG ?_;refine jV (At (c:=((i+1:Nat):Int)) (An rfl rfl Zo Zo) rfl) ?_;refine jG ?_;refine ih1 (i+1) _ _ ?_ Zo;refine⟨⟨rfl,rfl,trivial⟩,K0,ho,?_,?_⟩
    ·omega
    ·exact hno.pred hi.1 hx hy' hc25
  ·intro hc13
   refine jG ?_;refine jJ func242 ?_;have hil:i=xs.length:=by omega
   have e:uniq xs=xs:=by have:=Fs (xs:=xs) (Nat.le_refl _) (hil▸hno);rwa[List.take_length]at this
   rw[e];exact⟨_,rfl,rfl,ho,K0⟩
theorem TJ (a:Option Addr)(xs:List Aa)(c:Nat)(x:Aa)(vb:Nat)(w:World)(ho:Af w 46 a c xs)(hv:As w (some ⟨vb,0,none⟩) [x])(hva:¬own a vb)(hl:xs.length≤1000000):
  Calls prog 165 #[.slice a xs.length c,.int .i64 ((xs.length:Nat):Int),.slice (some ⟨vb,0,none⟩) 1 1] w (AS (fun v w'=>∃a' c',v= .slice a' (EA xs xs.length x).length c'∧Af w' 46 a' c' (EA xs xs.length x)∧A8 w (own a) (own a')∧Ah (own a) w w')):=by
 have hcap:=ho.le_cap;refine Ae (n:=95) func165 rfl rfl rfl ?_;refine jG ?_;refine jV (CL (xs:=xs) underlying28 ty46 rfl rfl Zo) ?_;refine Ex ?_;refine jV (At (c:=1) (Cu underlying28 rfl) rfl) ?_;refine jG ?_;refine Aj.condF rfl ?_;refine jG ?_;refine jF ?_ ?_
 ·intro hc22
  refine jG ?_;refine jR<|Av.append (xs:=xs) (ys:=[x]) underlying28 ty46 rfl rfl rfl ho hv (by simp only[List.length_singleton];omega) Zd ?_;intro a0 a2 a7 a3 a4 a1 a5;have a6:∀q_,own a0 q_→q_<w.heap.size→(own a) q_:=a1.inS (fun x h _=>h) (Nat.le_refl _);have K0:=(Ah.refl (own a) w).trans a4 (fun x hlt hx=>(fun x h _=>h) x hx hlt);clear a1;clear a5;refine jG ?_;refine jJ func165 ?_;rw[←RF];exact⟨_,rfl,a0,a2,rfl,a3,(fun q h_=>if hl_:q<w.heap.size then .inl (a6 q h_ hl_)else .inr (Nat.le_of_not_lt hl_)),K0⟩
 ·intro hc22
  exact absurd trivial hc22
theorem RK (g:Nat)(xs:List Aa)(c i:Nat)(x:Aa)(vb:Nat)(w:World)(hs:As w (some ⟨g,0,none⟩) xs)(hD:Cl w g (0+i*3) (AB (xs.drop i)))(hV:AA w vb (cellsOf x) 46)(hi:i<xs.length)(hl:xs.length≤1000000)(hc:xs.length≤c)(hroom:c<xs.length+1):
  Calls prog 165 #[.slice (some ⟨g,0,none⟩) xs.length c,.int .i64 ((i:Nat):Int),.slice (some ⟨vb,0,none⟩) 1 1] w (AS (fun v w'=>∃a' c',v= .slice a' (EA xs i x).length c'∧Af w' 46 a' c' (EA xs i x)∧A8 w (own (some ⟨g,0,none⟩)) (own a')∧Ah (own (some ⟨g,0,none⟩)) w w')):=by
 refine Ae (n:=95) func165 rfl rfl rfl ?_;refine jG ?_;refine jV (CL (xs:=xs) underlying28 ty46 rfl rfl Zo) ?_;refine Ex ?_;refine jV (At (c:=1) (Cu underlying28 rfl) rfl) ?_;refine jG ?_;refine Aj.condF rfl ?_;refine jG ?_;refine jF ?_ ?_
 ·intro hc22
  exact absurd hc22 Zo
 ·intro hc22
  refine jG ?_;refine jV (At (c:=((xs.length+1:Nat):Int)) (An rfl rfl Zo Zo) rfl) ?_;refine jG ?_;refine jV (F2 underlying28 rfl) ?_;refine jG ?_;refine jF ?_ ?_
  ·intro hc31
   refine jG ?_;refine jV (Gl (m':=(xs.take i).length) (BI underlying28 ty46 rfl rfl Zo) Zt) ?_;refine jG ?_;refine jV (At (c:=((xs.length+1:Nat):Int)) (An rfl rfl Zo Zo) rfl) ?_;refine jG ?_;refine jV (BE rfl rfl Zo Zo) ?_;refine jR<|Av.zerosOnto (xs.take i) (q:=xs.length+1-i) underlying28 underlying3 ty46 rfl (by rw[List.length_take_of_le Zo];rfl) (by show Value.int _ _=_;congr 1;omega) (hs.take i) Zo (by rw[List.length_take_of_le Zo];omega) (by rw[List.length_take_of_le Zo];omega) Zd ?_;rw[List.length_take_of_le (show i≤xs.length by omega)];intro a5 a0 a1 aj a6 a7 ag ah a8 ai a9;rw[show i+(xs.length+1-i)=xs.length+1 by omega]at a7⊢;replace a8:a1.length=a0*3:=a8;have:w.heap.size≤a5:=a6;have ne_v:=Nat.lt_of_lt_of_le hV.lt a6;have ne_g:=Nat.lt_of_lt_of_le hD.lt a6;have K0:=(a9:Aq w _);refine jG ?_;refine jV (Cv (l:=xs.length+1) (c:=a0) (i:=i) underlying28 ty46 rfl rfl Zo Zo Zo) ?_;refine jG ?_;replace hV:=hV.ext a9;refine jR<|Av.copyK (m:=1) (cs:=cellsOf x) underlying28 ty46 rfl rfl ah (by simp only[Nat.min_def];split<;>omega) (show(cellsOf x).length=3 from Ax x) hV.cl (by rw[(show(cellsOf x).length=3 from Ax x)];omega) (Enc.plain x) ?_;intro ak a2 aa;obtain⟨a3,ab⟩:∃c_,c_=a1.take (0+i*3)++cellsOf x++a1.drop (0+i*3+(cellsOf x).length):=⟨_,rfl⟩;rw[←ab]at a2;have al:a3.length=a1.length:=by rw[ab];simp only[List.length_append,List.length_take,List.length_drop];rw[(show(cellsOf x).length=3 from Ax x)];omega
   refine jG ?_;refine Aj.drawT [] (m:=9) Zk rfl ?_;intro am a4;refine⟨fun w'=>True,?_⟩;refine RT.takeP 0 rfl Zk (.inr trivial) (fun _=>(EQ rfl)) ?_;refine RT.takeP 1 rfl Zk (.inr trivial) (fun _=>(C8 rfl)) ?_;refine RT.takeP 2 rfl Zk (.inr trivial) (fun _=>(C8 rfl)) ?_;refine RT.takeP 3 rfl Zk (.inr trivial) (fun _=>(At (c:=((i+1:Nat):Int)) (An rfl rfl Zo Zo) rfl)) ?_;refine RT.takeP 4 rfl Zk (.inr trivial) (fun _=>(Cv (l:=xs.length+1) (c:=a0) (i:=i+1) underlying28 ty46 rfl rfl Zo Zo Zo)) ?_;refine RT.takeP 5 rfl Zk (.inr trivial) (fun _=>(EQ rfl)) ?_;refine RT.takeP 6 rfl Zk (.inr trivial) (fun _=>(C8 rfl)) ?_;refine RT.takeP 7 rfl Zk (.inr trivial) (fun _=>(Cv (l:=xs.length) (c:=c) (i:=i) underlying28 ty46 rfl rfl Zo Zo Zo)) ?_;replace hD:=((hD.ext a9).kp aa).ext a4;replace a2:=a2.ext a4;refine RT.st 8 rfl Zk rfl<|Av.copyK (m:=xs.length-i) (cs:=AB (xs.drop i)) underlying28 ty46 rfl rfl a2 (by simp only[Nat.min_def];split<;>omega) (show(AB (xs.drop i)).length=(xs.length-i)*3 from by rw[Aw,List.length_drop];rfl) hD (by rw[(show(AB (xs.drop i)).length=(xs.length-i)*3 from by rw[Aw,List.length_drop];rfl)];omega) (Gt _) ?_;intro an ae ac;obtain⟨af,ad⟩:∃c_,c_=a3.take (0+(i+1)*3)++AB (xs.drop i)++a3.drop (0+(i+1)*3+(AB (xs.drop i)).length):=⟨_,rfl⟩;rw[←ad]at ae;have ao:af.length=a3.length:=by rw[ad];simp only[List.length_append,List.length_take,List.length_drop];rw[(show(AB (xs.drop i)).length=(xs.length-i)*3 from by rw[Aw,List.length_drop];rfl)];omega
   refine⟨.inr trivial,?_⟩;refine RT.done Zk ?_;refine jG ?_;refine jJ func165 ?_;obtain⟨-,hL,hT⟩:=RG (x:=x) (Nat.le_of_lt hi) a8 a7 ai _ _ (ab.trans (by rw[Nat.zero_add];rfl)) (ad.trans (by rw[Nat.zero_add];rfl));have hll:=Mw (x:=x) (Nat.le_of_lt hi);replace hV:=((hV.kp aa).ext a4).kp ac;replace K0:=((K0.n1 aa).ext a4).n1 ac;replace hD:=hD.kp ac;exact⟨_,rfl,some ⟨a5,0,none⟩,a0,by rw[hll],⟨Aw _,.inr ⟨a5,a0,af.toArray,rfl,Nat.zero_le _,ae,by rw[hll];exact a7,ag,by simpa using hL,by rw[hll];simpa using hT⟩⟩,(fun q h_=> .inr (by have:=Ch.1 h_;simp only at this;omega)),Aq.to K0⟩
  ·intro hc31
   exact absurd hc31 Zo
theorem RM (g:Nat)(xs:List Aa)(c i:Nat)(x:Aa)(vb:Nat)(cur:List Value)(w:World)(hs:As w (some ⟨g,0,none⟩) xs)(hD:Cl w g (0+i*3) (AB (xs.drop i)))(hV:AA w vb (cellsOf x) 46)(hi:i<xs.length)(hl:xs.length≤1000000)(hB:AA w g cur 46)(hvg:vb≠g)(hcl:cur.length=c*3)(hcm:c≤maxLen)(htk:cur.take (xs.length*3)=AB xs)(hroom:xs.length+1≤c):
  Calls prog 165 #[.slice (some ⟨g,0,none⟩) xs.length c,.int .i64 ((i:Nat):Int),.slice (some ⟨vb,0,none⟩) 1 1] w (AS (fun v w'=>∃a' c',v= .slice a' (EA xs i x).length c'∧Af w' 46 a' c' (EA xs i x)∧A8 w (own (some ⟨g,0,none⟩)) (own a')∧Ah (own (some ⟨g,0,none⟩)) w w')):=by
 refine Ae (n:=95) func165 rfl rfl rfl ?_;refine jG ?_;refine jV (CL (xs:=xs) underlying28 ty46 rfl rfl Zo) ?_;refine Ex ?_;refine jV (At (c:=1) (Cu underlying28 rfl) rfl) ?_;refine jG ?_;refine Aj.condF rfl ?_;refine jG ?_;refine jF ?_ ?_
 ·intro hc22
  exact absurd hc22 Zo
 ·intro hc22
  refine jG ?_;refine jV (At (c:=((xs.length+1:Nat):Int)) (An rfl rfl Zo Zo) rfl) ?_;refine jG ?_;refine jV (F2 underlying28 rfl) ?_;refine jG ?_;refine jF ?_ ?_
  ·intro hc31
   exact absurd hc31 Zo
  ·intro hc31
   refine jG ?_;refine jV (At (c:=((xs.length+1:Nat):Int)) (An rfl rfl Zo Zo) rfl) ?_;refine jV (BI (j:=xs.length+1) underlying28 ty46 rfl rfl Zo) ?_;refine jG ?_;refine jV (At (c:=((i+1:Nat):Int)) (An rfl rfl Zo Zo) rfl) ?_;refine jV (Cv (l:=(xs.length+1)) (c:=c) (i:=i+1) underlying28 ty46 rfl rfl Zo Zo Zo) ?_;refine jR<|Av.extn (vals:=[.slice (some ⟨vb,0,none⟩) 1 1,.slice (some ⟨g,0+(i+1)*3,none⟩) ((xs.length+1)-(i+1)) (c-(i+1))]) (v:= .bool false) rfl (NH hV hB Zo Zo _ _ _ _) ?_;refine jV (Bo (b:=false) rfl) ?_;refine jG ?_;refine Ed ?_;refine jG ?_;refine Aj.drawT [] (m:=9) Zk rfl ?_;intro a9 a0;have K0:=(a0:Aq w _).to (S:=(own (some ⟨g,0,none⟩)));refine⟨fun w'=>True,?_⟩;refine RT.takeP 0 rfl Zk (.inr trivial) (fun _=>(EQ rfl)) ?_;refine RT.takeP 1 rfl Zk (.inr trivial) (fun _=>(C8 rfl)) ?_;refine RT.takeP 2 rfl Zk (.inr trivial) (fun _=>(C8 rfl)) ?_;refine RT.takeP 3 rfl Zk (.inr trivial) (fun _=>(At (c:=((i+1:Nat):Int)) (An rfl rfl Zo Zo) rfl)) ?_;refine RT.takeP 4 rfl Zk (.inr trivial) (fun _=>(Cv (l:=(xs.length+1)) (c:=c) (i:=i+1) underlying28 ty46 rfl rfl Zo Zo Zo)) ?_;refine RT.takeP 5 rfl Zk (.inr trivial) (fun _=>(EQ rfl)) ?_;refine RT.takeP 6 rfl Zk (.inr trivial) (fun _=>(C8 rfl)) ?_;refine RT.takeP 7 rfl Zk (.inr trivial) (fun _=>(Cv (l:=(xs.length+1)) (c:=c) (i:=i) underlying28 ty46 rfl rfl Zo Zo Zo)) ?_;replace hD:=hD.ext a0;replace hB:=hB.ext a0;refine RT.st 8 rfl Zk rfl<|Av.copyK (m:=xs.length-i) (cs:=AB (xs.drop i)) underlying28 ty46 rfl rfl hB (by simp only[Nat.min_def];split<;>omega) (show(AB (xs.drop i)).length=(xs.length-i)*3 from by rw[Aw,List.length_drop];rfl) hD (by rw[(show(AB (xs.drop i)).length=(xs.length-i)*3 from by rw[Aw,List.length_drop];rfl)];omega) (Gt _) ?_;intro aa a4 a5;obtain⟨a1,a2⟩:∃c_,c_=cur.take (0+(i+1)*3)++AB (xs.drop i)++cur.drop (0+(i+1)*3+(AB (xs.drop i)).length):=⟨_,rfl⟩;rw[←a2]at a4;have ab:a1.length=cur.length:=by rw[a2];simp only[List.length_append,List.length_take,List.length_drop];rw[(show(AB (xs.drop i)).length=(xs.length-i)*3 from by rw[Aw,List.length_drop];rfl)];omega
   replace K0:=K0.tf a5 (Ch.2 rfl);refine⟨.inr trivial,?_⟩;refine RT.done Zk ?_;refine jG ?_;refine jV (Cv (l:=(xs.length+1)) (c:=c) (i:=i) underlying28 ty46 rfl rfl Zo Zo Zo) ?_;refine jG ?_;replace hV:=(hV.ext a0).kp a5;refine jR<|Av.copyK (m:=1) (cs:=cellsOf x) underlying28 ty46 rfl rfl a4 (by simp only[Nat.min_def];split<;>omega) (show(cellsOf x).length=3 from Ax x) hV.cl (by rw[(show(cellsOf x).length=3 from Ax x)];omega) (Enc.plain x) ?_;intro ac a6 a8;obtain⟨a7,a3⟩:∃c_,c_=a1.take (0+i*3)++cellsOf x++a1.drop (0+i*3+(cellsOf x).length):=⟨_,rfl⟩;rw[←a3]at a6;have ad:a7.length=a1.length:=by rw[a3];simp only[List.length_append,List.length_take,List.length_drop];rw[(show(cellsOf x).length=3 from Ax x)];omega
   replace K0:=K0.tf a8 (Ch.2 rfl);refine jG ?_;refine jJ func165 ?_;obtain⟨-,hL,hT⟩:=RH (x:=x) (Nat.le_of_lt hi) hcl hroom htk _ _ (a2.trans (by rw[Nat.zero_add];rfl)) (a3.trans (by rw[Nat.zero_add];rfl));have hll:=Mw (x:=x) (Nat.le_of_lt hi);exact⟨_,rfl,some ⟨g,0,none⟩,c,by rw[hll],⟨Aw _,.inr ⟨g,c,a7.toArray,rfl,Nat.zero_le _,a6,by rw[hll];exact hroom,hcm,by simpa using hL,by rw[hll];simpa using hT⟩⟩,(fun q h_=> .inl h_),K0⟩
theorem RN (a:Option Addr)(xs:List Aa)(c i:Nat)(x:Aa)(vb:Nat)(w:World)(ho:Af w 46 a c xs)(hv:Af w 46 (some ⟨vb,0,none⟩) 1 [x])(hva:¬own a vb)(hi:i≤xs.length)(hl:xs.length≤1000000):
  Calls prog 165 #[.slice a xs.length c,.int .i64 (i:Int),.slice (some ⟨vb,0,none⟩) 1 1] w (AS (fun v w'=>∃a' c',v= .slice a' (EA xs i x).length c'∧Af w' 46 a' c' (EA xs i x)∧A8 w (own a) (own a')∧Ah (own a) w w')):=by
 by_cases h:i=xs.length
 ·subst h;exact TJ a xs c x vb w ho hv.sl hva hl
 ·have hV:AA w vb (cellsOf x) 46:=by
   rcases hv.cases with⟨h0,-⟩|⟨g,cur,h0,h1,-,-,h2,h3⟩
   ·cases h0
   ·cases h0
    have:cur.toList=cellsOf x:=by
     have e:cur.toList.length=1*Enc.size Aa:=by simpa using h2
     rw[List.length_singleton,←e,List.take_length]at h3
     rw[h3];simp[AB]
    show w.heap[vb]? =some (.cells (cellsOf x).toArray 46 (0,0))
    rw[←this];exact h1
  rcases ho.cases with⟨rfl,rfl,rfl⟩|⟨g,cur,rfl,hb,h1,h2,h3,h4⟩
  ·exact absurd hi (by simpa using h)
  ·have hB:AA w g cur.toList 46:=hb
   have hD:Cl w g (0+i*3) (AB (xs.drop i)):=by
    refine hB.cl.sub (i:=i*3) fun j v hj=> ?_
    have e:AB xs=AB (xs.take i)++AB (xs.drop i):=by rw[←Dg,List.take_append_drop]
    have l:(AB (xs.take i)).length=i*3:=by rw[Aw,List.length_take_of_le hi];rfl
    have h5:(AB xs)[i*3+j]? =some v:=by rw[e,List.getElem?_append_right Zo,l,Nat.add_sub_cancel_left];exact hj
    rw[←h4,List.getElem?_take]at h5
    split at h5
    ·exact h5
    ·cases h5
   have hvg:vb≠g:=fun e=>hva (Ch.2 e.symm)
   by_cases hr:c<xs.length+1
   ·exact RK g xs c i x vb w ho.sl hD hV Zo hl h1 hr
   ·exact RM g xs c i x vb cur.toList w ho.sl hD hV Zo hl hB hvg (by rw[Array.length_toList];exact h3) h2 h4 Zo
end Go.Proofs.YtjkaicjmfgekjaaGreatDoor
