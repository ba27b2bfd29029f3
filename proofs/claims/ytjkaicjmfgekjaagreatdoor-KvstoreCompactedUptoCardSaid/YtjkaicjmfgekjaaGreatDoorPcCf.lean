/-
  Cf, Cg, Ch, Ci, Cj
-/
import Derived.Test.YtjkaicjmfgekjaaGreatDoorPcCa
import Derived.Shelf.Lay
import Derived.Shelf.LaySoft
import Derived.Shelf.SlGeneric
import Derived.Shelf.SlSortCmp.NoneTotal
import Derived.Shelf.Strings.FuncGrows
import Derived.Shelf.Strings.Runes
import Derived.Ground.SlsfProg
import Derived.Ground.NamesProg
import Derived.Lib.Overlaps
set_option linter.all false
set_option maxRecDepth 100000
set_option maxHeartbeats 4000000
namespace Go.Proofs.YtjkaicjmfgekjaaGreatDoor
open Go.Proofs.Tryz
attribute [local irreducible] RD RS AB RL RA RT CB Ai
section
open Go.Shelf Go.RowKit Go.Lib Go.Sort
def Ln {α β:Type}[Inhabited α][Enc β](f:α->β)(ts:List α):(flatK (λx=>cellsOf (f x)) (Enc.size β) ts.toArray).toList=AS (ts.map f):=by
 have hk:=Enc.pos (α:=β);apply Abu;intro t;by_cases ht:t<ts.length*Enc.size β
 ·have hd:t/Enc.size β<ts.length:=Nat.div_lt_of_lt_mul (by rw[Abc];exact ht);have hm:t%Enc.size β<Enc.size β:=Abb _ hk;have hlen:(cellsOf (f ts[t/Enc.size β])).length=Enc.size β:=AI _;have h1:=GT (ts.map f) (t/Enc.size β) (by simpa using hd) (t%Enc.size β) ((cellsOf (f ts[t/Enc.size β]))[t%Enc.size β]'(by omega)) (by
   rw[Ace];exact List.getElem?_eq_getElem Zo)
  rw[show t/Enc.size β*Enc.size β+t%Enc.size β=t from Nat.div_add_mod' t _]at h1;rw[h1,Abl];have h2:=get_flatK (λx=>cellsOf (f x)) (Enc.size β) ts.toArray t (by simpa using ht);have h3:t<(flatK (λx=>cellsOf (f x)) (Enc.size β) ts.toArray).size:=by rw[size_flatK];simpa using ht
  rw[getElem!_pos _ t h3]at h2;rw[Array.getElem?_eq_getElem h3,h2,getElem!_pos ts.toArray _ (by simpa using hd)];simp only[List.getElem_toArray];rw[getElem!_pos _ _ Zo]
 rw[Abl,AbT (by rw[size_flatK];simpa using Ab1 ht),Ab3 (by rw[AH,Aad];omega)]
def Ta {α β:Type}[Inhabited α][Enc β](f:α->β){w:World}{g:Nat}{T:TypeId}{cur:Array Value}(ds:List α)(hb:w.heap[g]? =some (.cells cur T (0,0)))
  (ht:cur.toList.take (ds.length*Enc.size β)=AS (ds.map f)):HoldsK (λx=>cellsOf (f x)) (Enc.size β) w g 0 ds.toArray:=by
 intro j hj;have hj':j<ds.length*Enc.size β:=by simpa using hj
 refine⟨?_,by simp[World.frozen?,hb]⟩;have h1:(cur.toList.take (ds.length*Enc.size β))[j]? =(AS (ds.map f))[j]? :=by rw[ht]
 rw[Ach hj',<-Ln f ds,Abl,Abl,Array.getElem?_eq_getElem (xs:=flatK (λx=>cellsOf (f x)) (Enc.size β) ds.toArray) hj]at h1;simp only[World.cell?,hb,Aaq,Aca,Abk,if_false];rw[h1,getElem!_pos _ j hj];rfl
def ie {w:World}{g n:Nat}{os:Array Obj}{cur:Array Value}{e:TypeId}{fr:Nat×Nat}(d:Array Value)(hb:w.heap[g]? =some (.cells cur e fr)):
  (grow (putRow id (Sort.ahead w n) g 0 d) os).heap[g]? =some (.cells (putCells id 0 d cur) e fr):=by
 have hg:g<w.heap.size:=(Array.getElem?_eq_some_iff.1 hb).1;rw[heap_grow_old _ _ (by simpa using hg)];have hb':(Sort.ahead w n).heap[g]? =some (.cells cur e fr):=hb;simp only[putRow,mapBlock,Abd,hb'];simp[onCells]
def Y6 {w:World}{g n:Nat}{os:Array Obj}(d:Array Value):Ae (own (some ⟨g,0,none⟩)) w (grow (putRow id (Sort.ahead w n) g 0 d) os):=by
 refine⟨rfl,rfl,rfl,by simp,λk hk hne=> ?_⟩;rw[heap_grow_old _ _ (by simpa using hk)];have:g≠k:=λe=>hne (CS.2 e)
 simp[putRow,mapBlock,Sort.ahead,Abd,this]
def ig (cur:Array Value)(F:Array Value)(h:F.size<=cur.size):(putCells id 0 F cur).toList.take F.size=F.toList:=by
 apply Abu;intro j;by_cases hj:j<F.size
 ·rw[Ach hj,Abl];simp[putCells,hj,show j<cur.size by omega]
 rw[List.getElem?_take_eq_none Zo,Ab3 Zi]
def jd {α β:Type}[Inhabited α][Enc β](f:α->β){w:World}{g n cap:Nat}{T:TypeId}{os:Array Obj}{cur:Array Value}(ts:List α)(hb:w.heap[g]? =some (.cells cur T (0,0)))
  (h1:ts.length<=cap) (h2:cap<=maxLen) (h3:cur.size=cap*Enc.size β):Af (sortWorldK (λx=>cellsOf (f x)) (Enc.size β) w g 0 n ts.toArray os) T (some ⟨g,0,none⟩) cap (ts.map f):=by
 have hs:(flatK (λx=>cellsOf (f x)) (Enc.size β) ts.toArray).size=ts.length*Enc.size β:=by rw[size_flatK];simp
 refine⟨AH _,.inr ⟨g,cap,_,by rw[Aad],Aal _,ie _ hb,by rw[Aad];exact h1,h2,by simp[putCells,h3],?_⟩⟩;rw[Aad,<-hs,ig _ _ (by rw[hs,h3];exact AaZ _ h1),Ln]
def Lo {α β:Type}(f:α->β)(r:α->α->Bool)(s:β->β->Bool)(h:∀a b,r a b=s (f a) (f b))(l:List α):(l.mergeSort r).map f=(l.map f).mergeSort s:=
 List.map_mergeSort λa _ b _=>h a b
def NM {P:Program}{ρ:Ren}{α β:Type}[Inhabited α][Enc β](L:SlLaysF0.n6 P ρ)(f:α->β)(aE:∀w,(isAgg (ρ.t 24)).run P w= .ok true w)(zE:∀w,(Go.sizeOf (ρ.t 24)).run P w= .ok (Enc.size β) w)
  (cf:α->α->Int) (hO:SWO (ltOf cf)) (hT:∀x y,(ltOf cf) x y=false->(ltOf cf) y x=false->x=y) (g:Nat) (eg:∀args w,(callFunc g args).run P w= .ok (.enter g args) w)
  (hcmp:∀x y W,Calls P g #[.agg (cellsOf (f x)).toArray,.agg (cellsOf (f y)).toArray] W λe w'=>e= .returned (.int .i64 (cf x y))/\∃q os',w'=grow (W.drewN q) os')
  {T:TypeId} {a:Option Addr} {c:Nat} {w:World} (ds:List α) (ho:Af w T a c (ds.map f)) (hl:ds.length<=4294967295):
  Calls P (ρ.f 6) #[.slice a (ds.map f).length c,.func (.func g) #[] #[]] w (AU λv w'=>v= .tuple #[]/\Af w' T a c ((ds.mergeSort (λx y=> !(ltOf cf) y x)).map f)/\Ae (own a) w w'):=by
 rcases ho.cases with⟨rfl,rfl,h0⟩|⟨g',cur,rfl,hb,h1,h2,h3,h4⟩
 ·have:ds=[]:=by cases ds with|nil=>rfl|cons _ _=>cases h0
  subst this;exact(AnyF.slices_SortFunc_none L none 0 _ w).mono λe w' h=>⟨_,h.1,rfl,by rw[h.2];simpa using Af.nil _ _,by rw[h.2];exact Ae.refl _ _⟩
 rw[Aad]at h1 h4;have hH:=Ta f ds hb h4;have h:=AnyQ.slices_SortFunc_total L (Enc.size β) aE zE (λx=>cellsOf (f x)) (λx=>AI _) (λx v hv=>Enc.plain (f x) v hv) cf hO g #[] g' 0 c ds.toArray w eg (λm os dk _ x y=>hcmp x y _) hH (CH hb) Zi hT;rw[Aad];refine(show Calls P (ρ.f 6) #[.slice (some ⟨g',0,none⟩) ds.length c,.func (.func g) #[] #[]] w _ from by simpa using h).mono λe w' he=> ?_;obtain⟨rfl,n,os,rfl⟩:=he;exact⟨_,rfl,rfl,by simpa using jd f (ds.mergeSort (λx y=> !(ltOf cf) y x)) hb (by rw[List.length_mergeSort];exact h1) h2 h3,Y6 _⟩
end
section
open Go.Shelf
def sortDL_ren :Go.Shelf.Ren:=⟨fun|6=>241|15=>210|14=>281|28=>254|29=>255|20=>323|21=>324|22=>325|23=>326|24=>327|25=>328|26=>329|27=>330|46=>348|47=>285|48=>286|49=>349|50=>350|57=>357|n=>n,fun|22=>29|24=>73|25=>211|3=>3|39=>106|0=>0|53=>84|55=>74|4=>4|46=>299|45=>298|50=>228|5=>5|9=>9|66=>325|70=>318|76=>360|77=>361|n=>n,fun|n=>n⟩
def sortDL :Go.Proofs.SlLaysF0.n6 prog sortDL_ren:={
 mixed:=by kernel_rfl
 f6:=⟨Tryz.f241.name,by decide,func241.trans (congrArg some Zk)⟩
 f14:=⟨Tryz.f281.name,by decide,func281.trans (congrArg some Zk)⟩
 f15:=func210.trans (congrArg some Zk)
 f20:=⟨Tryz.f323.name,by decide,func323.trans (congrArg some Zk)⟩
 f21:=⟨Tryz.f324.name,by decide,func324.trans (congrArg some Zk)⟩
 f22:=⟨Tryz.f325.name,by decide,func325.trans (congrArg some Zk)⟩
 f23:=⟨Tryz.f326.name,by decide,func326.trans (congrArg some Zk)⟩
 f24:=⟨Tryz.f327.name,by decide,func327.trans (congrArg some Zk)⟩
 f25:=⟨Tryz.f328.name,by decide,func328.trans (congrArg some Zk)⟩
 f26:=⟨Tryz.f329.name,by decide,func329.trans (congrArg some Zk)⟩
 f27:=⟨Tryz.f330.name,by decide,func330.trans (congrArg some Zk)⟩
 f28:=func254.trans (congrArg some Zk)
 f29:=func255.trans (congrArg some Zk)
 f46:=⟨Tryz.f348.name,by decide,func348.trans (congrArg some Zk)⟩
 f47:=func285.trans (congrArg some Zk)
 f48:=func286.trans (congrArg some Zk)
 f49:=⟨Tryz.f349.name,by decide,func349.trans (congrArg some Zk)⟩
 f50:=⟨Tryz.f350.name,by decide,func350.trans (congrArg some Zk)⟩
 f57:=⟨Tryz.f357.name,by decide,func357.trans (congrArg some Zk)⟩
 t0:=underlying0
 a0:=Tryz.isAgg0
 z0:=Tryz.sizeOf0
 v0:=Tryz.zeroValue0
 t3:=underlying3
 a3:=Tryz.isAgg3
 z3:=Tryz.sizeOf3
 v3:=Tryz.zeroValue3
 t4:=underlying4
 a4:=Tryz.isAgg4
 z4:=Tryz.sizeOf4
 v4:=Tryz.zeroValue4
 t5:=underlying5
 a5:=Tryz.isAgg5
 z5:=Tryz.sizeOf5
 v5:=Tryz.zeroValue5
 t9:=underlying9
 a9:=Tryz.isAgg9
 z9:=Tryz.sizeOf9
 v9:=Tryz.zeroValue9
 t22:=underlying29
 a22:=Tryz.isAgg29
 z22:=Tryz.sizeOf29
 v22:=Tryz.zeroValue29
 t25:=underlying211
 a25:=Tryz.isAgg211
 z25:=Tryz.sizeOf211
 v25:=Tryz.zeroValue211
 t39:=underlying106
 a39:=Tryz.isAgg106
 z39:=Tryz.sizeOf106
 v39:=Tryz.zeroValue106
 t45:=underlying298
 a45:=Tryz.isAgg298
 z45:=Tryz.sizeOf298
 v45:=Tryz.zeroValue298
 t46:=underlying299
 a46:=Tryz.isAgg299
 z46:=Tryz.sizeOf299
 v46:=Tryz.zeroValue299
 t50:=underlying228
 a50:=Tryz.isAgg228
 z50:=Tryz.sizeOf228
 v50:=Tryz.zeroValue228
 t53:=underlying84
 a53:=Tryz.isAgg84
 z53:=Tryz.sizeOf84
 v53:=Tryz.zeroValue84
 t55:=underlying74
 a55:=Tryz.isAgg74
 z55:=Tryz.sizeOf74
 v55:=Tryz.zeroValue74
 t66:=underlying325
 a66:=Tryz.isAgg325
 z66:=Tryz.sizeOf325
 v66:=Tryz.zeroValue325
 t70:=underlying318
 a70:=Tryz.isAgg318
 z70:=Tryz.sizeOf318
 v70:=Tryz.zeroValue318
 t76:=underlying360
 a76:=Tryz.isAgg360
 z76:=Tryz.sizeOf360
 v76:=Tryz.zeroValue360
 t77:=underlying361
 a77:=Tryz.isAgg361
 z77:=Tryz.sizeOf361
 v77:=Tryz.zeroValue361}
def sortEL_ren :Go.Shelf.Ren:=⟨fun|6=>151|15=>210|14=>209|28=>254|29=>255|20=>246|21=>247|22=>248|23=>249|24=>250|25=>251|26=>252|27=>253|46=>284|47=>285|48=>286|49=>287|50=>288|57=>331|n=>n,fun|22=>27|24=>76|25=>213|3=>3|39=>106|0=>0|53=>84|55=>74|4=>4|46=>299|45=>298|50=>228|5=>5|9=>9|66=>325|70=>318|76=>360|77=>361|n=>n,fun|n=>n⟩
def sortEL :Go.Proofs.SlLaysF0.n6 prog sortEL_ren:={
 mixed:=by kernel_rfl
 f6:=⟨Tryz.f151.name,by decide,func151.trans (congrArg some Zk)⟩
 f14:=⟨Tryz.f209.name,by decide,func209.trans (congrArg some Zk)⟩
 f15:=func210.trans (congrArg some Zk)
 f20:=⟨Tryz.f246.name,by decide,func246.trans (congrArg some Zk)⟩
 f21:=⟨Tryz.f247.name,by decide,func247.trans (congrArg some Zk)⟩
 f22:=⟨Tryz.f248.name,by decide,func248.trans (congrArg some Zk)⟩
 f23:=⟨Tryz.f249.name,by decide,func249.trans (congrArg some Zk)⟩
 f24:=⟨Tryz.f250.name,by decide,func250.trans (congrArg some Zk)⟩
 f25:=⟨Tryz.f251.name,by decide,func251.trans (congrArg some Zk)⟩
 f26:=⟨Tryz.f252.name,by decide,func252.trans (congrArg some Zk)⟩
 f27:=⟨Tryz.f253.name,by decide,func253.trans (congrArg some Zk)⟩
 f28:=func254.trans (congrArg some Zk)
 f29:=func255.trans (congrArg some Zk)
 f46:=⟨Tryz.f284.name,by decide,func284.trans (congrArg some Zk)⟩
 f47:=func285.trans (congrArg some Zk)
 f48:=func286.trans (congrArg some Zk)
 f49:=⟨Tryz.f287.name,by decide,func287.trans (congrArg some Zk)⟩
 f50:=⟨Tryz.f288.name,by decide,func288.trans (congrArg some Zk)⟩
 f57:=⟨Tryz.f331.name,by decide,func331.trans (congrArg some Zk)⟩
 t0:=underlying0
 a0:=Tryz.isAgg0
 z0:=Tryz.sizeOf0
 v0:=Tryz.zeroValue0
 t3:=underlying3
 a3:=Tryz.isAgg3
 z3:=Tryz.sizeOf3
 v3:=Tryz.zeroValue3
 t4:=underlying4
 a4:=Tryz.isAgg4
 z4:=Tryz.sizeOf4
 v4:=Tryz.zeroValue4
 t5:=underlying5
 a5:=Tryz.isAgg5
 z5:=Tryz.sizeOf5
 v5:=Tryz.zeroValue5
 t9:=underlying9
 a9:=Tryz.isAgg9
 z9:=Tryz.sizeOf9
 v9:=Tryz.zeroValue9
 t22:=underlying27
 a22:=Tryz.isAgg27
 z22:=Tryz.sizeOf27
 v22:=Tryz.zeroValue27
 t25:=underlying213
 a25:=Tryz.isAgg213
 z25:=Tryz.sizeOf213
 v25:=Tryz.zeroValue213
 t39:=underlying106
 a39:=Tryz.isAgg106
 z39:=Tryz.sizeOf106
 v39:=Tryz.zeroValue106
 t45:=underlying298
 a45:=Tryz.isAgg298
 z45:=Tryz.sizeOf298
 v45:=Tryz.zeroValue298
 t46:=underlying299
 a46:=Tryz.isAgg299
 z46:=Tryz.sizeOf299
 v46:=Tryz.zeroValue299
 t50:=underlying228
 a50:=Tryz.isAgg228
 z50:=Tryz.sizeOf228
 v50:=Tryz.zeroValue228
 t53:=underlying84
 a53:=Tryz.isAgg84
 z53:=Tryz.sizeOf84
 v53:=Tryz.zeroValue84
 t55:=underlying74
 a55:=Tryz.isAgg74
 z55:=Tryz.sizeOf74
 v55:=Tryz.zeroValue74
 t66:=underlying325
 a66:=Tryz.isAgg325
 z66:=Tryz.sizeOf325
 v66:=Tryz.zeroValue325
 t70:=underlying318
 a70:=Tryz.isAgg318
 z70:=Tryz.sizeOf318
 v70:=Tryz.zeroValue318
 t76:=underlying360
 a76:=Tryz.isAgg360
 z76:=Tryz.sizeOf360
 v76:=Tryz.zeroValue360
 t77:=underlying361
 a77:=Tryz.isAgg361
 z77:=Tryz.sizeOf361
 v77:=Tryz.zeroValue361}
def cmpSL_ren :Go.Shelf.Ren:=⟨fun|106=>172|213=>224|265=>273|n=>n,fun|9=>9|3=>3|n=>n,fun|n=>n⟩
def cmpSL :Go.Proofs.Lays.n106 prog cmpSL_ren:={
 mixed:=by kernel_rfl
 f106:=func172.trans (congrArg some Zk)
 f213:=func224.trans (congrArg some Zk)
 f265:=func273.trans (congrArg some Zk)
 t3:=underlying3
 a3:=Tryz.isAgg3
 z3:=Tryz.sizeOf3
 v3:=Tryz.zeroValue3
 t9:=underlying9
 a9:=Tryz.isAgg9
 z9:=Tryz.sizeOf9
 v9:=Tryz.zeroValue9}
def idxFL_ren :Go.Shelf.Ren:=⟨fun|315=>239|n=>n,fun|9=>9|40=>257|4=>4|3=>3|0=>0|21=>21|n=>n,fun|n=>n⟩
def idxFL :Go.Proofs.Lays.n315 prog idxFL_ren:={
 mixed:=by kernel_rfl
 f315:=func239.trans (congrArg some Zk)
 t0:=underlying0
 a0:=Tryz.isAgg0
 z0:=Tryz.sizeOf0
 v0:=Tryz.zeroValue0
 t3:=underlying3
 a3:=Tryz.isAgg3
 z3:=Tryz.sizeOf3
 v3:=Tryz.zeroValue3
 t4:=underlying4
 a4:=Tryz.isAgg4
 z4:=Tryz.sizeOf4
 v4:=Tryz.zeroValue4
 t9:=underlying9
 a9:=Tryz.isAgg9
 z9:=Tryz.sizeOf9
 v9:=Tryz.zeroValue9
 t21:=underlying21
 a21:=Tryz.isAgg21
 z21:=Tryz.sizeOf21
 v21:=Tryz.zeroValue21
 t40:=underlying257
 a40:=Tryz.isAgg257
 z40:=Tryz.sizeOf257
 v40:=Tryz.zeroValue257}
def idxBL_ren :Go.Shelf.Ren:=⟨fun|137=>277|217=>322|266=>347|n=>n,fun|9=>9|5=>5|3=>3|n=>n,fun|n=>n⟩
def idxBL :Go.Proofs.Lays.n137 prog idxBL_ren:={
 mixed:=by kernel_rfl
 f137:=func277.trans (congrArg some Zk)
 f217:=func322.trans (congrArg some Zk)
 f266:=func347.trans (congrArg some Zk)
 t3:=underlying3
 a3:=Tryz.isAgg3
 z3:=Tryz.sizeOf3
 v3:=Tryz.zeroValue3
 t5:=underlying5
 a5:=Tryz.isAgg5
 z5:=Tryz.sizeOf5
 v5:=Tryz.zeroValue5
 t9:=underlying9
 a9:=Tryz.isAgg9
 z9:=Tryz.sizeOf9
 v9:=Tryz.zeroValue9}
end
def FA (s:List Ah)(x:Ah):List Ah:=if s.getLast? =some x then s else s++[x]
def uniq (l:List Ah):List Ah:=l.foldl FA []
def D8 {α:Type}{xs:List α}{i:Nat}{x:α}(h:xs[i]? =some x):xs.take (i+1)=xs.take i++[x]:=by
 obtain⟨hi,rfl⟩:=List.getElem?_eq_some_iff.1 h;exact AaJ hi
def Gg {xs:List Ah}{j:Nat}{x:Ah}(h:xs[j]? =some x):uniq (xs.take (j+1))=FA (uniq (xs.take j)) x:=by rw[uniq,D8 h,Abg];rfl
def uniq_last :∀{xs:List Ah} {j:Nat} {x:Ah},xs[j]? =some x->(uniq (xs.take (j+1))).getLast? =some x:=by
 intro xs j x h;rw[Gg h,FA];split
 ·assumption
 simp
def MK {xs:List Ah}{j:Nat}{x:Ah}(h1:xs[j]? =some x)(h2:xs[j+1]? =some x):uniq (xs.take (j+2))=uniq (xs.take (j+1)):=by
 rw[Gg h2,FA,if_pos (uniq_last h1)]
def Pb {xs:List Ah}{j:Nat}{x y:Ah}(h1:xs[j]? =some y)(h2:xs[j+1]? =some x)(hn:x≠y):uniq (xs.take (j+2))=uniq (xs.take (j+1))++[x]:=by
 rw[Gg h2,FA,if_neg (by rw[uniq_last h1];simpa using λe=>hn e.symm)]
def Tb (xs:List Ah)(i:Nat):Prop:=∀j x y,j+1<i->xs[j+1]? =some x->xs[j]? =some y->x≠y
def Tb.one (xs:List Ah):Tb xs 1:=λ_ _ _ h=>absurd h Zo
def Tb.step {xs:List Ah}{i:Nat}{x y:Ah}(h:Tb xs (i+1))(h1:xs[i+1]? =some x)(h2:xs[i]? =some y)(hn:x≠y):Tb xs (i+2):=λj a b hj ha hb=>by
 by_cases c:j=i
 ·subst c;rw[h1]at ha;rw[h2]at hb;cases ha;cases hb;exact hn
 exact h j a b Zo ha hb
def GC {xs : List Ah} : ∀ {i : Nat}, i <= xs.length -> Tb xs i -> uniq (xs.take i) = xs.take i
  | 0, _, _ => rfl
  | 1, h, _ => by
    rw [Gg (List.getElem?_eq_getElem Zo), D8 (List.getElem?_eq_getElem Zo)]; rfl
  | i + 2, h, hn => by
    have h1 : xs[i]? = some xs[i] := List.getElem?_eq_getElem Zo;have h2 : xs[i + 1]? = some xs[i + 1] := List.getElem?_eq_getElem Zo;rw [Pb h1 h2 (hn i _ _ Zo h2 h1), GC Zo (λj a b hj => hn j a b Zo), <- D8 h2]
def Xm (xs : List Ah) : (uniq xs).length <= xs.length := by
  have : ∀ i, i <= xs.length -> (uniq (xs.take i)).length <= i := by
    intro i;induction i with
    | zero => intro _; exact Aac _
    | succ i ih =>
      intro h;rw [Gg (List.getElem?_eq_getElem Zo), FA];have := ih Zo;split
      · omega
      simp; omega
  have h := this xs.length (Aac _);rwa [Aap] at h
def Tb.pred {xs:List Ah}{i:Nat}{x y:Ah}(h:Tb xs i)(h0:1<=i)(h1:xs[i]? =some x)(h2:xs[i-1]? =some y)(hn:¬x=y):Tb xs (i+1):=by
 obtain⟨j,rfl⟩:∃j,i=j+1:=⟨i-1,by omega⟩
 exact Tb.step h h1 h2 hn
def Xn {xs:List Ah}{k:Nat}{x y:Ah}(h:Tb xs k)(h0:1<=k)(h1:xs[k]? =some x)(h2:xs[k-1]? =some y)(he:x=y):uniq (xs.take (k+1))=xs.take k:=by
 obtain⟨j,rfl⟩:∃j,k=j+1:=⟨k-1,by omega⟩
 subst he;have:=(List.getElem?_eq_some_iff.1 h1).1
 have h2':xs[j]? =some x:=h2;rw[MK h2' h1,GC Zo h]
def ML {xs:List Ah}{j:Nat}{x y:Ah}(h0:1<=j)(h1:xs[j]? =some x)(h2:xs[j-1]? =some y):uniq (xs.take (j+1))=if x=y then uniq (xs.take j)else uniq (xs.take j)++[x]:=by
 obtain⟨i,rfl⟩:∃i,j=i+1:=⟨j-1,by omega⟩
 split
 ·rename_i e;subst e;exact MK h2 h1
 rename_i e;exact Pb h2 h1 e
def IE {xs ys:List Ah}{k q j:Nat}{x:Ah}(h:(ys.drop k)[q]? =some x)(hd:ys.drop j=xs.drop j)(hj:j<=k+q):xs[k+q]? =some x:=by
 rw[Abt]at h;rw[<-h];have:=congrArg (λl=>l[k+q-j]?) hd
 simp only[Abt]at this;rw[show j+(k+q-j)=k+q by omega]at this;exact this.symm
def uniq_fold : ∀ (l acc : List Ah) (a : Ah), l.foldl FA (acc ++ [a]) = acc ++ compD (a :: l)
  | [], acc, a => by simp [compD]
  | b :: l, acc, a => by
    rw [AaK, compD];by_cases h : a = b
    · have e : FA (acc ++ [a]) b = acc ++ [b] := by rw [FA, if_pos (by simp [h]), h]
      rw [e, uniq_fold, if_pos h]
    have e : FA (acc ++ [a]) b = (acc ++ [a]) ++ [b] := by rw [FA, if_neg (by simpa using h)]
    rw [e, uniq_fold, if_neg h];simp
def MM (l:List Ah):uniq l=compD l:=by
 cases l with
 |nil=>rfl
 |cons a l=>exact uniq_fold l [] a
instance : Inhabited {d:Ah//AD d}:=⟨⟨⟨0,1,1⟩,by unfold AD;decide⟩⟩
section
open Go.Shelf Go.RowKit Go.Lib Go.Sort
def je (x y:Ah)(hx:DP x)(hy:DP y)(W:World):Calls prog 139 #[.agg #[.int .i64 x.node,.int .i64 x.life,.int .i64 x.count],.agg #[.int .i64 y.node,.int .i64 y.life,.int .i64 y.count]] W λe w'=>e= .returned (.int .i64 (By x y))/\∃q os',w'=grow (W.drewN q) os':=by
 obtain⟨⟨a1,a2⟩,⟨a3,a4⟩,a5,a6⟩:=hx;obtain⟨⟨b1,b2⟩,⟨b3,b4⟩,b5,b6⟩:=hy;unfold By;by_cases h1:x.node=y.node
 ·by_cases h2:x.life=y.life
  ·simp only[h1,h2,if_true];go_enter func139,Tryz.ntmps139;go_wp2;go_ret
   exact⟨rfl,0,_,by rw[alloc_eq_grow,alloc_eq_grow,grow_grow];rfl⟩
  simp only[h1,h2,if_true,if_false];go_enter func139,Tryz.ntmps139;go_wp2;go_ret
  exact⟨rfl,0,_,by rw[alloc_eq_grow,alloc_eq_grow,grow_grow];rfl⟩
 simp only[h1,if_false];go_enter func139,Tryz.ntmps139;go_wp2;go_ret
 exact⟨rfl,0,_,by rw[alloc_eq_grow,alloc_eq_grow,grow_grow];rfl⟩
def Ws (x y:{d:Ah//AD d}):Int:=By x.1 y.1
def swoD :SWO (ltOf Ws) where
 irrefl x:=by simp only[ltOf,Ws];exact decide_eq_false (λh=>NE (EU.1 h))
 trans x y z h1 h2:=by simp only[ltOf,Ws]at*;exact decide_eq_true (EU.2 (Ff (EU.1 (of_decide_eq_true h1)) (EU.1 (of_decide_eq_true h2))))
 ntrans x y z h1 h2:=by simp only[ltOf,Ws,decide_eq_false_iff_not,EU]at*;unfold Cx at*;omega
def jf (x y:{d:Ah//AD d})(h1:ltOf Ws x y=false)(h2:ltOf Ws y x=false):x=y:=by
 simp only[ltOf,Ws,decide_eq_false_iff_not,EU]at*;exact Subtype.ext (Ke h1 h2)
def Pc {a:Option Addr}{xs:List Ah}{c:Nat}{w:World}(ho:Af w 73 a c xs)(hx:∀x∈xs,AD x)(hl:xs.length<=4294967295):
  Calls prog 241 #[.slice a xs.length c,.func (.func 139) #[] #[]] w (AU λv w'=>v= .tuple #[]/\Af w' 73 a c (Bh xs)/\Ae (own a) w w'):=by
 have e:(xs.attachWith AD hx).map Subtype.val=xs:=Acr hx;have h:=NM (α:={d:Ah//AD d}) (β:=Ah) sortDL Subtype.val Tryz.isAgg73 Tryz.sizeOf73 Ws swoD jf 139 (C1 func139 rfl Zk) (λx y W=>je x.1 y.1 x.2.sm y.2.sm W) (xs.attachWith AD hx) (by rw[e];exact ho) (by rw[Acs];exact hl);rw[Lo Subtype.val (λx y=> !(ltOf Ws) y x) TT (λa b=>by simp only[ltOf,Ws,TT,EU]),e]at h;exact h
end
end Go.Proofs.YtjkaicjmfgekjaaGreatDoor
namespace Go.Proofs.YtjkaicjmfgekjaaGreatDoor
open Go.Proofs.Tryz
attribute [local irreducible] RD RS AB RL RA RT CB Ai
structure D9 {α:Type}[Enc α](w:World)(ss:List SH)(bss:List (List α)):Prop where
 len:ss.length=bss.length
 all:∀(i:Nat) (s:SH) (bs:List α),ss[i]? =some s->bss[i]? =some bs->s.len=bs.length/\Ax w s.a bs
section
variable {α :Type}[Enc α]
def D9.ext {w w':World}{ss:List SH}{bss:List (List α)}(h:D9 w ss bss)(k:As w w'):D9 w' ss bss:=
 ⟨h.len,λi s bs h1 h2=>have h3:=h.all i s bs h1 h2;⟨h3.1,h3.2.ext k⟩⟩
def D9.two {w:World}{a b:SH}{x y:List α}(h1:a.len=x.length)(h2:Ax w a.a x)(h3:b.len=y.length)(h4:Ax w b.a y):D9 w [a,b] [x,y]:=
 ⟨rfl,λi s bs hx hb=>by
  match i with
  |0=>simp at hx hb;subst hx;subst hb;exact⟨h1,h2⟩
  |1=>simp at hx hb;subst hx;subst hb;exact⟨h3,h4⟩
  |i+2=>simp at hx⟩
omit [Enc α]in
def Ht {bss:List (List α)}{i:Nat}{bs:List α}(h:bss[i]? =some bs):(bss.take (i+1)).flatten=(bss.take i).flatten++bs:=by rw[D8 h];simp
omit [Enc α]in
def Gh (bss:List (List α))(i:Nat):(bss.take i).flatten.length<=bss.flatten.length:=by
 have e:bss.flatten=(bss.take i).flatten++(bss.drop i).flatten:=by rw[<-List.flatten_append,AbK]
 rw[e,Aab];omega
end
def FB {α:Type}(xs:List α)(i:Nat)(x:α):List α:=xs.take i++x::xs.drop i
def Pd {α:Type}{xs:List α}{i:Nat}{x:α}(h:i<=xs.length):(FB xs i x).length=xs.length+1:=by simp[FB];omega
def Vd {α:Type}(xs:List α)(x:α):xs++[x]=FB xs xs.length x:=by simp[FB]
section
variable {α :Type}[Enc α]
def Ve {xs:List α}{i:Nat}{x:α}{cur:List Value}{c:Nat}(hi:i<=xs.length)(hc:cur.length=c*Enc.size α)(hle:xs.length+1<=c)(ht:cur.take (i*Enc.size α)=AS (xs.take i)):
  ∀cur2 cur3,cur2=cur.take (i*Enc.size α)++cellsOf x++cur.drop (i*Enc.size α+(cellsOf x).length)->cur3=cur2.take ((i+1)*Enc.size α)++AS (xs.drop i)++cur2.drop ((i+1)*Enc.size α+(AS (xs.drop i)).length)->
   cur2.length=c*Enc.size α/\cur3.length=c*Enc.size α/\cur3.take ((xs.length+1)*Enc.size α)=AS (FB xs i x):=by
 intro cur2 cur3 e2 e3;have hk:=Enc.pos (α:=α);have hx:(cellsOf x).length=Enc.size α:=AI x;have hf:(AS (xs.drop i)).length=(xs.length-i)*Enc.size α:=by rw[AH,List.length_drop]
 have b1:(xs.length+1)*Enc.size α<=c*Enc.size α:=AaZ _ hle;have b2:i*Enc.size α+(xs.length-i)*Enc.size α=xs.length*Enc.size α:=by rw[<-Aa7];congr 1;omega
 have b3:(xs.length+1)*Enc.size α=xs.length*Enc.size α+Enc.size α:=AaY _ _;have b4:(i+1)*Enc.size α=i*Enc.size α+Enc.size α:=AaY _ _;have l0:(cur.take (i*Enc.size α)).length=i*Enc.size α:=by rw[List.length_take];omega
 have l2:cur2.length=c*Enc.size α:=by rw[e2];simp only[Aab,List.length_drop,l0,hx];omega
 have t2:cur2.take ((i+1)*Enc.size α)=AS (xs.take i)++cellsOf x:=by
  rw[e2,<-ht];exact List.take_left' (by rw[Aab,l0,hx,b4])
 have l3:cur3.length=c*Enc.size α:=by rw[e3];simp only[Aab,List.length_drop,List.length_take,l2,hf];omega
 refine⟨l2,l3,?_⟩;rw[e3,t2];have lf:(AS (xs.take i)).length=i*Enc.size α:=by rw[<-ht];exact l0
 rw[List.take_left' (by simp only[Aab,lf,hx,hf];omega)];rw[FB,Eb,Cd,Aar]
def Vf {xs:List α}{i:Nat}{x:α}{cur:List Value}{c:Nat}(hi:i<=xs.length)(hc:cur.length=c*Enc.size α)(hle:xs.length+1<=c)(ht:cur.take (xs.length*Enc.size α)=AS xs):
  ∀cur2 cur3,cur2=cur.take ((i+1)*Enc.size α)++AS (xs.drop i)++cur.drop ((i+1)*Enc.size α+(AS (xs.drop i)).length)->cur3=cur2.take (i*Enc.size α)++cellsOf x++cur2.drop (i*Enc.size α+(cellsOf x).length)->
   cur2.length=c*Enc.size α/\cur3.length=c*Enc.size α/\cur3.take ((xs.length+1)*Enc.size α)=AS (FB xs i x):=by
 intro cur2 cur3 e2 e3;have hk:=Enc.pos (α:=α);have hx:(cellsOf x).length=Enc.size α:=AI x;have hf:(AS (xs.drop i)).length=(xs.length-i)*Enc.size α:=by rw[AH,List.length_drop]
 have b1:(xs.length+1)*Enc.size α<=c*Enc.size α:=AaZ _ hle;have b2:i*Enc.size α+(xs.length-i)*Enc.size α=xs.length*Enc.size α:=by rw[<-Aa7];congr 1;omega
 have b3:(xs.length+1)*Enc.size α=xs.length*Enc.size α+Enc.size α:=AaY _ _;have b4:(i+1)*Enc.size α=i*Enc.size α+Enc.size α:=AaY _ _;have l0:(cur.take ((i+1)*Enc.size α)).length=(i+1)*Enc.size α:=by rw[List.length_take];omega
 have l2:cur2.length=c*Enc.size α:=by rw[e2];simp only[Aab,List.length_drop,l0,hf];omega
 have ti:cur.take (i*Enc.size α)=AS (xs.take i):=by
  rw[He,<-ht,AbU];congr 1;omega
 have t2:cur2.take (i*Enc.size α)=AS (xs.take i):=by
  rw[e2,Aar,AbV (by rw[l0];omega),AbU,Abv Zo,ti]
 have d2:cur2.drop (i*Enc.size α+Enc.size α)=AS (xs.drop i)++cur.drop ((i+1)*Enc.size α+(AS (xs.drop i)).length):=by
  rw[<-b4,e2,Aar];exact List.drop_left' l0
 have lf:(AS (xs.take i)).length=i*Enc.size α:=by rw[<-t2,List.length_take];omega
 have l3:cur3.length=c*Enc.size α:=by rw[e3];simp only[Aab,List.length_drop,List.length_take,l2,hx];omega
 refine⟨l2,l3,?_⟩;rw[e3,t2,hx,d2,<-Aar];rw[List.take_left' (by simp only[Aab,lf,hx,hf];omega)];rw[FB,Eb,Cd,Aar]
end
attribute [local irreducible] AD DP Cx BI By Ca B6 Jo JX Cm AW Cu Va JN
def IF {α:Type}{xs ys:List α}{j:Nat}(h:ys.drop j=xs.drop j):ys.drop (j+1)=xs.drop (j+1):=by
 rw[<-Aa6,h,Aa6]
def L2 {α:Type}{ys:List α}{i:Nat}{x:α}(hi:i<ys.length):(ys.set i x).take (i+1)=ys.take i++[x]:=by
 rw[AaJ (by simpa using hi),List.getElem_set_self,List.take_set_of_le (Aac _)]
def Pe {α:Type}{ys:List α}{i j:Nat}{x:α}(h:i<j):(ys.set i x).drop j=ys.drop j:=by
 rw[List.drop_set,if_pos h]
def Qw {w:World}{vb g:Nat}{vc cur:List Value}{T:TypeId}(hV:AC w vb vc T)(hB:AC w g cur T)(hne:vb≠g)(hl:0<cur.length)(o n1 c1 n2:Nat){c2:Nat}:
  (callFunc 217 (([.slice (some ⟨vb,0,none⟩) n1 c1,.slice (some ⟨g,o,none⟩) n2 c2]:List Value).toArray)).run prog w= .ok (.value (.bool false)) w:=by
 have e1:w.shape? vb=some (T,vc.length):=by simp[World.shape?,show w.heap[vb]? =_ from hV]
 have e2:w.shape? g=some (T,cur.length):=by simp[World.shape?,show w.heap[g]? =_ from hB]
 have e3:∀o,w.frozen? ⟨vb,o,none⟩=false:=λo=>by simp[World.frozen?,show w.heap[vb]? =_ from hV]
 show(callFunc 217 #[.slice (some ⟨vb,0,none⟩) n1 c1,.slice (some ⟨g,o,none⟩) n2 c2]).run prog w=_
 rw[run_callFunc_extern func217 Zk Zk Zk (e:=Extern.SlicesOverlaps.overlaps #[28,28] #[4]) Zk,
  Lib.run_overlaps_apart w 28 4 46 underlying28 3 Tryz.sizeOf46 ⟨vb,0,none⟩ ⟨g,o,none⟩ n1 c1 n2 c2 hne T T vc.length cur.length e1 e2 Zo (e3 0) (e3 _)]
 rfl
attribute [local irreducible] X
def Y7 (q:Nat)(w:World)(hq:q<=4294967295):
  Calls prog 244 #[.slice none 0 0,.int .i64 ((q:Nat):Int)] w (AU (λv w'=>∃a' c',v= .slice a' 0 c'/\Af w' 46 a' c' ([]:List Ab)/\(∀b,own a' b->w.heap.size<=b)/\As w w')):=by
 refine kD (n:=27) func244 ?_;refine jF ?_ ?_
 ·intro hc6;exfalso;omega
 intro hc6;refine jG ?_;refine jV (AA (c:=0) (FH underlying28 rfl) rfl) ?_;refine FU ?_;refine jV (AA (c:=0) (CM underlying28 rfl) rfl) ?_;refine jV (AA (c:=0) (B8 rfl rfl Zd Zd) Zd) ?_;refine kE (AA (c:=((q:Nat):Int)) (B8 rfl rfl Zo Zo) Zo) ?_;refine jF ?_ ?_
 ·intro hc16;refine jG ?_;refine jV (AA (c:=0) (FH underlying28 rfl) rfl) ?_;refine kE (B7 (j:=0) underlying28 ty46 rfl rfl Zo) ?_;refine jR<|AB.appendZeros (q:=q) Ab underlying28 underlying3 ty46 rfl rfl rfl Zo Zo Zd ?_;intro a1 a2 a6 a0 a7 a3 a4;have a5:=Bg (Aac _) (Du a0);clear a0;have K0:=(a4:As w _);refine FU ?_;refine jV (AA (c:=0) (CM underlying28 rfl) rfl) ?_;refine kE (B7 (j:=0) underlying28 ty46 rfl rfl Zo) ?_;refine jJ func244 ?_;exact⟨_,rfl,some ⟨a1,0,none⟩,a2,rfl,a3,a5,K0⟩
 intro hc16;refine kL func244 ?_;exact⟨_,rfl,none,0,rfl,Af.nil _ _,λb h=>absurd h (Ad b),Ae.refl _ w⟩
def Vg (a:Option Addr)(ss:List SH)(c:Nat)(bss:List (List Ab))(w:World)(hs:Ax w a ss)(hp:D9 w ss bss)(hl:bss.flatten.length<=4294967295)(hl2:bss.length<=4294967295):
  Calls prog 206 #[.slice a ss.length c] w (AU (λv w'=>∃a' c',v= .slice a' bss.flatten.length c'/\Af w' 46 a' c' bss.flatten/\(∀b,own a' b->w.heap.size<=b)/\As w w')):=by
 have hlen:=hp.len;refine kD (n:=36) func206 ?_;refine Ai.loop (ι:=Nat) (λi ρ' w'=>Holds ρ' [(0,.slice a ss.length c),(3,.int .i64 ((((bss.take i).flatten).length:Nat):Int)),(9,.slice a ss.length c),(10,.int .i64 ((ss.length:Nat):Int)),(11,.int .i64 ((i:Nat):Int))]/\As w w'/\(i<=bss.length)) (λi=>bss.length-i) 0 ?_ ?_
 ·refine⟨⟨rfl,rfl,rfl,rfl,rfl,trivial⟩,(Ae.refl _ w),?_⟩
  ·omega
 rintro i ai aj ⟨a4,K0,hi⟩ ih1;obtain⟨ρ₀,rfl⟩:=a4.ex;clear a4;refine kK ?_ ?_
 ·intro hc12;refine Et ?_;obtain⟨ak,al,s,hx,a9,a0⟩:=hs.eo i;have hc_7_lt:=a0.lt;refine jV (AY underlying53 ty28 rfl rfl a9 Zl) ?_;obtain⟨bs,hbs⟩:∃bs,bss[i]? =some bs:=⟨_,List.getElem?_eq_getElem Zo⟩;obtain⟨hsl1,hsl2⟩:=(hp.ext K0).all i s bs hx hbs;have hfl:=Ht (i:=i) hbs;have hfl2:(bss.take (i+1)).flatten.length=(bss.take i).flatten.length+bs.length:=by rw[hfl,Aab]
  have hft:=Gh bss (i+1);replace a0:=a0.ext K0;refine jG ?_;refine jV (AA (c:=(((bss.take (i+1)).flatten).length:Int)) (AA (c:=(((((bss.take i).flatten).length)+s.len:Nat):Int)) (Av rfl rfl Zo Zo) rfl) Zo) ?_;refine kK ?_ ?_
  ·intro hc20;exfalso;omega
  intro hc20;refine jG ?_;refine kC i ?_;refine ih1 (i+1) _ _ ?_ Zo;refine⟨⟨rfl,rfl,rfl,rfl,rfl,trivial⟩,K0,?_⟩;omega
 intro hc12;refine jG ?_;have hfull:(bss.take i).flatten=bss.flatten:=by rw[AaB Zo]
 rw[hfull];refine jG ?_;refine kS (Y7 bss.flatten.length _ Zo) ?_;rintro _ am ⟨an,ap,rfl,a5,a6,aa⟩;have ab:=Bg K0.size a6;clear a6;refine jG ?_;replace K0:=K0.ext aa;refine Ai.loop (ι:=Nat) (λi ρ' w'=>∃ao:Option Addr,∃co:Nat,Holds ρ' [(6,.slice ao (((bss.take i).flatten).length) co),(25,.slice a ss.length c),(26,.int .i64 ((ss.length:Nat):Int)),(27,.int .i64 ((i:Nat):Int))]/\As w w'/\(Af w' 46 ao co ((bss.take i).flatten))/\(∀q_,own ao q_->w.heap.size<=q_)/\(i<=bss.length)) (λi=>bss.length-i) 0 ?_ ?_
 ·refine⟨_,_,⟨rfl,rfl,rfl,rfl,trivial⟩,K0,a5,ab,?_⟩
  ·omega
 clear a5;clear K0;rintro i aq ar ⟨ao,co,a7,K0,a1,a2,hi⟩ ih2;obtain⟨ρ₀,rfl⟩:=a7.ex;clear a7;refine kK ?_ ?_
 ·intro hc28;refine Et ?_;obtain⟨au,av,s,hx,ac,a3⟩:=hs.eo i;have hc_25_lt:=a3.lt;refine jV (AY underlying53 ty28 rfl rfl ac Zl) ?_;replace a3:=a3.ext K0;refine jG ?_;obtain⟨bs,hbs⟩:∃bs,bss[i]? =some bs:=⟨_,List.getElem?_eq_getElem Zo⟩;obtain⟨hsl1,hsl2⟩:=(hp.ext K0).all i s bs hx hbs;have hfl:=Ht (i:=i) hbs;have hfl2:(bss.take (i+1)).flatten.length=(bss.take i).flatten.length+bs.length:=by rw[hfl,Aab]
  have hft:=Gh bss (i+1);rw[hsl1];refine jG ?_;refine jR<|AB.append (xs:=(bss.take i).flatten) (ys:=bs) underlying28 ty46 rfl rfl rfl a1 hsl2 (by have:=Gh bss i;rw[hfl,Aab]at hft;omega) Zd ?_;intro ad aw ax ae af a8 ag;have ah:∀q_,own ad q_->w.heap.size<=q_:=a8.ge a2 K0.size;clear a8;clear ag;refine jG ?_;refine kC i ?_;refine ih2 (i+1) _ _ ?_ Zo;rw[hfl];replace K0:=K0.new af a2;refine⟨_,_,⟨rfl,rfl,rfl,rfl,trivial⟩,K0,ae,ah,?_⟩
  omega
 intro hc28;refine jG ?_;refine Ai.ret1 (v:= .slice ao (((bss.take i).flatten).length) co) func206 rfl rfl ?_;have hil:i=bss.length:=by omega
 subst hil;rw[Aap]at a1⊢;exact⟨_,rfl,ao,co,rfl,a1,a2,K0⟩
def Qx (a:Option Addr)(ss:List SH)(c:Nat)(xs ys:List Ab)(w:World)(hs:Ax w a ss)(hp:D9 w ss [xs,ys])(hl:xs.length+ys.length<=4294967295):
  Calls prog 206 #[.slice a ss.length c] w (AU λv w'=>∃a' c',v= .slice a' (xs++ys).length c'/\Af w' 46 a' c' (xs++ys)/\(∀b,own a' b->w.heap.size<=b)/\As w w'):=by
 have e:[xs,ys].flatten=xs++ys:=by simp
 have:=Vg a ss c _ w hs hp (by rw[e,Aab];exact hl) Zs
 rw[e]at this;exact this
def Y8 (q:Nat)(w:World)(hq:q<=4294967295):
  Calls prog 245 #[.slice none 0 0,.int .i64 ((q:Nat):Int)] w (AU (λv w'=>∃a' c',v= .slice a' 0 c'/\Af w' 73 a' c' ([]:List Ah)/\(∀b,own a' b->w.heap.size<=b)/\As w w')):=by
 refine kD (n:=27) func245 ?_;refine jF ?_ ?_
 ·intro hc6;exfalso;omega
 intro hc6;refine jG ?_;refine jV (AA (c:=0) (FH underlying29 rfl) rfl) ?_;refine FU ?_;refine jV (AA (c:=0) (CM underlying29 rfl) rfl) ?_;refine jV (AA (c:=0) (B8 rfl rfl Zd Zd) Zd) ?_;refine kE (AA (c:=((q:Nat):Int)) (B8 rfl rfl Zo Zo) Zo) ?_;refine jF ?_ ?_
 ·intro hc16;refine jG ?_;refine jV (AA (c:=0) (FH underlying29 rfl) rfl) ?_;refine kE (B7 (j:=0) underlying29 ty73 rfl rfl Zo) ?_;refine jR<|AB.appendZeros (q:=q) Ah underlying29 underlying3 ty73 rfl rfl rfl Zo Zo Zd ?_;intro a1 a2 a6 a0 a7 a3 a4;have a5:=Bg (Aac _) (Du a0);clear a0;have K0:=(a4:As w _);refine FU ?_;refine jV (AA (c:=0) (CM underlying29 rfl) rfl) ?_;refine kE (B7 (j:=0) underlying29 ty73 rfl rfl Zo) ?_;refine jJ func245 ?_;exact⟨_,rfl,some ⟨a1,0,none⟩,a2,rfl,a3,a5,K0⟩
 intro hc16;refine kL func245 ?_;exact⟨_,rfl,none,0,rfl,Af.nil _ _,λb h=>absurd h (Ad b),Ae.refl _ w⟩
def Vh (a:Option Addr)(ss:List SH)(c:Nat)(bss:List (List Ah))(w:World)(hs:Ax w a ss)(hp:D9 w ss bss)(hl:bss.flatten.length<=4294967295)(hl2:bss.length<=4294967295):
  Calls prog 207 #[.slice a ss.length c] w (AU (λv w'=>∃a' c',v= .slice a' bss.flatten.length c'/\Af w' 73 a' c' bss.flatten/\(∀b,own a' b->w.heap.size<=b)/\As w w')):=by
 have hlen:=hp.len;refine kD (n:=36) func207 ?_;refine Ai.loop (ι:=Nat) (λi ρ' w'=>Holds ρ' [(0,.slice a ss.length c),(3,.int .i64 ((((bss.take i).flatten).length:Nat):Int)),(9,.slice a ss.length c),(10,.int .i64 ((ss.length:Nat):Int)),(11,.int .i64 ((i:Nat):Int))]/\As w w'/\(i<=bss.length)) (λi=>bss.length-i) 0 ?_ ?_
 ·refine⟨⟨rfl,rfl,rfl,rfl,rfl,trivial⟩,(Ae.refl _ w),?_⟩
  ·omega
 rintro i ai aj ⟨a4,K0,hi⟩ ih1;obtain⟨ρ₀,rfl⟩:=a4.ex;clear a4;refine kK ?_ ?_
 ·intro hc12;refine Et ?_;obtain⟨ak,al,s,hx,a9,a0⟩:=hs.eo i;have hc_7_lt:=a0.lt;refine jV (AY underlying295 ty29 rfl rfl a9 Zl) ?_;obtain⟨bs,hbs⟩:∃bs,bss[i]? =some bs:=⟨_,List.getElem?_eq_getElem Zo⟩;obtain⟨hsl1,hsl2⟩:=(hp.ext K0).all i s bs hx hbs;have hfl:=Ht (i:=i) hbs;have hfl2:(bss.take (i+1)).flatten.length=(bss.take i).flatten.length+bs.length:=by rw[hfl,Aab]
  have hft:=Gh bss (i+1);replace a0:=a0.ext K0;refine jG ?_;refine jV (AA (c:=(((bss.take (i+1)).flatten).length:Int)) (AA (c:=(((((bss.take i).flatten).length)+s.len:Nat):Int)) (Av rfl rfl Zo Zo) rfl) Zo) ?_;refine kK ?_ ?_
  ·intro hc20;exfalso;omega
  intro hc20;refine jG ?_;refine kC i ?_;refine ih1 (i+1) _ _ ?_ Zo;refine⟨⟨rfl,rfl,rfl,rfl,rfl,trivial⟩,K0,?_⟩;omega
 intro hc12;refine jG ?_;have hfull:(bss.take i).flatten=bss.flatten:=by rw[AaB Zo]
 rw[hfull];refine jG ?_;refine kS (Y8 bss.flatten.length _ Zo) ?_;rintro _ am ⟨an,ap,rfl,a5,a6,aa⟩;have ab:=Bg K0.size a6;clear a6;refine jG ?_;replace K0:=K0.ext aa;refine Ai.loop (ι:=Nat) (λi ρ' w'=>∃ao:Option Addr,∃co:Nat,Holds ρ' [(6,.slice ao (((bss.take i).flatten).length) co),(25,.slice a ss.length c),(26,.int .i64 ((ss.length:Nat):Int)),(27,.int .i64 ((i:Nat):Int))]/\As w w'/\(Af w' 73 ao co ((bss.take i).flatten))/\(∀q_,own ao q_->w.heap.size<=q_)/\(i<=bss.length)) (λi=>bss.length-i) 0 ?_ ?_
 ·refine⟨_,_,⟨rfl,rfl,rfl,rfl,trivial⟩,K0,a5,ab,?_⟩
  ·omega
 clear a5;clear K0;rintro i aq ar ⟨ao,co,a7,K0,a1,a2,hi⟩ ih2;obtain⟨ρ₀,rfl⟩:=a7.ex;clear a7;refine kK ?_ ?_
 ·intro hc28;refine Et ?_;obtain⟨au,av,s,hx,ac,a3⟩:=hs.eo i;have hc_25_lt:=a3.lt;refine jV (AY underlying295 ty29 rfl rfl ac Zl) ?_;replace a3:=a3.ext K0;refine jG ?_;obtain⟨bs,hbs⟩:∃bs,bss[i]? =some bs:=⟨_,List.getElem?_eq_getElem Zo⟩;obtain⟨hsl1,hsl2⟩:=(hp.ext K0).all i s bs hx hbs;have hfl:=Ht (i:=i) hbs;have hfl2:(bss.take (i+1)).flatten.length=(bss.take i).flatten.length+bs.length:=by rw[hfl,Aab]
  have hft:=Gh bss (i+1);rw[hsl1];refine jG ?_;refine jR<|AB.append (xs:=(bss.take i).flatten) (ys:=bs) underlying29 ty73 rfl rfl rfl a1 hsl2 (by have:=Gh bss i;rw[hfl,Aab]at hft;omega) Zd ?_;intro ad aw ax ae af a8 ag;have ah:∀q_,own ad q_->w.heap.size<=q_:=a8.ge a2 K0.size;clear a8;clear ag;refine jG ?_;refine kC i ?_;refine ih2 (i+1) _ _ ?_ Zo;rw[hfl];replace K0:=K0.new af a2;refine⟨_,_,⟨rfl,rfl,rfl,rfl,trivial⟩,K0,ae,ah,?_⟩
  omega
 intro hc28;refine jG ?_;refine Ai.ret1 (v:= .slice ao (((bss.take i).flatten).length) co) func207 rfl rfl ?_;have hil:i=bss.length:=by omega
 subst hil;rw[Aap]at a1⊢;exact⟨_,rfl,ao,co,rfl,a1,a2,K0⟩
def Qy (a:Option Addr)(ss:List SH)(c:Nat)(xs ys:List Ah)(w:World)(hs:Ax w a ss)(hp:D9 w ss [xs,ys])(hl:xs.length+ys.length<=4294967295):
  Calls prog 207 #[.slice a ss.length c] w (AU λv w'=>∃a' c',v= .slice a' (xs++ys).length c'/\Af w' 73 a' c' (xs++ys)/\(∀b,own a' b->w.heap.size<=b)/\As w w'):=by
 have e:[xs,ys].flatten=xs++ys:=by simp
 have:=Vh a ss c _ w hs hp (by rw[e,Aab];exact hl) Zs
 rw[e]at this;exact this
def Tc (a:Option Addr)(xs:List Ah)(c:Nat)(w:World)(ho:Af w 73 a c xs)(hl:xs.length<=4294967295):
  Calls prog 242 #[.slice a xs.length c] w (AU (λv w'=>v= .slice a (uniq xs).length c/\Af w' 73 a c (uniq xs)/\Ae (own a) w w')):=by
 have hcap:=ho.le_cap;refine kD (n:=61) func242 ?_;refine jF ?_ ?_
 ·intro hc8;refine kL func242 ?_;have e:uniq xs=xs:=by have:=GC (xs:=xs) (Aac _) (λj x y hj=>absurd hj Zo);rwa[Aap]at this
  rw[e];exact⟨_,rfl,rfl,ho,Ae.refl _ w⟩
 intro hc8;refine jG ?_;refine Ai.loop (ι:=Nat) (λi ρ' w'=>Holds ρ' [(0,.slice a xs.length c),(3,.int .i64 ((i:Nat):Int))]/\Ae (own a) w w'/\(Af w' 73 a c xs)/\(1<=i/\i<=xs.length)/\(Tb xs i)) (λi=>xs.length-i) 1 ?_ ?_
 ·refine⟨⟨rfl,rfl,trivial⟩,(Ae.refl _ w),ho,?_,?_⟩
  ·omega
  exact Tb.one _
 clear ho;rintro i aq ar ⟨a4,K0,ho,hi,hno⟩ ih1;obtain⟨ρ₀,rfl⟩:=a4.ex;clear a4;refine kK ?_ ?_
 ·intro hc13;refine jG ?_;obtain⟨au,av,x,hx,ad,a5⟩:=ho.sl.eo i;obtain⟨aw,ax,y,hy,ae,a6⟩:=ho.sl.el (i:=(((i:Nat):Int)-1).toNat) Zl;refine Ai.drawR ?_;intro ay a1;refine ET ?_;refine jD (AY underlying29 ty73 rfl rfl ad Zl) ?_;replace a5:=a5.ext a1;refine jG ?_;refine jD (B8 rfl rfl Zo Zo) ?_;refine jD (HO underlying29 ty73 rfl rfl ae Zo Zl) ?_;replace a6:=a6.ext a1;refine jG ?_;refine jD (GK Zk rfl rfl (GA x y)) ?_;refine jG ?_;have hy':xs[i-1]? =some y:=by rw[show i-1=((i:Int)-1).toNat by omega];exact hy
  replace ho:=ho.ext a1;replace K0:=K0.ext a1;refine jF ?_ ?_
  ·intro hc25;have hil:i<xs.length:=(List.getElem?_eq_some_iff.1 hx).1;have e1:=Xn hno hi.1 hx hy' hc25;have hdl:(xs.drop i).length=xs.length-i:=List.length_drop;refine jG ?_;refine kE (Dg (xs:=xs) underlying29 ty73 rfl rfl Zo) ?_;refine Ai.loop (ι:=Nat) (λq ρ' w'=>∃ys:List Ah,Holds ρ' [(0,.slice a xs.length c),(3,.int .i64 (((uniq (xs.take (i+q))).length:Nat):Int)),(4,.slice (If a c i 3) ((xs.drop i).length) (c-i)),(5,.int .i64 ((q:Nat):Int))]/\Ae (own a) w w'/\(Af w' 73 a c ys)/\(∀q_,own a q_->q_<w.heap.size->(own a) q_)/\(1<=q/\i+q<=xs.length)/\(ys.take (uniq (xs.take (i+q))).length=(uniq (xs.take (i+q))))/\(ys.drop (i+q-1)=xs.drop (i+q-1))/\(ys.length=xs.length)/\((uniq (xs.take (i+q))).length+1<=i+q)) (λq=>xs.length-q) 1 ?_ ?_
   ·rw[e1,List.length_take,Abv (Abr hil)];refine⟨_,⟨rfl,rfl,rfl,rfl,trivial⟩,K0,ho,(λx h _=>h),?_,?_,?_,?_,?_⟩
    ·omega
    ·rfl
    ·rfl
    ·rfl
    omega
   clear ho;clear K0;rintro q az aA ⟨ys,a7,K0,a0,a2,hq,h1,h2,h3,h4⟩ ih2;obtain⟨ρ₀,rfl⟩:=a7.ex;clear a7;refine kK ?_ ?_
   ·intro hc32;refine jG ?_;obtain⟨aB,aC,x2,hx2,af,a8⟩:=(a0.sl.from i c a0.le_cap).el (i:=q) Zh;obtain⟨aD,aE,y2,hy2,ag,a9⟩:=(a0.sl.from i c a0.le_cap).el (i:=(((q:Nat):Int)-1).toNat) Zh;refine Ai.drawR ?_;intro aF a3;refine ET ?_;refine jD (AY underlying29 ty73 rfl rfl af Zh) ?_;replace a8:=a8.ext a3;refine jG ?_;refine jD (B8 rfl rfl Zo Zo) ?_;refine jD (HO underlying29 ty73 rfl rfl ag Zo Zh) ?_;replace a9:=a9.ext a3;refine jG ?_;refine jD (JC Zk rfl rfl (GA x2 y2)) ?_;refine jG ?_;replace a0:=a0.ext a3;replace K0:=K0.ext a3;refine jF ?_ ?_
    ·intro hc44;refine Ii ?_;obtain⟨aG,aH,ah,ai,aj,ak⟩:=(a0.sl.from i c a0.le_cap).el (i:=q) Zh;obtain rfl:x2=ah:=Option.some.inj (hx2.symm.trans ai);refine jV (AY underlying29 ty73 rfl rfl aj Zh) ?_;obtain⟨aI,aJ,aK,al,am,an⟩:=a0.sl.el (i:=(uniq (xs.take (i+q))).length) Zo;refine jG ?_;refine jR<|AB.storeEl (v:= .agg #[.int .i64 x2.node,.int .i64 x2.life,.int .i64 x2.count]) (off:=0) (i:=(uniq (xs.take (i+q))).length) x2 ty73 rfl rfl rfl Zv a0 am al rfl Zd rfl ?_;intro aL aa ao;clear ak;clear an;replace K0:=K0.trans ao (λx hlt hx=>a2 x hx hlt);replace a0:=aa;clear aa;refine jG ?_;refine jV (AA (c:=((((uniq (xs.take (i+q))).length)+1:Nat):Int)) (Av rfl rfl Zo Zo) rfl) ?_;refine jG ?_;refine kC q ?_;have hz:=IE hx2 h2 Zo;have hz2:=IE hy2 h2 Zo;rw[show i+((q:Int)-1).toNat=i+q-1 by omega]at hz2;have e:uniq (xs.take (i+(q+1)))=_:=ML (j:=i+q) Zo hz hz2;rw[if_neg hc44]at e;have e2:(uniq (xs.take (i+(q+1)))).length=(uniq (xs.take (i+q))).length+1:=by rw[e];simp
     refine ih2 (q+1) _ _ ?_ Zo;rw[e2,e];refine⟨_,⟨rfl,rfl,rfl,rfl,trivial⟩,K0,a0,a2,?_,?_,?_,?_,?_⟩
     ·omega
     ·rw[L2 Zo,h1]
     ·rw[Pe Zo,show i+(q+1)-1=(i+q-1)+1 by omega];exact IF h2
     ·rw[Aa3];exact h3
     omega
    intro hc44;refine jG ?_;refine kC q ?_;have hz:=IE hx2 h2 Zo;have hz2:=IE hy2 h2 Zo;rw[show i+((q:Int)-1).toNat=i+q-1 by omega]at hz2;have e:uniq (xs.take (i+(q+1)))=_:=ML (j:=i+q) Zo hz hz2;rw[if_pos hc44]at e;refine ih2 (q+1) _ _ ?_ Zo;rw[e];refine⟨_,⟨rfl,rfl,rfl,rfl,trivial⟩,K0,a0,a2,?_,?_,?_,?_,?_⟩
    ·omega
    ·exact h1
    ·rw[show i+(q+1)-1=(i+q-1)+1 by omega];exact IF h2
    ·exact h3
    omega
   intro hc32;have hcap2:ys.length<=c:=by omega
   refine jG ?_;refine jV (Dg (xs:=ys) underlying29 ty73 (gG rfl h3) rfl Zo) ?_;have ab:=a0.take ((uniq (xs.take (i+q))).length);have ht_55_l:(ys.take ((uniq (xs.take (i+q))).length)).length=(uniq (xs.take (i+q))).length:=by rw[List.length_take];omega
   refine jR<|AB.clearTail (xs:=ys.take ((uniq (xs.take (i+q))).length)) underlying29 ty73 rfl Zv (by rw[ht_55_l];exact rfl) ab (by rw[ht_55_l];simp only[List.length_drop];omega) ?_;intro aM ac ap;replace K0:=K0.trans ap (λx hlt hx=>a2 x hx hlt);replace a0:=ac;clear ac ab;refine jG ?_;refine jV (HH (m':=(ys.take ((uniq (xs.take (i+q))).length)).length) (B7 underlying29 ty73 rfl rfl Zo) Zt) ?_;refine kL func242 ?_;have hkq:i+q=xs.length:=by omega
   rw[hkq,Aap]at h1 a0⊢;rw[h1]at a0⊢;exact⟨_,rfl,rfl,a0,K0⟩
  intro hc25;refine jG ?_;refine kC i ?_;refine ih1 (i+1) _ _ ?_ Zo;refine⟨⟨rfl,rfl,trivial⟩,K0,ho,?_,?_⟩
  ·omega
  exact hno.pred hi.1 hx hy' hc25
 intro hc13;refine kL func242 ?_;have hil:i=xs.length:=by omega
 have e:uniq xs=xs:=by have:=GC (xs:=xs) (Aac _) (hil▸hno);rwa[Aap]at this
 rw[e];exact⟨_,rfl,rfl,ho,K0⟩
def Xo (a:Option Addr)(xs:List Ab)(c:Nat)(x:Ab)(vb:Nat)(w:World)(ho:Af w 46 a c xs)(hv:Ax w (some ⟨vb,0,none⟩) [x])(hva:¬own a vb)(hl:xs.length<=1000000):
  Calls prog 165 #[.slice a xs.length c,.int .i64 ((xs.length:Nat):Int),.slice (some ⟨vb,0,none⟩) 1 1] w (AU (λv w'=>∃a' c',v= .slice a' (FB xs xs.length x).length c'/\Af w' 46 a' c' (FB xs xs.length x)/\AR w (own a) (own a')/\Ae (own a) w w')):=by
 have hcap:=ho.le_cap;refine kD (n:=95) func165 ?_;refine jV (Dg (xs:=xs) underlying28 ty46 rfl rfl Zo) ?_;refine FU ?_;refine kE (AA (c:=1) (CM underlying28 rfl) rfl) ?_;refine kH ?_;refine jF ?_ ?_
 ·intro hc22;refine jG ?_;refine jR<|AB.append (xs:=xs) (ys:=[x]) underlying28 ty46 rfl rfl rfl ho hv (by simp only[Aa2];omega) Zd ?_;intro a0 a2 a7 a3 a4 a1 a5;have a6:∀q_,own a0 q_->q_<w.heap.size->(own a) q_:=a1.inS (λx h _=>h) (Aac _);have K0:=(Ae.refl (own a) w).trans a4 (λx hlt hx=>(λx h _=>h) x hx hlt);clear a1;clear a5;refine kL func165 ?_;rw[<-Vd];exact⟨_,rfl,a0,a2,rfl,a3,(λq h_=>if hl_:q<w.heap.size then .inl (a6 q h_ hl_)else .inr (Ab1 hl_)),K0⟩
 intro hc22;exact absurd trivial hc22
def Vi (g:Nat)(xs:List Ab)(c i:Nat)(x:Ab)(vb:Nat)(w:World)(hs:Ax w (some ⟨g,0,none⟩) xs)(hD:Cl w g (0+i*3) (AS (xs.drop i)))(hV:AC w vb (cellsOf x) 46)(hi:i<xs.length)(hl:xs.length<=1000000)(hc:xs.length<=c)(hroom:c<xs.length+1):
  Calls prog 165 #[.slice (some ⟨g,0,none⟩) xs.length c,.int .i64 ((i:Nat):Int),.slice (some ⟨vb,0,none⟩) 1 1] w (AU (λv w'=>∃a' c',v= .slice a' (FB xs i x).length c'/\Af w' 46 a' c' (FB xs i x)/\AR w (own (some ⟨g,0,none⟩)) (own a')/\Ae (own (some ⟨g,0,none⟩)) w w')):=by
 refine kD (n:=95) func165 ?_;refine jV (Dg (xs:=xs) underlying28 ty46 rfl rfl Zo) ?_;refine FU ?_;refine kE (AA (c:=1) (CM underlying28 rfl) rfl) ?_;refine kH ?_;refine jF ?_ ?_
 ·intro hc22;exact absurd hc22 Zo
 intro hc22;refine jG ?_;refine kE (AA (c:=((xs.length+1:Nat):Int)) (Av rfl rfl Zo Zo) rfl) ?_;refine kE (FH underlying28 rfl) ?_;refine jF ?_ ?_
 ·intro hc31;refine jG ?_;refine kE (HH (m':=(xs.take i).length) (B7 underlying28 ty46 rfl rfl Zo) Zt) ?_;refine kE (AA (c:=((xs.length+1:Nat):Int)) (Av rfl rfl Zo Zo) rfl) ?_;refine jV (B8 rfl rfl Zo Zo) ?_;refine jR<|AB.zerosOnto (xs.take i) (q:=xs.length+1-i) underlying28 underlying3 ty46 rfl (by rw[Ab2 Zo];rfl) (by show Value.int _ _=_;congr 1;omega) (hs.take i) Zo (by rw[Ab2 Zo];omega) (by rw[Ab2 Zo];omega) Zd ?_;rw[Ab2 (show i<=xs.length by omega)];intro a5 a0 a1 aj a6 a7 ag ah a8 ai a9;rw[show i+(xs.length+1-i)=xs.length+1 by omega]at a7⊢;replace a8:a1.length=a0*3:=a8;have:w.heap.size<=a5:=a6;have ne_v:=Aa4 hV.lt a6;have ne_g:=Aa4 hD.lt a6;have K0:=(a9:As w _);refine jG ?_;refine kE (Dj (l:=xs.length+1) (c:=a0) (i:=i) underlying28 ty46 rfl rfl Zo Zo Zo) ?_;replace hV:=hV.ext a9;refine jR<|AB.copyK (m:=1) (cs:=cellsOf x) underlying28 ty46 rfl rfl ah (by simp only[AbI];split<;>omega) (show(cellsOf x).length=3 from AI x) hV.cl (by rw[(show(cellsOf x).length=3 from AI x)];omega) (Enc.plain x) ?_;intro ak a2 aa;obtain⟨a3,ab⟩:∃c_,c_=a1.take (0+i*3)++cellsOf x++a1.drop (0+i*3+(cellsOf x).length):=⟨_,rfl⟩;rw[<-ab]at a2;have al:a3.length=a1.length:=by rw[ab];simp only[Aab,List.length_take,List.length_drop];rw[(show(cellsOf x).length=3 from AI x)];omega
  refine jG ?_;refine Ai.drawT [] (m:=9) Zk rfl ?_;intro am a4;refine⟨λw'=>True,?_⟩;refine RT.takeP 0 rfl Zk (.inr trivial) (λ_=>(FY rfl)) ?_;refine RT.takeP 1 rfl Zk (.inr trivial) (λ_=>(D4 rfl)) ?_;refine RT.takeP 2 rfl Zk (.inr trivial) (λ_=>(D4 rfl)) ?_;refine RT.takeP 3 rfl Zk (.inr trivial) (λ_=>(AA (c:=((i+1:Nat):Int)) (Av rfl rfl Zo Zo) rfl)) ?_;refine RT.takeP 4 rfl Zk (.inr trivial) (λ_=>(Dj (l:=xs.length+1) (c:=a0) (i:=i+1) underlying28 ty46 rfl rfl Zo Zo Zo)) ?_;refine RT.takeP 5 rfl Zk (.inr trivial) (λ_=>(FY rfl)) ?_;refine RT.takeP 6 rfl Zk (.inr trivial) (λ_=>(D4 rfl)) ?_;refine RT.takeP 7 rfl Zk (.inr trivial) (λ_=>(Dj (l:=xs.length) (c:=c) (i:=i) underlying28 ty46 rfl rfl Zo Zo Zo)) ?_;replace hD:=((hD.ext a9).kp aa).ext a4;replace a2:=a2.ext a4;refine RT.st 8 rfl Zk rfl<|AB.copyK (m:=xs.length-i) (cs:=AS (xs.drop i)) underlying28 ty46 rfl rfl a2 (by simp only[AbI];split<;>omega) (show(AS (xs.drop i)).length=(xs.length-i)*3 from by rw[AH,List.length_drop];rfl) hD (by rw[(show(AS (xs.drop i)).length=(xs.length-i)*3 from by rw[AH,List.length_drop];rfl)];omega) (HL _) ?_;intro an ae ac;obtain⟨af,ad⟩:∃c_,c_=a3.take (0+(i+1)*3)++AS (xs.drop i)++a3.drop (0+(i+1)*3+(AS (xs.drop i)).length):=⟨_,rfl⟩;rw[<-ad]at ae;have ao:af.length=a3.length:=by rw[ad];simp only[Aab,List.length_take,List.length_drop];rw[(show(AS (xs.drop i)).length=(xs.length-i)*3 from by rw[AH,List.length_drop];rfl)];omega
  refine⟨.inr trivial,?_⟩;refine RT.done Zk ?_;refine kL func165 ?_;obtain⟨-,hL,hT⟩:=Ve (x:=x) (Abr hi) a8 a7 ai _ _ (ab.trans (by rw[Aaq];rfl)) (ad.trans (by rw[Aaq];rfl));have hll:=Pd (x:=x) (Abr hi);replace hV:=((hV.kp aa).ext a4).kp ac;replace K0:=((K0.n1 aa).ext a4).n1 ac;replace hD:=hD.kp ac;exact⟨_,rfl,some ⟨a5,0,none⟩,a0,by rw[hll],⟨AH _,.inr ⟨a5,a0,af.toArray,rfl,Aal _,ae,by rw[hll];exact a7,ag,by simpa using hL,by rw[hll];simpa using hT⟩⟩,(λq h_=> .inr (by have:=CS.1 h_;simp only at this;omega)),As.to K0⟩
 intro hc31;exact absurd hc31 Zo
def Vj (g:Nat)(xs:List Ab)(c i:Nat)(x:Ab)(vb:Nat)(cur:List Value)(w:World)(hs:Ax w (some ⟨g,0,none⟩) xs)(hD:Cl w g (0+i*3) (AS (xs.drop i)))(hV:AC w vb (cellsOf x) 46)(hi:i<xs.length)(hl:xs.length<=1000000)(hB:AC w g cur 46)(hvg:vb≠g)(hcl:cur.length=c*3)(hcm:c<=maxLen)(htk:cur.take (xs.length*3)=AS xs)(hroom:xs.length+1<=c):
  Calls prog 165 #[.slice (some ⟨g,0,none⟩) xs.length c,.int .i64 ((i:Nat):Int),.slice (some ⟨vb,0,none⟩) 1 1] w (AU (λv w'=>∃a' c',v= .slice a' (FB xs i x).length c'/\Af w' 46 a' c' (FB xs i x)/\AR w (own (some ⟨g,0,none⟩)) (own a')/\Ae (own (some ⟨g,0,none⟩)) w w')):=by
 refine kD (n:=95) func165 ?_;refine jV (Dg (xs:=xs) underlying28 ty46 rfl rfl Zo) ?_;refine FU ?_;refine kE (AA (c:=1) (CM underlying28 rfl) rfl) ?_;refine kH ?_;refine jF ?_ ?_
 ·intro hc22;exact absurd hc22 Zo
 intro hc22;refine jG ?_;refine kE (AA (c:=((xs.length+1:Nat):Int)) (Av rfl rfl Zo Zo) rfl) ?_;refine kE (FH underlying28 rfl) ?_;refine jF ?_ ?_
 ·intro hc31;exact absurd hc31 Zo
 intro hc31;refine jG ?_;refine jV (AA (c:=((xs.length+1:Nat):Int)) (Av rfl rfl Zo Zo) rfl) ?_;refine kE (B7 (j:=xs.length+1) underlying28 ty46 rfl rfl Zo) ?_;refine jV (AA (c:=((i+1:Nat):Int)) (Av rfl rfl Zo Zo) rfl) ?_;refine jV (Dj (l:=(xs.length+1)) (c:=c) (i:=i+1) underlying28 ty46 rfl rfl Zo Zo Zo) ?_;refine jR<|AB.extn (vals:=[.slice (some ⟨vb,0,none⟩) 1 1,.slice (some ⟨g,0+(i+1)*3,none⟩) ((xs.length+1)-(i+1)) (c-(i+1))]) (v:= .bool false) rfl (Qw hV hB Zo Zo _ _ _ _) ?_;refine kE (Bp (b:=false) rfl) ?_;refine C8 ?_;refine jG ?_;refine Ai.drawT [] (m:=9) Zk rfl ?_;intro a9 a0;have K0:=(a0:As w _).to (S:=(own (some ⟨g,0,none⟩)));refine⟨λw'=>True,?_⟩;refine RT.takeP 0 rfl Zk (.inr trivial) (λ_=>(FY rfl)) ?_;refine RT.takeP 1 rfl Zk (.inr trivial) (λ_=>(D4 rfl)) ?_;refine RT.takeP 2 rfl Zk (.inr trivial) (λ_=>(D4 rfl)) ?_;refine RT.takeP 3 rfl Zk (.inr trivial) (λ_=>(AA (c:=((i+1:Nat):Int)) (Av rfl rfl Zo Zo) rfl)) ?_;refine RT.takeP 4 rfl Zk (.inr trivial) (λ_=>(Dj (l:=(xs.length+1)) (c:=c) (i:=i+1) underlying28 ty46 rfl rfl Zo Zo Zo)) ?_;refine RT.takeP 5 rfl Zk (.inr trivial) (λ_=>(FY rfl)) ?_;refine RT.takeP 6 rfl Zk (.inr trivial) (λ_=>(D4 rfl)) ?_;refine RT.takeP 7 rfl Zk (.inr trivial) (λ_=>(Dj (l:=(xs.length+1)) (c:=c) (i:=i) underlying28 ty46 rfl rfl Zo Zo Zo)) ?_;replace hD:=hD.ext a0;replace hB:=hB.ext a0;refine RT.st 8 rfl Zk rfl<|AB.copyK (m:=xs.length-i) (cs:=AS (xs.drop i)) underlying28 ty46 rfl rfl hB (by simp only[AbI];split<;>omega) (show(AS (xs.drop i)).length=(xs.length-i)*3 from by rw[AH,List.length_drop];rfl) hD (by rw[(show(AS (xs.drop i)).length=(xs.length-i)*3 from by rw[AH,List.length_drop];rfl)];omega) (HL _) ?_;intro aa a4 a5;obtain⟨a1,a2⟩:∃c_,c_=cur.take (0+(i+1)*3)++AS (xs.drop i)++cur.drop (0+(i+1)*3+(AS (xs.drop i)).length):=⟨_,rfl⟩;rw[<-a2]at a4;have ab:a1.length=cur.length:=by rw[a2];simp only[Aab,List.length_take,List.length_drop];rw[(show(AS (xs.drop i)).length=(xs.length-i)*3 from by rw[AH,List.length_drop];rfl)];omega
 replace K0:=K0.tf a5 (CS.2 rfl);refine⟨.inr trivial,?_⟩;refine RT.done Zk ?_;refine jG ?_;refine kE (Dj (l:=(xs.length+1)) (c:=c) (i:=i) underlying28 ty46 rfl rfl Zo Zo Zo) ?_;replace hV:=(hV.ext a0).kp a5;refine jR<|AB.copyK (m:=1) (cs:=cellsOf x) underlying28 ty46 rfl rfl a4 (by simp only[AbI];split<;>omega) (show(cellsOf x).length=3 from AI x) hV.cl (by rw[(show(cellsOf x).length=3 from AI x)];omega) (Enc.plain x) ?_;intro ac a6 a8;obtain⟨a7,a3⟩:∃c_,c_=a1.take (0+i*3)++cellsOf x++a1.drop (0+i*3+(cellsOf x).length):=⟨_,rfl⟩;rw[<-a3]at a6;have ad:a7.length=a1.length:=by rw[a3];simp only[Aab,List.length_take,List.length_drop];rw[(show(cellsOf x).length=3 from AI x)];omega
 replace K0:=K0.tf a8 (CS.2 rfl);refine kL func165 ?_;obtain⟨-,hL,hT⟩:=Vf (x:=x) (Abr hi) hcl hroom htk _ _ (a2.trans (by rw[Aaq];rfl)) (a3.trans (by rw[Aaq];rfl));have hll:=Pd (x:=x) (Abr hi);exact⟨_,rfl,some ⟨g,0,none⟩,c,by rw[hll],⟨AH _,.inr ⟨g,c,a7.toArray,rfl,Aal _,a6,by rw[hll];exact hroom,hcm,by simpa using hL,by rw[hll];simpa using hT⟩⟩,(λq h_=> .inl h_),K0⟩
def Pf (a:Option Addr)(xs:List Ab)(c i:Nat)(x:Ab)(vb:Nat)(w:World)(ho:Af w 46 a c xs)(hv:Af w 46 (some ⟨vb,0,none⟩) 1 [x])(hva:¬own a vb)(hi:i<=xs.length)(hl:xs.length<=1000000):
  Calls prog 165 #[.slice a xs.length c,.int .i64 (i:Int),.slice (some ⟨vb,0,none⟩) 1 1] w (AU (λv w'=>∃a' c',v= .slice a' (FB xs i x).length c'/\Af w' 46 a' c' (FB xs i x)/\AR w (own a) (own a')/\Ae (own a) w w')):=by
 by_cases h:i=xs.length
 ·subst h;exact Xo a xs c x vb w ho hv.sl hva hl
 have hV:AC w vb (cellsOf x) 46:=by
  rcases hv.cases with⟨h0,-⟩|⟨g,cur,h0,h1,-,-,h2,h3⟩
  ·cases h0
  cases h0
  have:cur.toList=cellsOf x:=by
   have e:cur.toList.length=1*Enc.size Ab:=by simpa using h2
   rw[Aa2,<-e,Aap]at h3;rw[h3];simp[AS]
  show w.heap[vb]? =some (.cells (cellsOf x).toArray 46 (0,0))
  rw[<-this];exact h1
 rcases ho.cases with⟨rfl,rfl,rfl⟩|⟨g,cur,rfl,hb,h1,h2,h3,h4⟩
 ·exact absurd hi (by simpa using h)
 have hB:AC w g cur.toList 46:=hb;have hD:Cl w g (0+i*3) (AS (xs.drop i)):=by
  refine hB.cl.sub (i:=i*3) λj v hj=> ?_;have e:AS xs=AS (xs.take i)++AS (xs.drop i):=by rw[<-Eb,AbK]
  have l:(AS (xs.take i)).length=i*3:=by rw[AH,Ab2 hi];rfl
  have h5:(AS xs)[i*3+j]? =some v:=by rw[e,Ab4 Zo,l,Nat.add_sub_cancel_left];exact hj
  rw[<-h4,AbF]at h5;split at h5
  ·exact h5
  cases h5
 have hvg:vb≠g:=λe=>hva (CS.2 e.symm)
 by_cases hr:c<xs.length+1
 ·exact Vi g xs c i x vb w ho.sl hD hV Zo hl h1 hr
 exact Vj g xs c i x vb cur.toList w ho.sl hD hV Zo hl hB hvg (by rw[AaA];exact h3) h2 h4 Zo
end Go.Proofs.YtjkaicjmfgekjaaGreatDoor
namespace Go.Proofs.YtjkaicjmfgekjaaGreatDoor
open Go.Proofs.Tryz
attribute [local irreducible] RD RS AB RL RA RT CB Ai
structure Vk (ms:List Ab)(m:Ab)(i:Nat):Prop where
 hi:i<=ms.length
 lo:∀k,k<i->∀x,ms[k]? =some x->BI x m
 up:∀k,i<=k->∀x,ms[k]? =some x->¬BI x m
def Yj {ms:List Ab}{m y:Ab}{h:Nat}(hs:ms.Pairwise BI)(hx:ms[h]? =some y)(hl:BI y m):∀k,k<h+1->∀x,ms[k]? =some x->BI x m:=λk hk x hxk=>by
 by_cases e:k=h
 ·subst e;rw[hx]at hxk;cases hxk;exact hl
 exact CR (Dh hs Zo hxk hx) hl
def Yk {ms:List Ab}{m y:Ab}{h:Nat}(hs:ms.Pairwise BI)(hx:ms[h]? =some y)(hl:¬BI y m):∀k,h<=k->∀x,ms[k]? =some x->¬BI x m:=λk hk x hxk h2=>by
 by_cases e:k=h
 ·subst e;rw[hx]at hxk;cases hxk;exact hl h2
 exact hl (CR (Dh hs Zo hx hxk) h2)
def setM_same : ∀ {ms : List Ab} {d : Ah} {i : Nat} {y : Ab}, Vk ms d.m i -> ms[i]? = some y -> y.d.a = d.a -> setM ms d = ms.set i ⟨y.node, y.life, d.count⟩
  | [], _, _, _, _, h2, _ => by cases h2
  | x :: ms, d, 0, y, h, h2, h3 => by
    simp only [Acb, Option.some.injEq] at h2;subst h2;rw [setM, if_pos h3, List.set_cons_zero]
  | x :: ms, d, i + 1, y, h, h2, h3 => by
    have hx := h.lo 0 Zo x rfl;rw [setM, if_neg (H2 hx), if_neg (λh4 => IA (CR hx h4)), List.set_cons_succ,
      setM_same (i := i) ⟨by have := h.hi; simpa using this, λk hk z hz => h.lo (k + 1) Zo z (by simpa using hz), λk hk z hz => h.up (k + 1) Zo z (by simpa using hz)⟩ (by simpa using h2) h3]
def setM_new : ∀ {ms : List Ab} {d : Ah} {i : Nat}, Vk ms d.m i -> (∀ y, ms[i]? = some y -> y.d.a ≠ d.a) -> setM ms d = FB ms i d.m
  | [], d, i, h, _ => by have := h.hi; simp at this; subst this; rfl
  | x :: ms, d, 0, h, h2 => by
    have hx := h.up 0 (Aac _) x rfl;have hn := h2 x rfl;rw [setM, if_neg hn, if_pos ((NG (a := x) (b := d.m) hn).resolve_left hx)];rfl
  | x :: ms, d, i + 1, h, h2 => by
    have hx := h.lo 0 Zo x rfl;rw [setM, if_neg (H2 hx), if_neg (λh4 => IA (CR hx h4)),
      setM_new (i := i) ⟨by have := h.hi; simpa using this, λk hk z hz => h.lo (k + 1) Zo z (by simpa using hz), λk hk z hz => h.up (k + 1) Zo z (by simpa using hz)⟩ (λy hy => h2 y (by simpa using hy))]
    simp [FB]
def Xp {x:Ab}{d:Ah}(h:By ⟨x.node,x.life,0⟩ ⟨d.node,d.life,0⟩=0):x.d.a=d.a:=by
 have:=RH.1 h;simp only[Ah.mk.injEq]at this;simp[Ab.d,Ah.a,this.1,this.2.1]
def Vl {x:Ab}{d:Ah}(h:¬By ⟨x.node,x.life,0⟩ ⟨d.node,d.life,0⟩=0):x.d.a≠d.a:=λe=>h (by
 simp only[Ab.d,Ah.a,AZ.mk.injEq]at e;rw[RH];simp[e.1,e.2])
def AD.z0 {d:Ah}(h:AD d):DP ⟨d.node,d.life,0⟩:=by simp only[AD,DP]at*;omega
def Xq {ms:List Ab}{cl:List Ah}{d:Ah}(h:d.count<=Ca ms d.a):Ch (ms,cl) d=(ms,cl):=by rw[Ch,if_pos h]
def Xr {ms:List Ab}{cl:List Ah}{d:Ah}(h:¬d.count<=Ca ms d.a)(h2:Ca ms d.a+1<d.count):Ch (ms,cl) d=(ms,cl++[d]):=by rw[Ch,if_neg h,if_pos h2]
def RU {ms:List Ab}{cl:List Ah}{d:Ah}(h:¬d.count<=Ca ms d.a)(h2:¬Ca ms d.a+1<d.count):Ch (ms,cl) d=(setM ms d,cl):=by rw[Ch,if_neg h,if_neg h2]
def Vm {ms:List Ab}(h:∀m∈ms,AD m.d)(a:AZ):0<=Ca ms a/\Ca ms a<=1099511627776:=by
 by_cases hz:Ca ms a=0
 ·omega
 obtain⟨m,hm,-,e⟩:=FM hz;have:=h m hm
 simp only[AD,Ab.d]at this;omega
attribute [local irreducible] AD DP Cx BI By Ca B6 Jo JX Cm AW Cu Va JN Ch setM X
def Vn (m:Ab)(d:Ah)(w:World)(hm:AD m.d)(hd:AD d):
  Calls prog 283 #[.agg #[.int .i64 m.node,.int .i64 m.life,.int .i64 m.count],.agg #[.int .i64 d.node,.int .i64 d.life,.int .i64 d.count]] w (AU (λv w'=>v= .int .i64 (By ⟨m.node,m.life,0⟩ ⟨d.node,d.life,0⟩)/\As w w')):=by
 refine kD (n:=16) func283 ?_;refine kQ ?_;intro a4 a7 a2 a0 a5;have:w.heap.size<=a4:=a2;clear a2;have K0:=(a5:As w _);refine kQ ?_;intro a8 a9 a1 aa a3;have ab:=Ak a0.lt a1;have:=Aaa K0.size a1;clear a1;replace a0:=a0.ext a3;refine jG ?_;refine kE (AO (cells:=#[.int .i64 m.node,.int .i64 m.life,.int .i64 0]) Zk) ?_;refine jV (AO (cells:=#[.int .i64 d.node,.int .i64 d.life,.int .i64 0]) Zk) ?_;refine kS (Qs (⟨m.node,m.life,0⟩:Ah) (⟨d.node,d.life,0⟩:Ah) _ (AD.z hm) hd.z0) ?_;rintro _ ac ⟨rfl,a6⟩;refine kL func283 ?_;replace K0:=(K0.ext a3).ext a6;exact⟨_,rfl,rfl,K0⟩
def Vo (am:Option Addr)(ms:List Ab)(cm:Nat)(d:Ah)(w:World)(hs:Ax w am ms)(hS:ms.Pairwise BI)(hM:∀m∈ms,AD m.d)(hd:AD d)(hl:ms.length<=1000000):
  Calls prog 282 #[.slice am ms.length cm,.agg #[.int .i64 d.node,.int .i64 d.life,.int .i64 d.count],.func (.func 283) #[] #[]] w (AU (λv w'=>∃(i:Nat) (b:Bool),v= .tuple #[.int .i64 (i:Int),.bool b]/\Vk ms d.m i/\(b=true↔∃y,ms[i]? =some y/\y.d.a=d.a)/\As w w')):=by
 refine kD (n:=49) func282 ?_;refine kQ ?_;intro a3 ae a8 a0 aa;have:w.heap.size<=a3:=a8;clear a8;have K0:=(aa:As w _);refine jG ?_;refine Ai.loop (ι:=Nat) (λm ρ' w'=>∃i:Nat,∃j:Nat,Holds ρ' [(0,.slice am ms.length cm),(2,.func (.func 283) #[] #[]),(4,jp a3),(8,.int .i64 ((ms.length:Nat):Int)),(9,.int .i64 ((i:Nat):Int)),(10,.int .i64 ((j:Nat):Int))]/\As w w'/\(AC w' a3 [.int .i64 d.node,.int .i64 d.life,.int .i64 d.count] 73)/\(i<=j/\j<=ms.length)/\(∀k,k<i->∀x,ms[k]? =some x->BI x d.m)/\(∀k,j<=k->∀x,ms[k]? =some x->¬BI x d.m)/\(m=j-i)) (λm=>m) ms.length ?_ ?_
 ·refine⟨0,ms.length,⟨rfl,rfl,rfl,rfl,rfl,rfl,trivial⟩,K0,a0,?_,?_,?_,?_⟩
  ·omega
  ·exact λk hk=>absurd hk (Abh k)
  ·exact λk hk x hx=>absurd (List.getElem?_eq_some_iff.1 hx).1 Zo
  omega
 clear a0;clear K0;rintro m af ag ⟨i,j,a9,K0,a0,hij,h1,h2,hm⟩ ih1;obtain⟨ρ₀,rfl⟩:=a9.ex;clear a9;refine kK ?_ ?_
 ·intro hc17;refine jG ?_;refine jV (AA (c:=((i+j:Nat):Int)) (Av rfl rfl Zo Zo) rfl) ?_;refine jV (Es (kd:= .u64) (a:=i+j) rfl ⟨_,underlying3⟩ underlying106 (show i+j<18446744073709551616 by omega)) ?_;refine jV (HT (kd:= .u64) (a:=i+j) (b:=1) 2 Zd rfl rfl Zd) ?_;refine kE (Es (kd:= .i64) (a:=(i+j)/2) rfl ⟨_,underlying106⟩ underlying3 (show(i+j)/2<9223372036854775808 by omega)) ?_;obtain⟨ah,ai,y,hy,ab,a1⟩:=hs.el (i:=(i+j)/2) Zl;have hc_14_lt:=a1.lt;refine Ai.drawS [] [0,1,2,3,1004,1005,2006,7] ?_;intro aj a4;replace a1:=(a1.ext K0).ext a4;replace a0:=a0.ext a4;refine jM (jb a0 (jl a1 Jn)) ?_;refine ET ?_;refine FU ?_;refine jP ?_ (hx:=by exact λ_=>(AY underlying28 ty46 rfl rfl ab Zl));refine jG ?_;refine jU rfl<|AB.callV (vals:=[.agg #[.int .i64 y.node,.int .i64 y.life,.int .i64 y.count],.agg #[.int .i64 d.node,.int .i64 d.life,.int .i64 d.count]]) en283.h rfl rfl (Vn y d _ (hM y (BH hy)) hd) ?_;rintro _ ak ⟨rfl,a5⟩;replace a0:=a0.ext a5;replace a1:=a1.ext a5;refine jG ?_;replace K0:=(K0.ext a4).ext a5;refine jF ?_ ?_
  ·intro hc31;refine jG ?_;refine jV (AA (c:=((((i+j)/2)+1:Nat):Int)) (Av rfl rfl Zo Zo) rfl) ?_;refine jG ?_;refine ih1 (j-((i+j)/2+1)) _ _ ?_ Zo;refine⟨((i+j)/2+1),j,⟨rfl,rfl,rfl,rfl,rfl,rfl,trivial⟩,K0,a0,?_,?_,?_,?_⟩
   ·omega
   ·exact Yj hS hy (O9 hc31)
   ·exact h2
   rfl
  intro hc31;refine jG ?_;refine ih1 ((i+j)/2-i) _ _ ?_ Zo;refine⟨i,((i+j)/2),⟨rfl,rfl,rfl,rfl,rfl,rfl,trivial⟩,K0,a0,?_,?_,?_,?_⟩
  ·omega
  ·exact h1
  ·exact Yk hS hy (RQ hc31)
  rfl
 intro hc17;refine Et ?_;by_cases hL:i<ms.length
 ·obtain⟨al,an,z,hz,ac,a2⟩:=hs.eo i;have hc_24_lt:=a2.lt;refine Ai.drawS [] [0,1,2,3,4,5,6,7,8,1009,1010,2011,12,13,14,15] ?_;intro ao a6;replace a2:=(a2.ext K0).ext a6;replace a0:=a0.ext a6;refine jM (jb a0 (jl a2 Jn)) ?_;refine ET ?_;refine FU ?_;refine jP ?_ (hx:=by exact λ_=>(DR (FZ rfl rfl) Zi));refine Ii ?_;refine jQ ?_ (hx:=by exact λ_ hg=>(AY underlying28 ty46 rfl rfl ac Zl));refine jG ?_;refine jX rfl<|AB.callV (vals:=[.agg #[.int .i64 z.node,.int .i64 z.life,.int .i64 z.count],.agg #[.int .i64 d.node,.int .i64 d.life,.int .i64 d.count]]) en283.h rfl rfl (Vn z d _ (hM z (BH hz)) hd) ?_;rintro _ ap ⟨rfl,a7⟩;replace a0:=a0.ext a7;replace a2:=a2.ext a7;refine jG ?_;refine jP ?_ (hx:=by exact λ_=>(BP rfl rfl rfl));refine kM func282 ?_;replace K0:=(K0.ext a6).ext a7;exact⟨_,rfl,i,_,rfl,⟨by omega,h1,λk hk=>h2 k Zo⟩,⟨λh_=>⟨z,hz,Xp (by simpa using h_)⟩,λ⟨y_,hy_,e_⟩=>by rw[hz]at hy_;cases hy_;exact Decidable.byContradiction λh_=>Vl (by simpa using h_) e_⟩,K0⟩
 refine Ai.drawS [] [0,1,2,3,4,5,6,7,8,9,10,2011,12,13,14,15] ?_;intro aq ad;refine jM Jn ?_;refine ET ?_;refine FU ?_;refine jP ?_ (hx:=by exact λ_=>(DK (FZ rfl rfl) Zi));refine jG ?_;refine jY ?_;refine jG ?_;refine jP ?_ (hx:=by exact λ_=>(Bo (b:=false) (e:=false) rfl rfl rfl));refine kM func282 ?_;replace K0:=K0.ext ad;exact⟨_,rfl,i,_,rfl,⟨by omega,h1,λk hk=>h2 k Zo⟩,⟨λh_=>(by cases h_),λ⟨y_,hy_,_⟩=>by have:=(List.getElem?_eq_some_iff.1 hy_).1;omega⟩,K0⟩
end Go.Proofs.YtjkaicjmfgekjaaGreatDoor
namespace Go.Proofs.YtjkaicjmfgekjaaGreatDoor
open Go.Proofs.Tryz
attribute [local irreducible] RD RS AB RL RA RT CB Ai AD DP Cx BI By Ca B6 Jo JX Cm AW Cu Va JN Ch setM FB
def E2 {w:World}{A B C:Nat->Prop}(h:∀q,C q->q<w.heap.size->A q\/B q):AR w (λq=>A q\/B q) C:=λq hq=>if hl:q<w.heap.size then .inl (h q hq hl)else .inr (Ab1 hl)
def IG (ms : List Ab) (d : Ah) : (setM ms d).length <= ms.length + 1 := by
  induction ms with
  | nil => simp [setM]
  | cons m l ih =>
    rw [setM];split
    · simp
    split <;> simp <;> omega
def Td (c:List Ab×List Ah)(d:Ah):(Ch c d).1.length+(Ch c d).2.length<=c.1.length+c.2.length+1:=by
 have:=IG c.1 d
 unfold Ch;split
 ·omega
 split<;>simp<;>omega
def Te {c:List Ab×List Ah}{d:Ah}(h:∀m∈c.1,AD m.d)(hd:AD d):∀m∈(Ch c d).1,AD m.d:=by
 unfold Ch;split
 ·exact h
 split
 ·exact h
 intro m hm;rcases E0 hm with rfl|hm
 ·exact hd
 exact h m hm
def NN {c:List Ab×List Ah}{d:Ah}(h:c.1.Pairwise BI):(Ch c d).1.Pairwise BI:=by
 unfold Ch;split
 ·exact h
 split
 ·exact h
 exact E1 h
attribute [local irreducible] X
def Y9 (am:Option Addr)(ms:List Ab)(cm:Nat)(ac:Option Addr)(cl:List Ah)(cc:Nat)(d:Ah)(w:World)(ho:Af w 46 am cm ms)(hk:Af w 73 ac cc cl)(hap:∀q,own am q->¬own ac q)(hS:ms.Pairwise BI)(hM:∀m∈ms,AD m.d)(hd:AD d)(hl:ms.length<=1000000)(hl2:cl.length<=1000000):
  Calls prog 243 #[.agg #[.slice am ms.length cm,.slice ac cl.length cc],.agg #[.int .i64 d.node,.int .i64 d.life,.int .i64 d.count]] w (AU (λv w'=>∃a1 c1 a2 c2,v= .agg #[.slice a1 (Ch (ms,cl) d).1.length c1,.slice a2 (Ch (ms,cl) d).2.length c2]/\Af w' 46 a1 c1 (Ch (ms,cl) d).1/\Af w' 73 a2 c2 (Ch (ms,cl) d).2/\(∀q,own a1 q->¬own a2 q)/\AR w (λq=>own am q\/own ac q) (own a1)/\AR w (λq=>own am q\/own ac q) (own a2)/\Ae (λq=>own am q\/own ac q) w w')):=by
 have hin1:∀q,own am q->q<w.heap.size->own am q\/own ac q:=λ_ h _=> .inl h;have hin2:∀q,own ac q->q<w.heap.size->own am q\/own ac q:=λ_ h _=> .inr h;have hmk:=Vm hM d.a;refine kD (n:=54) func243 ?_;refine kQ ?_;intro az b2 au a0 aA;have av:=An ho.oL au;have aB:=An hk.oL au;have:w.heap.size<=az:=au;clear au;have K0:=(aA:As w _).to (S:=(λq=>own am q\/own ac q));refine kQ ?_;intro b3 b4 af a4 aw;have b5:=Ak a0.lt af;replace ho:=ho.ext aA;have aK:=An ho.oL af;replace hk:=hk.ext aA;have aL:=An hk.oL af;have:=Aaa K0.size af;clear af;refine kR ?_;intro aF b6 a5 a3 ag;replace a0:=a0.ext aw;have b7:=Ak a0.lt a5;have b8:=Ak a4.lt a5;replace ho:=ho.ext aw;have a6:=An ho.oL a5;replace hk:=hk.ext aw;have ah:=An hk.oL a5;replace K0:=K0.ext aw;have:=Aaa K0.size a5;clear a5;refine jG ?_;refine Ai.drawS [] [1000,1001,2002,2003,4] ?_;intro b9 a7;replace a0:=(a0.ext ag).ext a7;replace a4:=(a4.ext ag).ext a7;refine kF (jb a0 (jb a4 Jn)) ?_;refine jU rfl<|jC (FW d _) ?_;rintro _ ba ⟨rfl,a8⟩;replace a0:=a0.ext a8;replace a4:=a4.ext a8;refine jG ?_;replace ho:=((ho.ext ag).ext a7).ext a8;replace hk:=((hk.ext ag).ext a7).ext a8;refine jU rfl<|jC (O0 am ms cm ac cl cc (Ah.a d) _ ho.sl hk.sl Zo Zo) ?_;rintro _ bb ⟨rfl,a9⟩;replace a0:=a0.ext a9;replace a4:=a4.ext a9;refine jG ?_;replace K0:=(((K0.ext ag).ext a7).ext a8).ext a9;replace a3:=((a3.ext a7).ext a8).ext a9;replace ho:=ho.ext a9;replace hk:=hk.ext a9;refine jF ?_ ?_
 ·intro hc12;refine jG ?_;refine jR<|jS a3 ?_;intro bc a3 ai;replace K0:=K0.n1 ai;refine jG ?_;refine Ai.retC (cs:=#[.slice am ms.length cm,.slice ac cl.length cc]) func243 rfl ty31 rfl rfl a3.cl ?_;rw[Xq hc12];replace ho:=ho.kO ai (Aa a6);replace hk:=hk.kO ai (Aa ah);replace a0:=a0.kp ai;replace a4:=a4.kp ai;exact⟨_,rfl,am,cm,ac,cc,rfl,ho,hk,hap,E2 hin1,E2 hin2,K0⟩
 intro hc12;refine jG ?_;refine kE (Av rfl rfl Zo Zo) ?_;refine jF ?_ ?_
 ·intro hc18;refine jG ?_;refine jR<|AB.buildSlice ([d]:List Ah) underlying29 ty73 rfl rfl Ze ?_;intro be bg aM aN aa;clear aM;replace hk:=hk.ext aa;refine jR<|AB.append (xs:=cl) (ys:=([d]:List Ah)) underlying29 ty73 rfl rfl rfl hk aN.sl Zr Zd ?_;intro ab aG bh aC aj ak aO;replace ho:=ho.ext aa;have aP:∀q_,own ab q_->¬own am q_:=ak.apart (Zf hap) ho.oL;replace a0:=a0.ext aa;have aQ:¬own ab az:=ak.not aB a0.lt;replace a3:=a3.ext aa;have aR:¬own ab aF:=ak.not ah a3.lt;replace K0:=K0.ext aa;have aS:∀q_,own ab q_->q_<w.heap.size->(λq=>own am q\/own ac q) q_:=ak.inS hin2 K0.size;replace K0:=K0.trans aj (λx hlt hx=>hin2 x hx hlt);clear ak;clear aO;refine jG ?_;replace a0:=a0.keep aj aB;refine jR<|jS a0 ?_;intro bi a0 al;replace K0:=K0.n1 al;refine jG ?_;replace a3:=(a3.keep aj ah).kp al;refine jR<|jS a3 ?_;intro bj a3 an;replace K0:=K0.n1 an;refine jG ?_;refine Ai.retC (cs:=#[.slice am ms.length cm,.slice ab ((cl++([d]:List Ah)).length) aG]) func243 rfl ty31 rfl rfl a3.cl ?_;rw[Xr (Int.not_le.2 hc12) hc18];replace a4:=(((a4.ext aa).keep aj aL).kp al).kp an;replace ho:=((ho.kO aj hap).kO al (Aa av)).kO an (Aa a6);replace aC:=(aC.kO al (Aa aQ)).kO an (Aa aR);replace a0:=a0.kp an;exact⟨_,rfl,am,cm,ab,aG,rfl,ho,aC,(Zf aP),E2 hin1,E2 aS,K0⟩
 intro hc18;refine jG ?_;refine kS (Vo _ ms _ d _ ho.sl hS hM hd Zo) ?_;rintro _ bk ⟨i,b,rfl,hL,hb,ad⟩;have hLi:=hL.hi;refine jG ?_;replace ho:=ho.ext ad;replace hk:=hk.ext ad;replace a0:=a0.ext ad;replace a4:=a4.ext ad;replace a3:=a3.ext ad;replace K0:=K0.ext ad;refine Ai.cond rfl (λhc38=> ?_) (λhc38=> ?_)
 ·skip;obtain⟨y,hy,he⟩:=hb.1 hc38;have hilt:=(List.getElem?_eq_some_iff.1 hy).1;obtain⟨bl,bm,y_,hy_,aT,aU⟩:=ho.sl.eo i;obtain rfl:y=y_:=Option.some.inj (hy.symm.trans hy_);refine jG ?_;refine jR<|AB.storeEl (v:= .int .i64 d.count) (off:=2) (i:=i) (⟨y.node,y.life,d.count⟩:Ab) ty3 rfl rfl rfl Zv ho aT hy_ rfl Zd rfl ?_;intro bn aH ao;clear aU;replace K0:=K0.trans ao (λx hlt hx=>hin1 x hx hlt);replace ho:=aH;clear aH;replace a0:=a0.keep ao av;rw[show(ms).length=(ms.set i (⟨y.node,y.life,d.count⟩:Ab)).length from(Aa3 ..).symm]at a0;refine jG ?_;replace a3:=a3.keep ao a6;refine jR<|jS a3 ?_;intro bo a3 ap;replace K0:=K0.n1 ap;refine jG ?_;refine Ai.retC (cs:=#[.slice am ((ms.set i (⟨y.node,y.life,d.count⟩:Ab)).length) cm,.slice ac cl.length cc]) func243 rfl ty31 rfl rfl a3.cl ?_;rw[RU (Int.not_le.2 hc12) (Int.not_lt.2 hc18),setM_same hL hy he];replace hk:=(hk.kO ao (Zf hap)).kO ap (Aa ah);replace a4:=(a4.keep ao aK).kp ap;replace ho:=ho.kO ap (Aa a6);replace a0:=a0.kp ap;exact⟨_,rfl,am,cm,ac,cc,rfl,ho,hk,hap,E2 hin1,E2 hin2,K0⟩
 skip;refine jG ?_;refine jR<|AB.buildSlice ([Ah.m d]:List Ab) underlying28 ty46 rfl rfl Ze ?_;intro aV bp aI aW aq;have aX:=Ag (Du aI) ho.oL;clear aI;replace ho:=ho.ext aq;refine kS (Pf _ _ _ i d.m aV _ ho aW (λh_=>(Zf aX) _ h_ (CS.2 rfl)) hLi Zo) ?_;rintro _ bq ⟨ae,aJ,rfl,aD,ar,ax⟩;replace hk:=hk.ext aq;have aY:∀q_,own ae q_->¬own ac q_:=ar.apart hap hk.oL;replace a0:=a0.ext aq;have aZ:¬own ae az:=ar.not av a0.lt;replace a3:=a3.ext aq;have b0:¬own ae aF:=ar.not a6 a3.lt;replace K0:=K0.ext aq;have b1:∀q_,own ae q_->q_<w.heap.size->(λq=>own am q\/own ac q) q_:=ar.inS hin1 K0.size;replace K0:=K0.trans ax (λx hlt hx=>hin1 x hx hlt);clear ar;refine jG ?_;replace a0:=a0.keep ax av;refine jR<|jS a0 ?_;intro bs a0 ay;replace K0:=K0.n1 ay;refine jG ?_;replace a3:=(a3.keep ax a6).kp ay;refine jR<|jS a3 ?_;intro bt a3 aE;replace K0:=K0.n1 aE;refine jG ?_;refine Ai.retC (cs:=#[.slice ae ((FB ms i d.m).length) aJ,.slice ac cl.length cc]) func243 rfl ty31 rfl rfl a3.cl ?_;rw[RU (Int.not_le.2 hc12) (Int.not_lt.2 hc18),setM_new hL (λy_ hy_ e_=>by have h_:=hb.2 ⟨y_,hy_,e_⟩;rw[hc38]at h_;cases h_)];replace hk:=((hk.kO ax (Zf hap)).kO ay (Aa aB)).kO aE (Aa ah);replace aD:=(aD.kO ay (Aa aZ)).kO aE (Aa b0);exact⟨_,rfl,ae,aJ,ac,cc,rfl,aD,hk,aY,E2 b1,E2 hin2,K0⟩
end Go.Proofs.YtjkaicjmfgekjaaGreatDoor
namespace Go.Proofs.YtjkaicjmfgekjaaGreatDoor
open Go.Proofs.Tryz
attribute [local irreducible] RD RS AB RL RA RT CB Ai
def L3 (l:List Ah)(i:Nat):List Ab:=(l.take i).foldl Db []
def Vp (l:List Ah):L3 l 0=[]:=rfl
def Lp {l:List Ah}{i:Nat}{d:Ah}(h:l[i]? =some d):L3 l (i+1)=Db (L3 l i) d:=NL h
def RV {l:List Ah}{i:Nat}(h:l.length<=i):L3 l i=C0 l:=by rw[L3,AaB h];rfl
def Lq {α:Type}{l:List α}{y:α}(h:l[l.length-1]? =some y):l.getLast? =some y:=by rw[Acf];exact h
def Qz {l:List Ab}{d:Ah}{y:Ab}(h:l[l.length-1]? =some y)(ha:y.d.a=d.a):Db l d=l.set (l.length-1) ⟨y.node,y.life,d.count⟩:=by
 rw[Db,Lq h];simp only;rw[if_pos ha];have hn:l≠ []:=λe=>by subst e;cases h
 have e:=List.dropLast_concat_getLast hn;have hl:l.dropLast.length=l.length-1:=List.length_dropLast;conv=>rhs;rw[<-e]
 rw[List.set_append_right _ _ (by rw[hl];simp),Aab,hl];simp
def QA {l:List Ab}{d:Ah}{y:Ab}(h:l[l.length-1]? =some y)(ha:¬y.d.a=d.a):Db l d=l++[d.m]:=by
 rw[Db,Lq h];simp only;rw[if_neg ha]
def Pg {l:List Ab}{d:Ah}(h:¬0<l.length):Db l d=l++[d.m]:=by
 have:l=[]:=AaM Zo
 subst this;rfl
def RW (l : List Ah) (i : Nat) : (L3 l i).length <= i := by
  have key : ∀ (r : List Ah) (acc : List Ab), (r.foldl Db acc).length <= acc.length + r.length := by
    intro r;induction r with
    | nil => intro acc; simp
    | cons d r ih =>
      intro acc;have := ih (Db acc d);have h2 : (Db acc d).length <= acc.length + 1 := by
        unfold Db;split
        · split <;> simp <;> omega
        simp
      rw [AaK, Aaj]; omega
  have := key (l.take i) [];have h3 : (l.take i).length <= i := by rw [List.length_take]; omega
  simp only [Aas, Aaq] at this;unfold L3; omega
def NO {l : List Ah} : ∀ m ∈ C0 l, m.d ∈ l := by
  have key : ∀ (r : List Ah) (acc : List Ab) (s : List Ah), (∀ m ∈ acc, m.d ∈ s) -> ∀ m ∈ r.foldl Db acc, m.d ∈ s ++ r := by
    intro r;induction r with
    | nil => intro acc s h m hm; simpa using h m hm
    | cons d r ih =>
      intro acc s h m hm;have := ih (Db acc d) (s ++ [d]) (λx hx => ?_) m hm
      · simpa using this
      rcases List.eq_nil_or_concat acc with rfl | ⟨ls, y, rfl⟩
      · rw [Ll, Aah] at hx; subst hx; simp
      rw [List.concat_eq_append, JO] at hx;split at hx
      · rename_i ha;rcases List.mem_append.1 hx with h2 | h2
        · exact AaQ _ (h x (by simp [h2]))
        rw [Aah] at h2; subst h2;simp only [Ab.d, Ah.a, AZ.mk.injEq] at ha;refine AaR _ (List.mem_singleton.2 ?_);exact Ah.eta ha.1 ha.2 rfl
      rcases List.mem_append.1 hx with h2 | h2
      · exact AaQ _ (h x (by simpa using h2))
      rw [Aah] at h2; subst h2; simp
  intro m hm;simpa using key l [] [] Zs m hm
def TU (c:List Ab×List Ah)(l:List Ah)(i:Nat):List Ab×List Ah:=(l.take i).foldl Ch c
def Vq (c:List Ab×List Ah)(l:List Ah):TU c l 0=c:=rfl
def Vr {c:List Ab×List Ah}{l:List Ah}{i:Nat}{d:Ah}(h:l[i]? =some d):TU c l (i+1)=Ch (TU c l i) d:=NL h
structure ii (c:List Ab×List Ah)(n:Nat):Prop where
 hs:c.1.Pairwise BI
 hm:∀m∈c.1,AD m.d
 hl:c.1.length+c.2.length<=n
def ii.step {c:List Ab×List Ah}{n:Nat}{d:Ah}(h:ii c n)(hd:AD d):ii (Ch c d) (n+1):=⟨NN h.hs,Te h.hm hd,by have:=Td c d;have:=h.hl;omega⟩
def Vs {l:List Ah}(h:∀d∈l,AD d):∀d∈uniq (Bh l),AD d:=λd hd=>by rw[MM]at hd;exact h d (EQ.1 (Hs.1 hd))
def Fg (l:List Ah):(Bh l).length=l.length:=List.length_mergeSort _
def Vt {M:List Ab}(hM:∀m∈M,AD m.d):ii (C0 (Bh (M.map Ab.d)),[]) M.length:=by
 have hd:∀d∈Bh (M.map Ab.d),AD d:=λd hd=>by
  obtain⟨m,hm,rfl⟩:=List.mem_map.1 (EQ.1 hd);exact hM m hm
 refine⟨(GB.all (λd h=>(hd d h).pos) (Lk _)).hm,λm hm=>hd _ (NO m hm),?_⟩;have h:=RW (Bh (M.map Ab.d)) (Bh (M.map Ab.d)).length;rw[RV (Aac _),Fg,Aad]at h;simpa using h
def Xs {M:List Ab}{D:List Ah}{i:Nat}(h:(uniq (Bh D)).length<=i):TU (C0 (Bh (M.map Ab.d)),[]) (uniq (Bh D)) i=Cu M D:=by
 rw[TU,AaB h,MM];unfold Cu;rfl
def QB {M:List Ab}{i:Nat}{m:Ab}(h:M[i]? =some m):(M.take (i+1)).map Ab.d=(M.take i).map Ab.d++[m.d]:=by rw[D8 h];simp
attribute [local irreducible] AD DP Cx BI By Ca B6 Jo JX Cm AW Cu Va JN Ch setM FB L3 TU uniq Bh C0 X
def NP (am:Option Addr)(ms:List Ab)(cm:Nat)(ac:Option Addr)(ds:List Ah)(cc:Nat)(w:World)(hs:Ax w am ms)(ht:Ax w ac ds)(hl:ms.length+ds.length<=100000):
  Calls prog 205 #[.slice am ms.length cm,.slice ac ds.length cc] w (AU (λv w'=>∃a1 c1 a2 c2,v= .tuple #[.agg #[.slice a1 (Cm ms ds).2.1.length c1,.slice a2 (Cm ms ds).2.2.length c2],.int .i64 (Cm ms ds).1]/\Af w' 46 a1 c1 (Cm ms ds).2.1/\Af w' 73 a2 c2 (Cm ms ds).2.2/\(∀q,own a1 q->¬own a2 q)/\(∀q,own a1 q->w.heap.size<=q)/\(∀q,own a2 q->w.heap.size<=q)/\As w w')):=by
 refine kD (n:=115) func205 ?_;refine kR ?_;intro a8 c6 bA a0 c7;have:w.heap.size<=a8:=bA;clear bA;have K0:=(c7:As w _);refine jG ?_;refine Ai.loop (ι:=Nat) (λi ρ' w'=>∃a1:Option Addr,∃c1:Nat,Holds ρ' [(1,.slice ac ds.length cc),(4,jp a8),(6,.slice a1 (((ms.take i).map Ab.d).length) c1),(18,.slice am ms.length cm),(19,.int .i64 ((ms.length:Nat):Int)),(20,.int .i64 ((i:Nat):Int))]/\As w w'/\(AC w' a8 [.slice none 0 0,.slice none 0 0] 31)/\(Af w' 73 a1 c1 ((ms.take i).map Ab.d))/\(¬own a1 a8)/\(∀q_,own a1 q_->w.heap.size<=q_)/\(i<=ms.length)/\(∀j,j<i->∀m,ms[j]? =some m->AD m.d)) (λi=>ms.length-i) 0 ?_ ?_
 ·have c8:=Af.nil (α:=Ah) c6 73;refine⟨_,_,⟨rfl,rfl,rfl,rfl,rfl,rfl,trivial⟩,K0,a0,c8,(Ad a8),(λq_ h1=>absurd h1 (Ad q_)),?_,?_⟩
  ·omega
  exact λj hj=>absurd hj (Abh j)
 clear a0;clear K0;rintro i d1 d2 ⟨a1,c1,bB,K0,a0,a6,aE,b5,hi,hkM⟩ ih1;obtain⟨ρ₀,rfl⟩:=bB.ex;clear bB;refine kK ?_ ?_
 ·intro hc21;obtain⟨d3,d4,m,hm,d5,aV⟩:=hs.eo i;have hc_16_lt:=aV.lt;replace aV:=aV.ext K0;refine kP ?_;intro d6 d7 aF ax b6;have d8:=Ak a0.lt aF;have d9:=Ak aV.lt aF;have c9:=An a6.oL aF;have:=Aaa K0.size aF;clear aF;refine jR<|jS ax ?_;intro da ax b7;refine jG ?_;refine kS (H0 m _) ?_;rintro _ db ⟨rfl,aW⟩;refine kS (MH (Ab.d m) _) ?_;rintro _ dc ⟨rfl,aX⟩;refine jG ?_;replace a0:=(((a0.ext b6).kp b7).ext aW).ext aX;replace a6:=(((a6.ext b6).kO b7 (Aa c9)).ext aW).ext aX;replace K0:=(((K0.ext b6).n1 b7).ext aW).ext aX;replace ax:=(ax.ext aW).ext aX;refine jF ?_ ?_
  ·intro hc27;refine jG ?_;refine jV (AO (cells:=#[.slice none 0 0,.slice none 0 0]) Zk) ?_;refine jR<|jS a0 ?_;intro dd a0 b8;refine jG ?_;refine Ai.retCT (x:= .int .i64 1) (cs:=#[.slice none 0 0,.slice none 0 0]) func205 rfl ty31 rfl rfl a0.cl rfl ?_;rw[Xk hm hc27];replace a6:=a6.kO b8 (Aa aE);replace ax:=ax.kp b8;replace K0:=K0.n1 b8;exact⟨_,rfl,none,0,none,0,rfl,Af.nil _ _,Af.nil _ _,λ_ h_=>absurd h_ (Ad _),λ_ h_=>absurd h_ (Ad _),λ_ h_=>absurd h_ (Ad _),K0⟩
  intro hc27;have hlt_:((ms.take i).map Ab.d).length<=ms.length:=by rw[Aad,List.length_take];omega
  refine jG ?_;refine kS (H0 m _) ?_;rintro _ de ⟨rfl,b9⟩;refine jR<|AB.buildSlice ([(Ab.d m)]:List Ah) underlying29 ty73 rfl rfl Ze ?_;intro df dg ca cb ba;clear ca;replace a6:=(a6.ext b9).ext ba;refine jR<|AB.append (xs:=(ms.take i).map Ab.d) (ys:=([(Ab.d m)]:List Ah)) underlying29 ty73 rfl rfl rfl a6 cb.sl Zr Zd ?_;intro bC dh di cd bD bb ce;replace a0:=(a0.ext b9).ext ba;have cf:¬own bC a8:=bb.not aE a0.lt;replace K0:=(K0.ext b9).ext ba;have cg:∀q_,own bC q_->w.heap.size<=q_:=bb.ge b5 K0.size;clear bb;clear ce;refine jG ?_;refine kC i ?_;have e:=QB hm;refine ih1 (i+1) _ _ ?_ Zo;rw[e];replace a0:=a0.keep bD aE;replace K0:=K0.new bD b5;refine⟨_,_,⟨rfl,rfl,rfl,rfl,rfl,rfl,trivial⟩,K0,a0,cd,cf,cg,?_,?_⟩
  ·omega
  exact Ej hkM (NK hm hc27)
 intro hc21;rw[Vc (show ms.length<=i by omega)]at a6⊢;refine jG ?_;refine Ai.loop (ι:=Nat) (λi ρ' w'=>Holds ρ' [(1,.slice ac ds.length cc),(4,jp a8),(6,.slice a1 ((ms.map Ab.d).length) c1),(35,.slice ac ds.length cc),(36,.int .i64 ((ds.length:Nat):Int)),(37,.int .i64 ((i:Nat):Int))]/\As w w'/\(AC w' a8 [.slice none 0 0,.slice none 0 0] 31)/\(Af w' 73 a1 c1 (ms.map Ab.d))/\(i<=ds.length)/\(∀j,j<i->∀d,ds[j]? =some d->AD d)) (λi=>ds.length-i) 0 ?_ ?_
 ·refine⟨⟨rfl,rfl,rfl,rfl,rfl,rfl,trivial⟩,K0,a0,a6,?_,?_⟩
  ·omega
  exact λj hj=>absurd hj (Abh j)
 clear a0 a6;clear K0;rintro i dj dk ⟨bE,K0,a0,a6,hi,hkD⟩ ih2;obtain⟨ρ₀,rfl⟩:=bE.ex;clear bE;refine kK ?_ ?_
 ·intro hc38;obtain⟨dl,dm,d,hd,dn,aY⟩:=ht.eo i;have hc_63_lt:=aY.lt;replace aY:=aY.ext K0;refine kP ?_;intro dp dq aG bF bc;have dr:=Ak a0.lt aG;have dt:=Ak aY.lt aG;have ch:=An a6.oL aG;have:=Aaa K0.size aG;clear aG;refine jR<|jS bF ?_;intro du bF be;refine jG ?_;refine kS (MH d _) ?_;rintro _ dv ⟨rfl,bg⟩;refine jG ?_;replace a0:=((a0.ext bc).kp be).ext bg;replace a6:=((a6.ext bc).kO be (Aa ch)).ext bg;replace K0:=((K0.ext bc).n1 be).ext bg;refine jF ?_ ?_
  ·intro hc43;refine jG ?_;refine jV (AO (cells:=#[.slice none 0 0,.slice none 0 0]) Zk) ?_;refine jR<|jS a0 ?_;intro dw a0 bG;refine jG ?_;refine Ai.retCT (x:= .int .i64 1) (cs:=#[.slice none 0 0,.slice none 0 0]) func205 rfl ty31 rfl rfl a0.cl rfl ?_;rw[Xl hd hc43];replace a6:=a6.kO bG (Aa aE);replace K0:=K0.n1 bG;exact⟨_,rfl,none,0,none,0,rfl,Af.nil _ _,Af.nil _ _,λ_ h_=>absurd h_ (Ad _),λ_ h_=>absurd h_ (Ad _),λ_ h_=>absurd h_ (Ad _),K0⟩
  intro hc43;refine jG ?_;refine kC i ?_;refine ih2 (i+1) _ _ ?_ Zo;refine⟨⟨rfl,rfl,rfl,rfl,rfl,rfl,trivial⟩,K0,a0,a6,?_,?_⟩
  ·omega
  exact Ej hkD (NK hd hc43)
 intro hc38;have hM:=NJ hkM Zo;have hD:=NJ hkD Zo;have hdm:∀d∈ms.map Ab.d,AD d:=λd h_=>by obtain⟨m,hm,rfl⟩:=List.mem_map.1 h_;exact hM m hm
 refine jG ?_;refine kS (Pc a6 hdm (by first|omega|(simp only[Aad];omega))) ?_;rintro _ dx ⟨rfl,bH,bI⟩;replace a6:=bH;clear bH;rw[show(ms.map Ab.d).length=(Bh (ms.map Ab.d)).length from(Fg _).symm];refine kP ?_;intro ad ci aZ a7 bh;replace a0:=a0.keep bI aE;have dy:=Ak a0.lt aZ;have bi:=An a6.oL aZ;replace K0:=K0.new bI b5;have:=Aaa K0.size aZ;clear aZ;have hsl:(Bh (ms.map Ab.d)).length=ms.length:=by rw[Fg,Aad]
 refine jG ?_;replace a0:=a0.ext bh;replace a6:=a6.ext bh;replace K0:=K0.ext bh;refine Ai.loop (ι:=Nat) (λi ρ' w'=>∃a3:Option Addr,∃c3:Nat,Holds ρ' [(1,.slice ac ds.length cc),(4,jp a8),(11,jp ad),(48,.slice a1 ((Bh (ms.map Ab.d)).length) c1),(49,.int .i64 (((Bh (ms.map Ab.d)).length:Nat):Int)),(50,.int .i64 ((i:Nat):Int))]/\As w w'/\(AC w' a8 [.slice none 0 0,.slice none 0 0] 31)/\(AC w' ad [.slice a3 ((L3 (Bh (ms.map Ab.d)) i).length) c3,.slice none 0 0] 31)/\(Af w' 73 a1 c1 (Bh (ms.map Ab.d)))/\(Af w' 46 a3 c3 (L3 (Bh (ms.map Ab.d)) i))/\(¬own a3 a8)/\(¬own a3 ad)/\(∀q_,own a3 q_->¬own a1 q_)/\(∀q_,own a3 q_->w.heap.size<=q_)/\(i<=(Bh (ms.map Ab.d)).length)) (λi=>(Bh (ms.map Ab.d)).length-i) 0 ?_ ?_
 ·rw[Vp];have cj:=Af.nil (α:=Ab) ci 46;refine⟨_,_,⟨rfl,rfl,rfl,rfl,rfl,rfl,trivial⟩,K0,a0,a7,a6,cj,(Ad a8),(Ad ad),(λq_ h1 _=>Ad q_ h1),(λq_ h1=>absurd h1 (Ad q_)),?_⟩;omega
 clear a0 a6 a7;clear K0;rintro i dz dA ⟨a3,c3,bJ,K0,a0,a7,a6,a9,ai,aj,ak,al,hi⟩ ih3;obtain⟨ρ₀,rfl⟩:=bJ.ex;clear bJ;refine kK ?_ ?_
 ·intro hc51;obtain⟨dB,dC,d,hd,dD,ck⟩:=a6.sl.eo i;refine kP ?_;intro dE dF an aa aH;have dG:=Ak a0.lt an;have dH:=Ak a7.lt an;have dI:=Ak ck.lt an;have cn:=An a6.oL an;have bj:=An a9.oL an;have:=Aaa K0.size an;clear an;refine jR<|jS aa ?_;intro dJ aa aI;have hml:=RW (Bh (ms.map Ab.d)) i;replace a7:=(a7.ext aH).kp aI;refine Ii ?_;replace a0:=(a0.ext aH).kp aI;replace a6:=(a6.ext aH).kO aI (Aa cn);replace a9:=(a9.ext aH).kO aI (Aa bj);replace K0:=(K0.ext aH).n1 aI;by_cases hn:0<(L3 (Bh (ms.map Ab.d)) i).length
  ·obtain⟨dK,dL,y,hy,co,ag⟩:=a9.sl.el (i:=((((L3 (Bh (ms.map Ab.d)) i).length:Nat):Int)-1).toNat) Zl;refine Ai.drawS [] [0,1,2,3,1004,5,6,7,1008,1011,2009,2010,2012,13,14] ?_;intro dM ao;replace a7:=a7.ext ao;replace aa:=aa.ext ao;replace ag:=ag.ext ao;refine jM (jb a7 (jb aa (jl ag Jn))) ?_;refine FU ?_;refine jP ?_ (hx:=by exact λ_=>(DR (GU rfl rfl) (decide_eq_true Zo)));refine jG ?_;refine jQ ?_ (hx:=by exact λ_ hg=>(B8 rfl rfl Zo Zo));refine jQ ?_ (hx:=by exact λ_ hg=>(HO underlying28 ty46 rfl rfl co Zo Zl));refine jG ?_;refine jX rfl<|jC (H0 y _) ?_;rintro _ dN ⟨rfl,ap⟩;replace a7:=a7.ext ap;replace aa:=aa.ext ap;replace ag:=ag.ext ap;refine jG ?_;refine jX rfl<|jC (FW (Ab.d y) _) ?_;rintro _ dO ⟨rfl,aq⟩;replace a7:=a7.ext aq;replace aa:=aa.ext aq;replace ag:=ag.ext aq;refine jG ?_;refine jX rfl<|jC (FW d _) ?_;rintro _ dP ⟨rfl,ar⟩;replace a7:=a7.ext ar;replace aa:=aa.ext ar;replace ag:=ag.ext ar;refine jG ?_;refine jQ ?_ (hx:=by exact λ_ hg=>(GK Zk rfl rfl (Ei (Ah.a (Ab.d y)) (Ah.a d))));refine jP ?_ (hx:=by exact λ_=>(BP rfl rfl rfl));refine jG ?_;replace a0:=(((a0.ext ao).ext ap).ext aq).ext ar;replace a6:=(((a6.ext ao).ext ap).ext aq).ext ar;replace a9:=(((a9.ext ao).ext ap).ext aq).ext ar;replace K0:=(((K0.ext ao).ext ap).ext aq).ext ar;refine jF ?_ ?_
   ·intro hc71;refine jG ?_;refine jV (B8 rfl rfl Zo Zo) ?_;refine ET ?_;obtain⟨dQ,cp,y2,hy2,bK,cq⟩:=a9.sl.el (i:=((((L3 (Bh (ms.map Ab.d)) i).length:Nat):Int)-1).toNat) Zl;refine jV (HO underlying28 ty46 rfl rfl bK Zo Zl) ?_;refine jV (JB (o':=cp+((((L3 (Bh (ms.map Ab.d)) i).length:Nat):Int)-1).toNat*3+2) underlying46 rfl ty3 rfl rfl rfl) ?_;refine jR<|AB.storeEl (v:= .int .i64 d.count) (off:=2) (i:=((((L3 (Bh (ms.map Ab.d)) i).length:Nat):Int)-1).toNat) (⟨y2.node,y2.life,d.count⟩:Ab) ty3 rfl rfl rfl Zv a9 bK hy2 rfl Zd rfl ?_;intro dR bL aJ;clear cq;replace a9:=bL;clear bL;replace a7:=a7.keep aJ aj;rw[show(L3 (Bh (ms.map Ab.d)) i).length=((L3 (Bh (ms.map Ab.d)) i).set (((((L3 (Bh (ms.map Ab.d)) i).length:Nat):Int)-1).toNat) (⟨y2.node,y2.life,d.count⟩:Ab)).length from(Aa3 ..).symm]at a7;refine jG ?_;refine kC i ?_;obtain rfl:y=y2:=Option.some.inj (hy.symm.trans hy2);have e:=(Lp hd).trans ((Qz (by rw[<-ID hn];exact hy) hc71).trans (congrArg (λk_=>List.set _ k_ _) (ID hn).symm));refine ih3 (i+1) _ _ ?_ Zo;rw[e];replace a0:=a0.keep aJ ai;replace a6:=a6.kO aJ (Zf ak);replace aa:=aa.keep aJ bj;replace K0:=K0.new aJ al;refine⟨_,_,⟨rfl,rfl,rfl,rfl,rfl,rfl,trivial⟩,K0,a0,a7,a6,a9,ai,aj,ak,al,?_⟩
    omega
   intro hc71;refine jG ?_;refine jR<|AB.buildSlice ([Ah.m d]:List Ab) underlying28 ty46 rfl rfl Ze ?_;intro dS dT cr ct ay;clear cr;replace a9:=a9.ext ay;refine jR<|AB.append (xs:=(L3 (Bh (ms.map Ab.d)) i)) (ys:=([Ah.m d]:List Ab)) underlying28 ty46 rfl rfl rfl a9 ct.sl Zr Zd ?_;intro b0 dU dV bk aK aL cu;replace a0:=a0.ext ay;have cw:¬own b0 a8:=aL.not ai a0.lt;replace a7:=a7.ext ay;have bM:¬own b0 ad:=aL.not aj a7.lt;replace a6:=a6.ext ay;have cx:∀q_,own b0 q_->¬own a1 q_:=aL.apart ak a6.oL;replace K0:=K0.ext ay;have cy:∀q_,own b0 q_->w.heap.size<=q_:=aL.ge al K0.size;clear aL;clear cu;refine jG ?_;replace a7:=a7.keep aK aj;refine jR<|jS a7 ?_;intro dW a7 aM;refine jG ?_;refine kC i ?_;have e:=(Lp hd).trans (QA (by rw[<-ID hn];exact hy) hc71);refine ih3 (i+1) _ _ ?_ Zo;rw[e];replace aa:=((aa.ext ay).keep aK bj).kp aM;replace a0:=(a0.keep aK ai).kp aM;replace a6:=(a6.kO aK (Zf ak)).kO aM (Aa bi);replace K0:=(K0.new aK al).n1 aM;replace bk:=bk.kO aM (Aa bM);refine⟨_,_,⟨rfl,rfl,rfl,rfl,rfl,rfl,trivial⟩,K0,a0,a7,a6,bk,cw,bM,cx,cy,?_⟩
   omega
  refine Ai.drawS [] [0,1,2,3,4,5,6,7,8,11,2009,2010,2012,13,14] ?_;intro dX az;refine jM Jn ?_;refine FU ?_;refine jP ?_ (hx:=by exact λ_=>(DK (GU rfl rfl) (decide_eq_false Zo)));refine jG ?_;refine jY ?_;refine jG ?_;refine jY ?_;refine jG ?_;refine jY ?_;refine jG ?_;refine jP ?_ (hx:=by exact λ_=>(Bo (b:=false) (e:=false) rfl rfl rfl));refine jG ?_;refine Ai.condF rfl ?_;replace a7:=a7.ext az;replace aa:=aa.ext az;refine jG ?_;refine jR<|AB.buildSlice ([Ah.m d]:List Ab) underlying28 ty46 rfl rfl Ze ?_;intro dY dZ cz cA aN;clear cz;replace a9:=(a9.ext az).ext aN;refine jR<|AB.append (xs:=(L3 (Bh (ms.map Ab.d)) i)) (ys:=([Ah.m d]:List Ab)) underlying28 ty46 rfl rfl rfl a9 cA.sl Zr Zd ?_;intro b1 e0 e1 bl b2 aO cB;replace a0:=(a0.ext az).ext aN;have cC:¬own b1 a8:=aO.not ai a0.lt;replace a7:=a7.ext aN;have bN:¬own b1 ad:=aO.not aj a7.lt;replace a6:=(a6.ext az).ext aN;have cD:∀q_,own b1 q_->¬own a1 q_:=aO.apart ak a6.oL;replace K0:=(K0.ext az).ext aN;have cE:∀q_,own b1 q_->w.heap.size<=q_:=aO.ge al K0.size;clear aO;clear cB;refine jG ?_;replace a7:=a7.keep b2 aj;refine jR<|jS a7 ?_;intro e2 a7 b3;refine jG ?_;refine kC i ?_;have e:=(Lp hd).trans (Pg hn);refine ih3 (i+1) _ _ ?_ Zo;rw[e];replace a0:=(a0.keep b2 ai).kp b3;replace a6:=(a6.kO b2 (Zf ak)).kO b3 (Aa bi);replace K0:=(K0.new b2 al).n1 b3;replace bl:=bl.kO b3 (Aa bN);refine⟨_,_,⟨rfl,rfl,rfl,rfl,rfl,rfl,trivial⟩,K0,a0,a7,a6,bl,cC,bN,cD,cE,?_⟩
  omega
 intro hc51;rw[RV (show(Bh (ms.map Ab.d)).length<=i by omega)]at a9 a7;refine jG ?_;refine kS (NF _ _ _ _ (ht.ext K0) Zo) ?_;rintro _ e3 ⟨au,bO,rfl,ab,aA,aP⟩;have bP:=Ay aA a0.lt;have bm:=Ay aA a7.lt;have bQ:=Ag aA a6.oL;have bn:=Ag aA a9.oL;have bR:=Bg K0.size aA;clear aA;refine jG ?_;refine kS (Pc ab hD (by first|omega|(simp only[Aad];omega))) ?_;rintro _ e4 ⟨rfl,bS,aQ⟩;replace ab:=bS;clear bS;rw[show(ds).length=(Bh ds).length from(Fg _).symm];refine jG ?_;refine kS (Tc _ _ _ _ ab (by rw[Fg];omega)) ?_;rintro _ cF ⟨rfl,bT,aR⟩;replace ab:=bT;clear bT;have hU:=Vs hD;have hul:(uniq (Bh ds)).length<=ds.length:=by have:=Xm (Bh ds);rw[Fg]at this;exact this
 refine jG ?_;replace a0:=((a0.ext aP).keep aQ bP).keep aR bP;replace a7:=((a7.ext aP).keep aQ bm).keep aR bm;replace a6:=((a6.ext aP).kO aQ (Zf bQ)).kO aR (Zf bQ);replace a9:=((a9.ext aP).kO aQ (Zf bn)).kO aR (Zf bn);replace K0:=((K0.ext aP).new aQ bR).new aR bR;refine Ai.loop (ι:=Nat) (λi ρ' w'=>∃a4:Option Addr,∃c4:Nat,∃a5:Option Addr,∃c5:Nat,Holds ρ' [(4,jp a8),(11,jp ad),(93,.slice au ((uniq (Bh ds)).length) bO),(94,.int .i64 (((uniq (Bh ds)).length:Nat):Int)),(95,.int .i64 ((i:Nat):Int))]/\As w w'/\(AC w' a8 [.slice none 0 0,.slice none 0 0] 31)/\(AC w' ad [.slice a4 (((TU (C0 (Bh (ms.map Ab.d)),[]) (uniq (Bh ds)) i).1).length) c4,.slice a5 (((TU (C0 (Bh (ms.map Ab.d)),[]) (uniq (Bh ds)) i).2).length) c5] 31)/\(Af w' 73 a1 c1 (Bh (ms.map Ab.d)))/\(Af w' 73 au bO (uniq (Bh ds)))/\(Af w' 46 a4 c4 ((TU (C0 (Bh (ms.map Ab.d)),[]) (uniq (Bh ds)) i).1))/\(Af w' 73 a5 c5 ((TU (C0 (Bh (ms.map Ab.d)),[]) (uniq (Bh ds)) i).2))/\(¬own a4 a8)/\(¬own a4 ad)/\(∀q_,own a4 q_->¬own a1 q_)/\(∀q_,own a4 q_->¬own au q_)/\(∀q_,own a4 q_->¬own a5 q_)/\(∀q_,own a4 q_->w.heap.size<=q_)/\(¬own a5 a8)/\(¬own a5 ad)/\(∀q_,own a5 q_->¬own a1 q_)/\(∀q_,own a5 q_->¬own au q_)/\(∀q_,own a5 q_->w.heap.size<=q_)/\(i<=(uniq (Bh ds)).length)/\(ii (TU (C0 (Bh (ms.map Ab.d)),[]) (uniq (Bh ds)) i) (ms.length+i))) (λi=>(uniq (Bh ds)).length-i) 0 ?_ ?_
 ·rw[Vq];have cG:=Af.nil (α:=Ah) cF 73;refine⟨_,_,_,_,⟨rfl,rfl,rfl,rfl,rfl,trivial⟩,K0,a0,a7,a6,ab,a9,cG,ai,aj,ak,(Zf bn),(λq_ h1 h2=>(λq_ h1 _=>Ad q_ h1) q_ h2 h1),al,(Ad a8),(Ad ad),(λq_ h1 _=>Ad q_ h1),(λq_ h1 _=>Ad q_ h1),(λq_ h1=>absurd h1 (Ad q_)),?_,?_⟩
  ·omega
  exact Vt hM
 clear a0 a7 a6 a9 ab;clear K0;rintro i e5 e6 ⟨a4,c4,a5,c5,bU,K0,a0,a7,a6,ab,ae,af,bo,cH,cI,cJ,bV,bW,bp,cK,cL,cM,bX,hi,hG⟩ ih4;obtain⟨ρ₀,rfl⟩:=bU.ex;clear bU;refine kK ?_ ?_
 ·intro hc96;obtain⟨e7,e8,d,hd,e9,cN⟩:=ab.sl.eo i;refine kP ?_;intro ea eb ah bY av;have ec:=Ak a0.lt ah;have ed:=Ak a7.lt ah;have ee:=Ak cN.lt ah;have cO:=An a6.oL ah;have cP:=An ab.oL ah;have cQ:=An ae.oL ah;have cR:=An af.oL ah;have:=Aaa K0.size ah;clear ah;refine jR<|jS bY ?_;intro ef bY aw;replace a7:=(a7.ext av).kp aw;refine jG ?_;replace ae:=(ae.ext av).kO aw (Aa cQ);replace af:=(af.ext av).kO aw (Aa cR);refine kS (Y9 _ _ _ _ _ _ d _ ae af bV hG.hs hG.hm (hU d (BH hd)) (by have:=hG.hl;omega) (by have:=hG.hl;omega)) ?_;rintro _ eg ⟨aS,eh,aT,ei,rfl,bq,bs,cS,aB,aC,aU⟩;have bt:¬(λq_=>own a4 q_\/own a5 q_) a8:=λx_=>((λq_ h_=>h_) _ x_).elim bo (λy_=>bp y_);have bu:¬(λq_=>own a4 q_\/own a5 q_) ad:=λx_=>((λq_ h_=>h_) _ x_).elim cH (λy_=>cK y_);have bv:∀q_,(λq_=>own a4 q_\/own a5 q_) q_->¬own a1 q_:=λq_ x_ z_=>((λq_ h_=>h_) _ x_).elim (λy_=>cI q_ y_ z_) (λy_=>(λy_=>cL q_ y_ z_) y_);have bw:∀q_,(λq_=>own a4 q_\/own a5 q_) q_->¬own au q_:=λq_ x_ z_=>((λq_ h_=>h_) _ x_).elim (λy_=>cJ q_ y_ z_) (λy_=>(λy_=>cM q_ y_ z_) y_);have bx:∀q_,(λq_=>own a4 q_\/own a5 q_) q_->w.heap.size<=q_:=λq_ x_=>((λq_ h_=>h_) _ x_).elim (λy_=>bW q_ y_) (λy_=>(λy_=>bX q_ y_) y_);replace a0:=(a0.ext av).kp aw;have cT:¬own aS a8:=aB.not bt a0.lt;have bZ:¬own aS ad:=aB.not bu a7.lt;replace a6:=(a6.ext av).kO aw (Aa cO);have cU:∀q_,own aS q_->¬own a1 q_:=aB.apart bv a6.oL;replace ab:=(ab.ext av).kO aw (Aa cP);have cV:∀q_,own aS q_->¬own au q_:=aB.apart bw ab.oL;replace K0:=(K0.ext av).n1 aw;have cW:∀q_,own aS q_->w.heap.size<=q_:=aB.ge bx K0.size;have cX:¬own aT a8:=aC.not bt a0.lt;have c0:¬own aT ad:=aC.not bu a7.lt;have cY:∀q_,own aT q_->¬own a1 q_:=aC.apart bv a6.oL;have cZ:∀q_,own aT q_->¬own au q_:=aC.apart bw ab.oL;have d0:∀q_,own aT q_->w.heap.size<=q_:=aC.ge bx K0.size;clear aB aC;replace a7:=a7.keep aU bu;refine jR<|jS a7 ?_;intro ej a7 aD;refine jG ?_;refine kC i ?_;have e:=Vr (c:=(C0 (Bh (ms.map Ab.d)),[])) hd;refine ih4 (i+1) _ _ ?_ Zo;rw[e];replace a0:=(a0.keep aU bt).kp aD;replace a6:=(a6.kO aU (Zf bv)).kO aD (Aa bi);replace ab:=(ab.kO aU (Zf bw)).kO aD (Aa bm);replace K0:=(K0.new aU bx).n1 aD;replace bq:=bq.kO aD (Aa bZ);replace bs:=bs.kO aD (Aa c0);refine⟨_,_,_,_,⟨rfl,rfl,rfl,rfl,rfl,trivial⟩,K0,a0,a7,a6,ab,bq,bs,cT,bZ,cU,cV,cS,cW,cX,c0,cY,cZ,d0,?_,?_⟩
  ·omega
  exact hG.step (hU d (BH hd))
 intro hc96;rw[Xs (show(uniq (Bh ds)).length<=i by omega)]at ae af a7;refine jG ?_;refine kE (Er rfl rfl rfl) ?_;refine jF ?_ ?_
 ·intro hc112;refine jG ?_;refine jV (AO (cells:=#[.slice none 0 0,.slice none 0 0]) Zk) ?_;refine jR<|jS a0 ?_;intro ek a0 b4;refine jG ?_;refine Ai.retCT (x:= .int .i64 4) (cs:=#[.slice none 0 0,.slice none 0 0]) func205 rfl ty31 rfl rfl a0.cl rfl ?_;rw[(Gf hM hD).1 Zo];replace a7:=a7.kp b4;replace ae:=ae.kO b4 (Aa bo);replace af:=af.kO b4 (Aa bp);replace K0:=K0.n1 b4;exact⟨_,rfl,none,0,none,0,rfl,Af.nil _ _,Af.nil _ _,λ_ h_=>absurd h_ (Ad _),λ_ h_=>absurd h_ (Ad _),λ_ h_=>absurd h_ (Ad _),K0⟩
 intro hc112;refine jG ?_;refine jR<|jS a0 ?_;intro em a0 bz;refine jG ?_;refine Ai.retCT (x:= .int .i64 0) (cs:=#[.slice a4 (((Cu ms ds).1).length) c4,.slice a5 (((Cu ms ds).2).length) c5]) func205 rfl ty31 rfl rfl a0.cl rfl ?_;rw[(Gf hM hD).2 Zo];replace ae:=ae.kO bz (Aa bo);replace af:=af.kO bz (Aa bp);replace K0:=K0.n1 bz;exact⟨_,rfl,a4,c4,a5,c5,rfl,ae,af,bV,bW,bX,K0⟩
end Go.Proofs.YtjkaicjmfgekjaaGreatDoor
