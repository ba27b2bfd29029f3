/-
  Ne
-/
import Derived.Test.YtjkaicjmfgekjaaGreatDoorPcMy
set_option linter.all false
set_option maxRecDepth 100000
set_option maxHeartbeats 4000000
namespace Go.Proofs.YtjkaicjmfgekjaaGreatDoor
open Go.Proofs.Tryz
attribute [local irreducible] RD RS AB RL RA RT CB Ai
open Go.Shelf
def keysLK_ren :Go.Shelf.Ren:=⟨fun|7=>123|10=>188|n=>n,fun|23=>92|26=>9|3=>28|28=>178|0=>0|27=>177|33=>37|4=>4|n=>n,fun|n=>n⟩
def keysLK :Go.Proofs.SlLaysZ.n7 prog keysLK_ren:={
 mixed:=by kernel_rfl
 f7:=⟨Tryz.f123.name,by decide,func123.trans (congrArg some Zk)⟩
 f10:=⟨Tryz.f188.name,by decide,func188.trans (congrArg some Zk)⟩
 t0:=underlying0
 a0:=Tryz.isAgg0
 z0:=Tryz.sizeOf0
 v0:=Tryz.zeroValue0
 t4:=underlying4
 a4:=Tryz.isAgg4
 z4:=Tryz.sizeOf4
 v4:=Tryz.zeroValue4
 t23:=underlying92
 a23:=Tryz.isAgg92
 z23:=Tryz.sizeOf92
 v23:=Tryz.zeroValue92
 t26:=underlying9
 a26:=Tryz.isAgg9
 z26:=Tryz.sizeOf9
 v26:=Tryz.zeroValue9
 t27:=underlying177
 a27:=Tryz.isAgg177
 z27:=Tryz.sizeOf177
 v27:=Tryz.zeroValue177
 t28:=underlying178
 a28:=Tryz.isAgg178
 z28:=Tryz.sizeOf178
 v28:=Tryz.zeroValue178
 t33:=underlying37
 a33:=Tryz.isAgg37
 z33:=Tryz.sizeOf37
 v33:=Tryz.zeroValue37}
open Go.RowKit Go.Maps Go.Sort
def Z7 (mb:Option Nat)(W:World):CallsIn Fence.wide 5 prog 123 #[.map mb] W λe w'=>e= .returned (.func (.func 188) #[] #[jp W.heap.size])/\w'=W.alloc (.cells #[.map mb] 92):=
 AnyZ.keys_in keysLK Fence.wide 5 trivial rfl mb W
def Wk {H:Type}(b nn:Nat)(D0:DataW H)(R:Value->Option (DataW H×List MemPlace))(w:World)(hown:w.ownsMap prog 9 R b nn D0)(hmax:Maps.size D0<=maxLen)(hbytes:Maps.size D0*16<=140737488355328):
  CallsIn Fence.wide 5 prog 106 #[.func (.func 188) #[] #[jp w.heap.size]] (w.alloc (.cells #[.map (some b)] 92)) λe w'=>∃(v:Value) (ss:List (List UInt8)),e= .returned v/\ss.Perm (strKeys D0)/\
   w'.ownsRow (w.alloc (.cells #[.map (some b)] 92)).heap.size 9 1 v ss.length ((ss.mergeSort (λx y=>decide (x<=y))).map encStr)/\(v= .slice none 0 0↔ss=[])/\RowKit.Below (w.alloc (.cells #[.map (some b)] 92)).heap.size (w.alloc (.cells #[.map (some b)] 92)) w':=by
 have hbl:=hown.lt;have hseq:SeqGives Fence.wide 2 prog 188 #[jp w.heap.size] encStr (λss=>ss.Perm (strKeys D0)) (Maps.size D0) (w.alloc (.cells #[.map (some b)] 92)):=
  AnyZ.keys_gives (ρ:=keysLK_ren) {keysLK with} Fence.wide _ trivial rfl Zo w.heap.size b nn D0 _ Zs Zs (by
   obtain⟨es,clock,hb,Ft,hs,hD⟩:=hown;exact⟨es,clock,(Below.heap_alloc _ _ b hbl).trans hb,Ft,hs,hD⟩)
 exact AnyZ.sorted_in sortedL Fence.wide 5 trivial trivial trivial trivial rfl Zo (Qa _) (C1 func167 rfl Zk) 188 #[jp w.heap.size] trivial (C1 func188 rfl Zk) _ _ hmax hbytes _ hseq
def Z8 (m:Nat)(w:World):Calls prog 123 #[.map (some m)] w (AU λv w'=>v= .func (.func 188) #[] #[jp w.heap.size]/\w'=w.alloc (.cells #[.map (some m)] 92)):=
 (callsIn_wide.1 (Z7 (some m) w)).mono λe w' h=>⟨_,h.1,rfl,h.2⟩
def Wl {ps:List (ByteArray×Value)}(m:Nat)(w:World)(h:Aq w m ps)(hk:∀p∈ps,p.1.size<=4294967295)(hl:ps.length<=4294967295):
  Calls prog 106 #[.func (.func 188) #[] #[jp w.heap.size]] (w.alloc (.cells #[.map (some m)] 92)) (AU λv w'=>∃a c,v= .slice a (AV (ps.map (·.1))).length c/\Af w' 9 a c (AV (ps.map (·.1)))/\
   (∀q,own a q->(w.alloc (.cells #[.map (some m)] 92)).heap.size<=q)/\As (w.alloc (.cells #[.map (some m)] 92)) w'):=by
 obtain⟨D,h1,h2,h3⟩:=HV h (λp hp=>by have:=hk p hp;simp only[maxLen];omega) (by simp only[maxLen];omega);refine(callsIn_wide.1 (Wk m _ D _ w h1 (by rw[h3];simp only[maxLen];omega) (by rw[h3];omega))).mono λe w' he=> ?_;obtain⟨v,ss,rfl,hS,hrow,-,hb⟩:=he;have e1:(ss.mergeSort leB).map encStr=AS (AV (ps.map (·.1))):=by
  rw[mergeSort_of_perm (hS.trans h2),AV,KT,Aat];rfl
 have e2:ss.length=(AV (ps.map (·.1))).length:=by rw[hS.length_eq,h2.length_eq,BN.length_eq];simp
 obtain⟨a,c,rfl,h4,h5⟩:=G4 (xs:=AV (ps.map (·.1))) (by rw[<-e1];exact hrow) e2;exact⟨_,rfl,a,c,rfl,h4,h5,Fe hb⟩
end Go.Proofs.YtjkaicjmfgekjaaGreatDoor
