/-
  Dk
-/
import Derived.Shelf.SlIter.Nil
import Derived.Shelf.SortM.Plain
import Derived.Shelf.SortM.SortNone
import Derived.Ground.GgzProg
import Derived.Ground.SlgmProg
import Derived.StringKeys
import Derived.Test.YtjkaicjmfgekjaaGreatDoorPcDa
set_option linter.all false
set_option maxRecDepth 100000
set_option maxHeartbeats 4000000
namespace Go.Proofs.YtjkaicjmfgekjaaGreatDoor
open Go.Proofs.Tryz
attribute [local irreducible] RD RS AB RL RA RT CB Ai
open Go.Shelf
def keysL_ren :Go.Shelf.Ren:=⟨fun|7=>111|10=>175|n=>n,fun|23=>118|26=>9|3=>121|28=>178|0=>0|27=>177|33=>37|4=>4|n=>n,fun|n=>n⟩
def keysL :Go.Proofs.SlLaysZ.n7 prog keysL_ren:={
 mixed:=by kernel_rfl
 f7:=⟨Tryz.f111.name,by decide,func111.trans (congrArg some Zk)⟩
 f10:=⟨Tryz.f175.name,by decide,func175.trans (congrArg some Zk)⟩
 t0:=underlying0
 a0:=Tryz.isAgg0
 z0:=Tryz.sizeOf0
 v0:=Tryz.zeroValue0
 t4:=underlying4
 a4:=Tryz.isAgg4
 z4:=Tryz.sizeOf4
 v4:=Tryz.zeroValue4
 t23:=underlying118
 a23:=Tryz.isAgg118
 z23:=Tryz.sizeOf118
 v23:=Tryz.zeroValue118
 t26:=underlying9
 a26:=Tryz.isAgg9
 z26:=Tryz.sizeOf9
 v26:=Tryz.zeroValue9
 t27:=underlying177
 a27:=Tryz.isAgg177
 z27:=Tryz.sizeOf177
 v27:=Tryz.zeroValue177
 t28:=underlying178
 a28:=Tryz.isAgg178
 z28:=Tryz.sizeOf178
 v28:=Tryz.zeroValue178
 t33:=underlying37
 a33:=Tryz.isAgg37
 z33:=Tryz.sizeOf37
 v33:=Tryz.zeroValue37}
def sortedL_ren :Go.Shelf.Ren:=⟨fun|6=>106|8=>166|9=>167|11=>219|13=>210|12=>220|23=>254|24=>255|14=>262|15=>263|16=>264|17=>265|18=>266|19=>267|20=>268|21=>269|22=>270|25=>309|26=>285|27=>286|28=>310|29=>311|30=>312|31=>343|n=>n,fun|26=>9|28=>178|24=>51|0=>0|3=>3|37=>106|48=>84|50=>74|4=>4|40=>299|39=>298|45=>228|5=>5|9=>9|51=>325|55=>318|57=>360|58=>361|33=>37|n=>n,fun|n=>n⟩
def sortedL :Go.Proofs.SlLaysZ.n6 prog sortedL_ren:={
 mixed:=by kernel_rfl
 f6:=⟨Tryz.f106.name,by decide,func106.trans (congrArg some Zk)⟩
 f8:=⟨Tryz.f166.name,by decide,func166.trans (congrArg some Zk)⟩
 f11:=⟨Tryz.f219.name,by decide,func219.trans (congrArg some Zk)⟩
 t0:=underlying0
 a0:=Tryz.isAgg0
 z0:=Tryz.sizeOf0
 v0:=Tryz.zeroValue0
 t24:=underlying51
 a24:=Tryz.isAgg51
 z24:=Tryz.sizeOf51
 v24:=Tryz.zeroValue51
 t26:=underlying9
 a26:=Tryz.isAgg9
 z26:=Tryz.sizeOf9
 v26:=Tryz.zeroValue9
 t28:=underlying178
 a28:=Tryz.isAgg178
 z28:=Tryz.sizeOf178
 v28:=Tryz.zeroValue178
 i26:=by kernel_rfl}
def sortL_ren :Go.Shelf.Ren:=⟨fun|6=>167|8=>210|9=>220|19=>254|20=>255|21=>262|22=>263|23=>264|24=>265|25=>266|26=>267|27=>268|28=>269|29=>270|36=>309|31=>285|32=>286|37=>310|38=>311|39=>312|41=>343|n=>n,fun|27=>51|29=>9|3=>3|32=>106|26=>51|0=>0|44=>84|46=>74|4=>4|36=>299|35=>298|41=>228|5=>5|9=>9|53=>325|57=>318|63=>360|64=>361|n=>n,fun|n=>n⟩
def sortL :Go.Proofs.SlLaysM.n6 prog sortL_ren:={
 mixed:=by kernel_rfl
 f6:=⟨Tryz.f167.name,by decide,func167.trans (congrArg some Zk)⟩
 f8:=func210.trans (congrArg some Zk)
 f9:=⟨Tryz.f220.name,by decide,func220.trans (congrArg some Zk)⟩
 f19:=func254.trans (congrArg some Zk)
 f20:=func255.trans (congrArg some Zk)
 f21:=⟨Tryz.f262.name,by decide,func262.trans (congrArg some Zk)⟩
 f22:=⟨Tryz.f263.name,by decide,func263.trans (congrArg some Zk)⟩
 f23:=⟨Tryz.f264.name,by decide,func264.trans (congrArg some Zk)⟩
 f24:=⟨Tryz.f265.name,by decide,func265.trans (congrArg some Zk)⟩
 f25:=⟨Tryz.f266.name,by decide,func266.trans (congrArg some Zk)⟩
 f26:=⟨Tryz.f267.name,by decide,func267.trans (congrArg some Zk)⟩
 f27:=⟨Tryz.f268.name,by decide,func268.trans (congrArg some Zk)⟩
 f28:=⟨Tryz.f269.name,by decide,func269.trans (congrArg some Zk)⟩
 f29:=⟨Tryz.f270.name,by decide,func270.trans (congrArg some Zk)⟩
 f31:=func285.trans (congrArg some Zk)
 f32:=func286.trans (congrArg some Zk)
 f36:=⟨Tryz.f309.name,by decide,func309.trans (congrArg some Zk)⟩
 f37:=⟨Tryz.f310.name,by decide,func310.trans (congrArg some Zk)⟩
 f38:=⟨Tryz.f311.name,by decide,func311.trans (congrArg some Zk)⟩
 f39:=⟨Tryz.f312.name,by decide,func312.trans (congrArg some Zk)⟩
 f41:=⟨Tryz.f343.name,by decide,func343.trans (congrArg some Zk)⟩
 t0:=underlying0
 a0:=Tryz.isAgg0
 z0:=Tryz.sizeOf0
 v0:=Tryz.zeroValue0
 t3:=underlying3
 a3:=Tryz.isAgg3
 z3:=Tryz.sizeOf3
 v3:=Tryz.zeroValue3
 t4:=underlying4
 a4:=Tryz.isAgg4
 z4:=Tryz.sizeOf4
 v4:=Tryz.zeroValue4
 t5:=underlying5
 a5:=Tryz.isAgg5
 z5:=Tryz.sizeOf5
 v5:=Tryz.zeroValue5
 t9:=underlying9
 a9:=Tryz.isAgg9
 z9:=Tryz.sizeOf9
 v9:=Tryz.zeroValue9
 t26:=underlying51
 a26:=Tryz.isAgg51
 z26:=Tryz.sizeOf51
 v26:=Tryz.zeroValue51
 t27:=underlying51
 a27:=Tryz.isAgg51
 z27:=Tryz.sizeOf51
 v27:=Tryz.zeroValue51
 t29:=underlying9
 a29:=Tryz.isAgg9
 z29:=Tryz.sizeOf9
 v29:=Tryz.zeroValue9
 t32:=underlying106
 a32:=Tryz.isAgg106
 z32:=Tryz.sizeOf106
 v32:=Tryz.zeroValue106
 t35:=underlying298
 a35:=Tryz.isAgg298
 z35:=Tryz.sizeOf298
 v35:=Tryz.zeroValue298
 t36:=underlying299
 a36:=Tryz.isAgg299
 z36:=Tryz.sizeOf299
 v36:=Tryz.zeroValue299
 t41:=underlying228
 a41:=Tryz.isAgg228
 z41:=Tryz.sizeOf228
 v41:=Tryz.zeroValue228
 t44:=underlying84
 a44:=Tryz.isAgg84
 z44:=Tryz.sizeOf84
 v44:=Tryz.zeroValue84
 t46:=underlying74
 a46:=Tryz.isAgg74
 z46:=Tryz.sizeOf74
 v46:=Tryz.zeroValue74
 t53:=underlying325
 a53:=Tryz.isAgg325
 z53:=Tryz.sizeOf325
 v53:=Tryz.zeroValue325
 t57:=underlying318
 a57:=Tryz.isAgg318
 z57:=Tryz.sizeOf318
 v57:=Tryz.zeroValue318
 t63:=underlying360
 a63:=Tryz.isAgg360
 z63:=Tryz.sizeOf360
 v63:=Tryz.zeroValue360
 t64:=underlying361
 a64:=Tryz.isAgg361
 z64:=Tryz.sizeOf361
 v64:=Tryz.zeroValue361}
open Go.RowKit Go.Maps Go.Sort
def Qa (m:Nat):AnyZ.SortsIn prog sortedL_ren Fence.wide m:=
  ⟨λblk off cap ss W hH hblk hsz=>callsIn_wide.2 (AnyM.slices_Sort_string sortL blk off cap ss W hH hblk hsz),
   λp cap W=>callsIn_wide.2 (AnyM.slices_Sort_string_none sortL p cap W)⟩
def gS (mb:Option Nat)(W:World):CallsIn Fence.wide 5 prog 111 #[.map mb] W λe w'=>e= .returned (.func (.func 175) #[] #[jp W.heap.size])/\w'=W.alloc (.cells #[.map mb] 118):=
 AnyZ.keys_in keysL Fence.wide 5 trivial rfl mb W
def WL {H:Type}(b nn:Nat)(D0:DataW H)(R:Value->Option (DataW H×List MemPlace))(w:World)(hown:w.ownsMap prog 9 R b nn D0)(hmax:Maps.size D0<=maxLen)(hbytes:Maps.size D0*16<=140737488355328):
  CallsIn Fence.wide 5 prog 106 #[.func (.func 175) #[] #[jp w.heap.size]] (w.alloc (.cells #[.map (some b)] 118)) λe w'=>∃(v:Value) (ss:List (List UInt8)),e= .returned v/\ss.Perm (strKeys D0)/\
   w'.ownsRow (w.alloc (.cells #[.map (some b)] 118)).heap.size 9 1 v ss.length ((ss.mergeSort (λx y=>decide (x<=y))).map encStr)/\(v= .slice none 0 0↔ss=[])/\RowKit.Below (w.alloc (.cells #[.map (some b)] 118)).heap.size (w.alloc (.cells #[.map (some b)] 118)) w':=by
 have hbl:=hown.lt;have hseq:SeqGives Fence.wide 2 prog 175 #[jp w.heap.size] encStr (λss=>ss.Perm (strKeys D0)) (Maps.size D0) (w.alloc (.cells #[.map (some b)] 118)):=
  AnyZ.keys_gives (ρ:=keysL_ren) {keysL with} Fence.wide _ trivial rfl Zo w.heap.size b nn D0 _ Zs Zs (by
   obtain⟨es,clock,hb,Ft,hs,hD⟩:=hown;exact⟨es,clock,(Below.heap_alloc _ _ b hbl).trans hb,Ft,hs,hD⟩)
 exact AnyZ.sorted_in sortedL Fence.wide 5 trivial trivial trivial trivial rfl Zo (Qa _) (C1 func167 rfl Zk) 175 #[jp w.heap.size] trivial (C1 func175 rfl Zk) _ _ hmax hbytes _ hseq
def HV {w:World}{m:Nat}{ps:List (ByteArray×Value)}(h:Aq w m ps)(hk:∀p∈ps,p.1.size<=maxLen)(hl:ps.length<=maxLen):
  ∃D:DataW Unit,w.ownsMap prog 9 (λ_=>some (.lit (.bool true),[])) m ps.length D/\(strKeys D).Perm (ps.map (·.1.data.toList))/\Maps.size D=ps.length:=by
 obtain⟨⟨es,clock,h1,h2,h3,h4⟩,h5⟩:=h;have hlen:es.size=ps.length:=by have:=congrArg List.length h2;simpa using this
 have hkeys:es.toList.map (·.key)=ps.map (λp=>Value.string p.1):=by have:=congrArg (List.map (·.1)) h2;rw[Aat,Aat]at this;exact this
 have hrd:∀x∈es.toList,∃s:ByteArray,x.key= .string s/\s.size<=maxLen:=by
  intro x hx;have:x.key∈ps.map (λp=>Value.string p.1):=by rw[<-hkeys];exact List.mem_map.2 ⟨x,hx,rfl⟩
  obtain⟨p,hp,e⟩:=List.mem_map.1 this;exact⟨p.1,e.symm,hk p hp⟩
 have hfit:WideElems.Fit (H:=Unit) prog 9 (λ_=>some (.lit (.bool true),[])) es clock:=by
  refine⟨by omega,⟨h4,h3,?_⟩,?_⟩
  ·rw[hkeys];have:(ps.map λp=>Value.string p.1)=(ps.map (·.1)).map Value.string:=by rw[Aat];rfl
   rw[this,List.Nodup,AbZ];exact h5.imp λhne e=>hne (by injection e)
  intro x hx;obtain⟨s,e,hs⟩:=hrd x hx;exact⟨(.string s.data.toList,.lit (.bool true)),by simp[WideElems.rd,e,WideMaps.keyOf_string_mk underlying9 hs]⟩
 refine⟨_,⟨es,clock,h1,hfit,by omega,rfl⟩,?_,?_⟩
 ·have hp:((es.toList.map (WideElems.rg (H:=Unit) prog 9 λ_=>some (.lit (.bool true),[]))).foldr DataW.insert []).Perm (es.toList.map (WideElems.rg prog 9 λ_=>some (.lit (.bool true),[]))):=WideShapes.sorted_perm _;refine(hp.map (λp=>strOf p.1)).trans ?_;rw[Aat];have e:es.toList.map ((λp=>strOf p.1)∘WideElems.rg (H:=Unit) prog 9 λ_=>some (.lit (.bool true),[]))=ps.map (·.1.data.toList):=by
   have h6:ps.map (·.1.data.toList)=(es.toList.map (·.key)).map (λv=>match v with| .string s=>s.data.toList|_=>[]):=by rw[hkeys,Aat];rfl
   rw[h6,Aat];refine AaE λx hx=> ?_;obtain⟨s,e,hs⟩:=hrd x hx;simp[Function.comp,WideElems.rg,WideElems.rd,e,WideMaps.keyOf_string_mk underlying9 hs,strOf]
  rw[e]
 show((es.toList.map _).foldr DataW.insert []).length=ps.length
 rw[length_sorted,Aad,AaA,hlen]
def AV (l:List ByteArray):List ByteArray:=((l.map (·.data.toList)).mergeSort leB).map (λb=>⟨b.toArray⟩)
def BV (pl:List PF):List ByteArray:=AV (pl.map (·.name))
def HW {l l':List ByteArray}(p:l.Perm l'):AV l=AV l':=by rw[AV,AV,mergeSort_of_perm (p.map _)]
def OA {pl pl':List PF}(p:pl.Perm pl'):BV pl=BV pl':=HW (p.map _)
def SD (s:ByteArray):(⟨s.data.toList.toArray⟩:ByteArray)=s:=by cases s;simp
def BN {l:List ByteArray}:(AV l).Perm l:=by
 unfold AV;refine((Ab0 _ _).map _).trans ?_;rw[Aat];have:((λb=>(⟨b.toArray⟩:ByteArray))∘λ(s:ByteArray)=>s.data.toList)=id:=funext λs=>SD s
 rw[this,List.map_id]
def KT (l:List (List UInt8)):AS (l.map λb=>(⟨b.toArray⟩:ByteArray))=l.map encStr:=by
 induction l with
 |nil=>rfl
 |cons x l ih=>rw[Aaf,Cd,ih];rfl
def G4 {w:World}{B n:Nat}{v:Value}{xs:List ByteArray}(h:w.ownsRow B 9 1 v n (AS xs))(hn:n=xs.length):∃a c,v= .slice a xs.length c/\Af w 9 a c xs/\∀q,own a q->B<=q:=by
 subst hn;obtain⟨h1,h2⟩:=h;rcases h2 with⟨rfl,h0⟩|⟨g,cap,cur,rfl,h3,h4⟩
 ·have:xs=[]:=AaM h0
  subst this;exact⟨none,0,rfl,Af.nil _ _,λq h=>absurd h (Ad q)⟩
 exact⟨some ⟨g,0,none⟩,cap,rfl,⟨AH _,.inr ⟨g,cap,cur,rfl,Aal _,h4⟩⟩,λq h=>by rw[CS]at h;subst h;exact h3⟩
def Fe {w w':World}(h:RowKit.Below w.heap.size w w'):As w w':=⟨h.os,h.tape,h.output,h.size,λk hk _=>h.block k hk⟩
def gU (m:Nat)(w:World):Calls prog 111 #[.map (some m)] w (AU λv w'=>v= .func (.func 175) #[] #[jp w.heap.size]/\w'=w.alloc (.cells #[.map (some m)] 118)):=
 (callsIn_wide.1 (gS (some m) w)).mono λe w' h=>⟨_,h.1,rfl,h.2⟩
def WM {ps:List (ByteArray×Value)}(m:Nat)(w:World)(h:Aq w m ps)(hk:∀p∈ps,p.1.size<=4294967295)(hl:ps.length<=4294967295):
  Calls prog 106 #[.func (.func 175) #[] #[jp w.heap.size]] (w.alloc (.cells #[.map (some m)] 118)) (AU λv w'=>∃a c,v= .slice a (AV (ps.map (·.1))).length c/\Af w' 9 a c (AV (ps.map (·.1)))/\
   (∀q,own a q->(w.alloc (.cells #[.map (some m)] 118)).heap.size<=q)/\As (w.alloc (.cells #[.map (some m)] 118)) w'):=by
 obtain⟨D,h1,h2,h3⟩:=HV h (λp hp=>by have:=hk p hp;simp only[maxLen];omega) (by simp only[maxLen];omega);refine(callsIn_wide.1 (WL m _ D _ w h1 (by rw[h3];simp only[maxLen];omega) (by rw[h3];omega))).mono λe w' he=> ?_;obtain⟨v,ss,rfl,hS,hrow,-,hb⟩:=he;have e1:(ss.mergeSort leB).map encStr=AS (AV (ps.map (·.1))):=by
  rw[mergeSort_of_perm (hS.trans h2),AV,KT,Aat];rfl
 have e2:ss.length=(AV (ps.map (·.1))).length:=by rw[hS.length_eq,h2.length_eq,BN.length_eq];simp
 obtain⟨a,c,rfl,h4,h5⟩:=G4 (xs:=AV (ps.map (·.1))) (by rw[<-e1];exact hrow) e2;exact⟨_,rfl,a,c,rfl,h4,h5,Fe hb⟩
attribute [local irreducible] X
def YN (d m:Nat)(room:Int)(fs:List Am)(w:World)(hD:Bv w d m room fs):
  Calls prog 57 #[jp d] w (AU (λv w'=>∃a c,v= .slice a (AV ((BG fs).map (·.1))).length c/\Af w' 9 a c (AV ((BG fs).map (·.1)))/\(∀q,own a q->w.heap.size<=q)/\As w w')):=by
 obtain⟨hB,hM,hF,hmd,hfd,hfm,hok⟩:=hD;have hnd:=Bv.names hok;have hlens:=Ce.lens hok;have hroom:=hok.room;have hused:=hok.used;have hcnt:=hok.len;rw[Aad]at hcnt;have hel:(BG fs).length=fs.length:=Aad ..;have hks:∀p∈BG fs,p.1.size<=4294967295:=by
  intro p hp;obtain⟨f,hf,rfl⟩:=List.mem_map.1 hp;have:=hok.may f.p (List.mem_map.2 ⟨f,hf,rfl⟩);simp only[CW,Aao,decide_eq_true_eq]at this;have h2:f.p.name=f.name:=rfl;rw[h2]at this
  show f.name.size<=4294967295
  omega
 refine kD (n:=12) func57 ?_;refine kS (Rk d m room fs _ (⟨hB,hM,hF,hmd,hfd,hfm,hok⟩:Bv _ d m room fs)) ?_;rintro _ _ ⟨rfl,rfl⟩;refine kE (Bp (b:=true) rfl) ?_;refine kH ?_;refine kS (gU m _) ?_;rintro _ _ ⟨rfl,rfl⟩;have hM0:=hM;have a1:As w (w.alloc (.cells #[.map (some m)] 118)):=As.push _ _;have K0:=(a1:As w _);refine kS (WM m w hM0 hks Zo) ?_;rintro _ a7 ⟨a2,a3,rfl,a4,a0,a5⟩;have a6:=Bg K0.size a0;clear a0;refine kL func57 ?_;replace K0:=K0.ext a5;exact⟨_,rfl,a2,a3,rfl,a4,a6,K0⟩
def YO {w:World}{d:Nat}{F:Nat->Prop}{room:Int}{pl:List PF}(h:AJ w d F room pl):Calls prog 57 #[jp d] w (AU λv w'=>∃a c,v= .slice a (BV pl).length c/\Af w' 9 a c (BV pl)/\(∀q,own a q->w.heap.size<=q)/\As w w'):=by
 obtain⟨m,fs,rfl,hp,hO⟩:=h;have e:AV ((BG fs).map (·.1))=BV pl:=by rw[Hg,<-Ij];exact OA hp
 have:=YN d m room fs w hO
 rwa[e]at this
end Go.Proofs.YtjkaicjmfgekjaaGreatDoor
