/-
  App
-/
import Derived.Test.YtjkaicjmfgekjaaGreatDoorPcLoop
import Derived.Lib.AppendStr
set_option linter.all false
namespace Go.Proofs.YtjkaicjmfgekjaaGreatDoor
def LV (s:ByteArray):Lib.strCells s=AS s.data.toList:=(HQ _).symm
def Of (s:ByteArray):s.data.toList.length=s.size:=by rw[AaA];rfl
section
variable {P :Program}{w:World}
def LW {t u e ty:TypeId}{z:Value}{agg:Bool}(ht:P.underlying t=some (.slice e))(hu:P.underlying u=some .string)(he:Ty P e 1 1 z agg)(hzs:z.cells.size=1)
  {a:Option Addr} {cap:Nat} {xs:List UInt8} {s:ByteArray} (hown:Af w e a cap xs) (h63:xs.length+s.size<=4294967296):
  ∃a' cap' w',(Builtin.append_ #[t,u] ty #[.slice a xs.length cap,.string s]).run P w= .ok (.slice a' (xs++s.data.toList).length cap') w'/\Af w' e a' cap' (xs++s.data.toList)/\Ae (own a) w w'/\T8 w a a':=by
 obtain⟨i,hi,hz,hs,hby⟩:=he.info;have hS:=Of s;have hL:(xs++s.data.toList).length=xs.length+s.size:=by rw[Aab,hS]
 have e1:(AS xs).length=xs.length:=by rw[AH];exact Abw _
 have e2:(Lib.strCells s).length=s.size:=Lib.strCells_length s;have e3:AS (xs++s.data.toList)=AS xs++Lib.strCells s:=by rw[Eb,LV]
 have grown:∀(old:Nat),old<xs.length+s.size->
   Af (w.drew.alloc (.cells ((AS xs).toArray++(Lib.strCells s).toArray++Builtin.zeroCells z.cells (grownCap w (xs.length+s.size) old e-(xs.length+s.size))) e)) e
    (some ⟨w.heap.size,0,none⟩) (grownCap w (xs.length+s.size) old e) (xs++s.data.toList)/\
   Ae (own a) w (w.drew.alloc (.cells ((AS xs).toArray++(Lib.strCells s).toArray++Builtin.zeroCells z.cells (grownCap w (xs.length+s.size) old e-(xs.length+s.size))) e)):=by
  intro old ho;have hge:=grownCap_ge w (xs.length+s.size) old e;have hcm:grownCap w (xs.length+s.size) old e<=maxLen:=grownCap_le_maxLen w _ old e (by simp only[maxLen];omega);refine⟨⟨AH _,.inr ⟨w.heap.size,_,_,by rw[hL],Aal _,heap_alloc_new w.drew _,by rw[hL];exact hge,hcm,?_,?_⟩⟩,
   ⟨rfl,rfl,rfl,by simp,λk hk _=>heap_alloc_old w.drew _ k hk⟩⟩
  ·simp only[Ab6,Aa8,size_zeroCells,hzs,e1,e2];show _=_*1
   omega
  rw[e3];simp only[Array.toList_append,Aar];rw[<-Aar,hL,show(xs.length+s.size)*Enc.size UInt8=(AS xs++Lib.strCells s).length by rw[Aab,e1,e2];exact Abw _];exact AbH
 rcases hown.cases with⟨rfl,rfl,rfl⟩|⟨g,cur,rfl,hg,hnc,hcm,hcs,htake⟩
 ·by_cases hm:s.size=0
  ·have hy:s.data.toList=[]:=AaM Zo;refine⟨none,0,w,?_,by rw[hy];exact hown,Ae.refl _ w,(λx' hx'=>by cases hx')⟩;have hf:=Lib.run_firstCells_string (P:=P) w 1 s;rw[hm]at hf;simp[Builtin.append_,run_underlying ht,run_underlying hu,sizeOf,typeInfo,hi,hs,Builtin.lenOf,hm,hf]
  have hr:=run_append_nil_string (P:=P) w t u ty e i z ht hu hi hz s Zo Zo (by rw[hby];simp only[Aas]at h63;omega);have hgr:=grown 0 Zi;have e4:(s.data.map λb=>Value.int .u8 b.toNat)=(Lib.strCells s).toArray:=by
   apply Array.ext';simp[Lib.strCells]
  rw[e4]at hr;simp only[Aas,Aaq,Aay,AS,AbQ,Array.empty_append]at hgr hr⊢;exact⟨_,_,_,by rw[hS];exact hr,hgr.1,hgr.2,(λx' hx'=> .inr (by simp only[Option.some.injEq]at hx';subst hx';exact Aac _))⟩
 have hcs':cur.size=cap:=hcs.trans (Abw _);have htk:cur.toList.take xs.length=AS xs:=by rw[<-htake];congr 1;exact(Abw _).symm
 by_cases hroom:xs.length+s.size<=cap
 ·have hr:=Lib.run_append_room_string (P:=P) w t u ty e i ht hu hi hs g xs.length cap cur hg s hroom Zo;refine⟨some ⟨g,0,none⟩,cap,_,by rw[hL];exact hr,⟨AH _,.inr ⟨g,cap,_,rfl,Aal _,setRow_heap w g cur _ e _ hg,by rw[hL];exact hroom,hcm,?_,?_⟩⟩,
   ⟨rfl,rfl,rfl,by simp,λk _ hk=>setRow_other w g k _ (λe=>hk (CS.2 e.symm))⟩,λx' hx'=> .inl ⟨x',hx',rfl⟩⟩
  ·simp only[Aa8,Aab,List.length_take,List.length_drop,AaA,e2];show _=_*1
   omega
  rw[htk,hL,e3,show(xs.length+s.size)*Enc.size UInt8=(AS xs++Lib.strCells s).length by rw[Aab,e1,e2];exact Abw _];exact AbH
 have holds:∀j u,(AS xs)[j]? =some u->w.cell? ((⟨g,0,none⟩:Addr).add j)=some u:=λj u hu=>by
  rw[Addr.add_lit];rcases hown.sl with h|⟨b,o,h,hcl⟩
  ·subst h;simp[AS]at hu
  simp only[Option.some.injEq,Addr.mk.injEq]at h;obtain⟨rfl,rfl,_⟩:=h;exact hcl.cell hu
 have hr:=Lib.run_append_grow_string (P:=P) w t u ty e i z ht hu hi hz ⟨g,0,none⟩ xs.length cap (AS xs) (by rw[e1,hs,Abw]) holds s Zo Zo (by rw[hby];exact growslice_fits Zo Zo);have hgr:=grown cap Zo;exact⟨_,_,_,by rw[hL];exact hr,hgr.1,hgr.2,(λx' hx'=> .inr (by simp only[Option.some.injEq]at hx';subst hx';exact Aac _))⟩
end
section
variable {P :Program}{f:FuncId}{n:FN}{R:Ending->World->Prop}{k:List Item}{ρ:Bd}{w:World}
variable {dst :Option Nat}{ty:TypeId}{pos:String}{af:Array Edge}{K:Bd->World->Prop}
def AB.appendStr {t u e:TypeId}{s x:Operand}{z:Value}{agg:Bool}{a:Option Addr}{cap:Nat}{xs:List UInt8}{str:ByteArray}
  (ht:P.underlying t=some (.slice e)) (hu:P.underlying u=some .string) (he:Ty P e 1 1 z agg) (hzs:z.cells.size=1)
  (hs:rd n ρ s= .slice a xs.length cap) (hx:rd n ρ x= .string str) (hown:Af w e a cap xs)
  (h63:xs.length+str.size<=4294967296)
  (h:∀a' cap' w',Af w' e a' cap' (xs++str.data.toList)->Ae (own a) w w'->AR w (own a) (own a')->K (Bj ρ dst (.slice a' (xs++str.data.toList).length cap')) w'):
  AB P f n R k ⟨dst,.call {callee:= .builtin .append,args:=#[s,x],argTypes:=#[t,u]},ty,pos,af,none⟩ ρ w K:=by
 obtain⟨a',cap',w',hr,h1,h2,h3⟩:=LW (P:=P) (w:=w) (ty:=ty) ht hu he hzs hown h63;refine AB.val (v:= .slice a' (xs++str.data.toList).length cap') (w':=w') ?_ (h a' cap' w' h1 h2 (I0 h3));simp only[execOp,resolve,invoke,builtin,Sem.run_bind,Sem.run_pure,Result.andThen_ok,Aa9,Aaf,Aav,hs,hx,hr]
end
end Go.Proofs.YtjkaicjmfgekjaaGreatDoor
