/-
  Cs
-/
import Derived.Test.YtocgdeefgohdhaaGreatRows
import Derived.Test.YtocgdeefgohdhaaGreatPmCq
import Derived.Test.YtocgdeefgohdhaaGreatPmI
set_option linter.all false
set_option maxRecDepth 100000
set_option maxHeartbeats 4000000
namespace Go.Proofs.YtocgdeefgohdhaaGreat
attribute [local irreducible] RD RS St1 RL RA RT RT1 Run
theorem DotU.uniq {l:List EntryC}(h:DotU l){x y:EntryC}(hx:x∈l)(hy:y∈l)(e:x.dot=y.dot):x=y:=by
 obtain⟨i,hi,rfl⟩:=List.getElem_of_mem hx
 obtain⟨j,hj,rfl⟩:=List.getElem_of_mem hy
 rcases Nat.lt_trichotomy i j with hlt|rfl|hlt
 ·exact absurd e (pairwise_at h hlt (List.getElem?_eq_getElem hi) (List.getElem?_eq_getElem hj))
 ·rfl
 ·exact absurd e.symm (pairwise_at h hlt (List.getElem?_eq_getElem hj) (List.getElem?_eq_getElem hi))
theorem keptJ_eq (ms:List MarkC)(cl:List DotC)(es:List EntryC)(ms2:List MarkC)(cl2:List DotC)(es2:List EntryC):sortE (kA es ms2 cl2 es2++kB ms cl es2)=keptJ ms cl es ms2 cl2 es2:=rfl
theorem keptJ_len (ms:List MarkC)(cl:List DotC)(es:List EntryC)(ms2:List MarkC)(cl2:List DotC)(es2:List EntryC):(kA es ms2 cl2 es2++kB ms cl es2).length=(keptJ ms cl es ms2 cl2 es2).length:=(sortE_len _).symm
section
open Go.Shelf Go.RowKit Go.Lib Go.Sort
def cfE {ys:List EntryC}(x y:{e:EntryC//e∈ys}):Int:=ordE x.1 y.1
theorem swoE (ys:List EntryC):SWO (ltOf (cfE (ys:=ys))) where
 irrefl x:=by simp only[ltOf,cfE];exact decide_eq_false (fun h=>ltE_irr _ (ordE_lt.1 h))
 trans x y z h1 h2:=by simp only[ltOf,cfE]at*;exact decide_eq_true (ordE_lt.2 (ltE_trans _ _ _ (ordE_lt.1 (of_decide_eq_true h1)) (ordE_lt.1 (of_decide_eq_true h2))))
 ntrans x y z h1 h2:=by
  simp only[ltOf,cfE,decide_eq_false_iff_not,ordE_lt]at*
  have h:=leE_trans z.1 y.1 x.1 (by simpa[leE]using h2) (by simpa[leE]using h1)
  simpa[leE]using h
theorem sortEY {a:Option Addr}{xs ys:List EntryC}{c:Nat}{w:World}(y0:EntryC)(hy0:y0∈ys)(hsub:∀x∈xs,x∈ys)(ho:OwnSl w 89 a c xs)(hm:∀x∈ys,mayD x.dot)(hu:DotU ys)(hl:xs.length≤4294967295):
  Calls Tryz.prog 163 #[.slice a xs.length c,.func (.func 104) #[] #[]] w (Ret fun v w'=>v= .tuple #[]∧OwnSl w' 89 a c (sortE xs)∧Keeps (own a) w w'):=by
 letI:Inhabited {e:EntryC//e∈ys}:=⟨⟨y0,hy0⟩⟩
 have e:(xs.attachWith (·∈ys) hsub).map Subtype.val=xs:=List.attachWith_map_subtype_val hsub
 have h:=sortOwn (α:={e:EntryC//e∈ys}) (β:=EntryC) sortEL Subtype.val Tryz.isAgg89 Tryz.sizeOf89 cfE (swoE ys)
  (fun x y h1 h2=>by simp only[ltOf,cfE,decide_eq_false_iff_not,ordE_lt]at h1 h2;exact Subtype.ext (hu.uniq x.2 y.2 (ltE_tri h1 h2).2))
  104 (enters_of Tryz.func104 rfl (by kernel_rfl)) (fun x y W=>(ordEG x.1 y.1 W (hm _ x.2).sm (hm _ y.2).sm).mono fun e w' ⟨v,h1,h2,_,h3⟩=>by unfold Gr at h3;exact⟨by rw[h1,h2];rfl,h3⟩) (xs.attachWith (·∈ys) hsub) (by rw[e];exact ho) (by rw[List.length_attachWith];exact hl)
 rw[sort_map Subtype.val (fun x y=> !(ltOf cfE) y x) leE (fun a b=>by simp only[ltOf,cfE,leE,ordE_lt]),e]at h
 exact h
theorem sortEnts {a:Option Addr}{xs:List EntryC}{c:Nat}{w:World}(ho:OwnSl w 89 a c xs)(hm:∀x∈xs,mayD x.dot)(hu:DotU xs)(hl:xs.length≤4294967295):
  Calls Tryz.prog 163 #[.slice a xs.length c,.func (.func 104) #[] #[]] w (Ret fun v w'=>v= .tuple #[]∧OwnSl w' 89 a c (sortE xs)∧Keeps (own a) w w'):=by
 cases xs with
 |cons x t=>exact sortEY (ys:=x::t) x (by simp) (fun _ h=>h) ho hm hu hl
 |nil=>exact sortEY (ys:=[⟨⟨#[]⟩,⟨0,1,1⟩,0,0⟩]) ⟨⟨#[]⟩,⟨0,1,1⟩,0,0⟩ (by simp) (fun _ h=>by cases h) ho (fun x hx=>by rw[List.mem_singleton]at hx;subst hx;unfold mayD;decide) (by simp[DotU]) hl
end
attribute [local irreducible] mayD smD ltD ltM ordD mkN Cov CovR
attribute [local irreducible] ltE cmpE itemsN errE firstE canE canX Gr nameK priceN
attribute [local irreducible] insXE insE keptJ joinC joinE Clash
attribute [local irreducible] kA kB
attribute [local irreducible] X
theorem stays_ (x:EntryC)(am:Option Addr)(ms:List MarkC)(cm:Nat)(ac:Option Addr)(cl:List DotC)(cc:Nat)(ae:Option Addr)(es:List EntryC)(ce:Nat)(w:World)(hs:SlOf w am ms)(ht:SlOf w ac cl)(hse:SlOf w ae es)(hl:ms.length≤4294967295)(hl2:cl.length≤4294967295)(hl3:es.length≤4294967295):
  Calls Tryz.prog 161 #[.agg #[.string ((x).item),.int .i64 (((x).dot).node),.int .i64 (((x).dot).life),.int .i64 (((x).dot).count),.int .i64 ((x).qty),.int .u64 ((x).price)],.agg #[.slice (ae) (es.length) (ce),.slice (am) (ms.length) (cm),.slice (ac) (cl.length) (cc)]] w (Ret (fun v w'=>v= .bool (decide (x∈es∨¬Cov ms cl x.dot))∧Ext w w')):=by
 refine calls_run (n:=17) Tryz.func161 rfl rfl rfl ?_;refine jG ?_;refine jR<|jB ?_;intro a6 a9 a3 a0 a7;have:w.heap.size≤a6:=a3;clear a3;have K0:=(a7:Ext w _);refine jR<|jB ?_;intro aa ab a1 a4 a5;have ad:=ltLe a0.lt a1;have:=Nat.le_trans K0.size a1;clear a1;replace a0:=a0.ext a5;refine jG ?_;replace K0:=K0.ext a5;refine jR<|jC (contains_ent _ _ _ x _ (hse.ext K0) (by omega)) ?_;rintro _ af ⟨rfl,a2⟩;replace a0:=a0.ext a2;replace a4:=a4.ext a2;refine jG ?_;replace K0:=K0.ext a2;refine RL.gcall (vals:=[.agg #[.slice (am) (ms.length) (cm),.slice (ac) (cl.length) (cc)],.agg #[.int .i64 (((x).dot).node),.int .i64 (((x).dot).life),.int .i64 (((x).dot).count)]]) (wantedF rfl rfl rfl rfl) en103.h (fun hg=>(mcons (gvr hg) (mcons (gvr hg) mnil))) (fun hg=>(covers_ am ms cm ac cl cc ((x).dot) _ (hs.ext K0) (ht.ext K0) (by omega) (by omega))) ?_;intro ag a8;refine jG ?_;refine jV (x_or rfl rfl rfl) ?_;refine jG ?_;refine jJ Tryz.func161 ?_;replace K0:=K0.ext a8;exact⟨_,rfl,congrArg Value.bool (by rw[Bool.eq_iff_iff];simp),K0⟩
theorem fewN_ (am:Option Addr)(ms:List MarkC)(cm:Nat)(ac:Option Addr)(cl:List DotC)(cc:Nat)(ae:Option Addr)(es:List EntryC)(ce:Nat)(w:World)(hcap:es.length≤ce)(hs:SlOf w am ms)(ht:SlOf w ac cl)(hse:SlOf w ae es)(hl:ms.length≤4294967295)(hl2:cl.length≤4294967295)(hl3:es.length≤4294967295)(hbad:64<es.length∨32<itemsN es):
  Calls Tryz.prog 164 #[.agg #[.slice (ae) (es.length) (ce),.slice (am) (ms.length) (cm),.slice (ac) (cl.length) (cc)]] w (Ret (fun v w'=>v= .tuple #[.agg #[.slice (none) (0) (0),.slice (none) (0) (0),.slice (none) (0) (0)],.int .i64 51]∧Ext w w')):=by
 refine calls_run (n:=16) Tryz.func164 rfl rfl rfl ?_;refine jG ?_;refine jR<|jB ?_;intro a6 a9 a3 a1 a7;have:w.heap.size≤a6:=a3;clear a3;have K0:=(a7:Ext w _);refine jR<|jA ?_;intro aa ab a2 a0 a4;have ad:=ltLe a1.lt a2;have:=Nat.le_trans K0.size a2;clear a2;replace a1:=a1.ext a4;refine jG ?_;replace K0:=K0.ext a4;refine RL.gcall (vals:=[.slice (ae) (es.length) (ce)]) (wantedF rfl rfl rfl rfl) en88.h (fun hg=>(mcons (gvr hg) mnil)) (fun hg=>(many_ _ es _ _ (hse.ext K0) hcap (by omega))) ?_;intro af a5;refine jG ?_;refine jV (x_or rfl rfl rfl) ?_;refine jG ?_;replace a0:=a0.ext a5;replace K0:=K0.ext a5;refine jF ?_ ?_
 ·intro hc13
  refine jG ?_;refine jV (x_build (cells:=#[.slice (none) (0) (0),.slice (none) (0) (0),.slice (none) (0) (0)]) (by kernel_rfl)) ?_;refine jR<|jS a0 ?_;intro ag a0 a8;refine jG ?_;refine Run.retCT (x:= .int .i64 (51)) (cs:=#[.slice (none) (0) (0),.slice (none) (0) (0),.slice (none) (0) (0)]) Tryz.func164 rfl ty29 rfl rfl a0.cl rfl ?_;replace K0:=K0.n1 a8;exact⟨_,rfl,rfl,K0⟩
 ·intro hc13
  exact absurd hbad (by omega)
theorem fewY_ (am:Option Addr)(ms:List MarkC)(cm:Nat)(ac:Option Addr)(cl:List DotC)(cc:Nat)(ae:Option Addr)(es:List EntryC)(ce:Nat)(w:World)(hcap:es.length≤ce)(hs:SlOf w am ms)(ht:SlOf w ac cl)(hse:SlOf w ae es)(hl:ms.length≤4294967295)(hl2:cl.length≤4294967295)(hl3:es.length≤4294967295)(hbad:¬(64<es.length∨32<itemsN es)):
  Calls Tryz.prog 164 #[.agg #[.slice (ae) (es.length) (ce),.slice (am) (ms.length) (cm),.slice (ac) (cl.length) (cc)]] w (Ret (fun v w'=>v= .tuple #[.agg #[.slice (ae) (es.length) (ce),.slice (am) (ms.length) (cm),.slice (ac) (cl.length) (cc)],.int .i64 0]∧Ext w w')):=by
 refine calls_run (n:=16) Tryz.func164 rfl rfl rfl ?_;refine jG ?_;refine jR<|jB ?_;intro a6 a9 a4 a0 a7;have:w.heap.size≤a6:=a4;clear a4;have K0:=(a7:Ext w _);refine jR<|jA ?_;intro aa ab a2 a1 a5;have ad:=ltLe a0.lt a2;have:=Nat.le_trans K0.size a2;clear a2;replace a0:=a0.ext a5;refine jG ?_;replace K0:=K0.ext a5;refine RL.gcall (vals:=[.slice (ae) (es.length) (ce)]) (wantedF rfl rfl rfl rfl) en88.h (fun hg=>(mcons (gvr hg) mnil)) (fun hg=>(many_ _ es _ _ (hse.ext K0) hcap (by omega))) ?_;intro af a3;refine jG ?_;refine jV (x_or rfl rfl rfl) ?_;refine jG ?_;replace a0:=a0.ext a3;replace a1:=a1.ext a3;replace K0:=K0.ext a3;refine jF ?_ ?_
 ·intro hc13
  exact absurd hc13 (by omega)
 ·intro hc13
  refine jG ?_;refine jR<|jS a1 ?_;intro ag a1 a8;refine jG ?_;refine Run.retCT (x:= .int .i64 (0)) (cs:=#[.slice (ae) (es.length) (ce),.slice (am) (ms.length) (cm),.slice (ac) (cl.length) (cc)]) Tryz.func164 rfl ty29 rfl rfl a1.cl rfl ?_;replace K0:=K0.n1 a8;exact⟨_,rfl,rfl,K0⟩
end Go.Proofs.YtocgdeefgohdhaaGreat
