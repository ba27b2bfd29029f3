/-
  Cq, Cr
-/
import Derived.Test.YtocgdeefgohdhaaGreatRows
import Derived.Test.YtocgdeefgohdhaaGreatPmCp
import Derived.Test.YtocgdeefgohdhaaGreatPmI
set_option linter.all false
set_option maxRecDepth 100000
set_option maxHeartbeats 4000000
namespace Go.Proofs.YtocgdeefgohdhaaGreat
attribute [local irreducible] RD RS St1 RL RA RT RT1 Run
def leE (a b:EntryC):Bool:= !decide (ltE b a)
theorem leE_trans (a b c:EntryC)(h1:leE a b=true)(h2:leE b c=true):leE a c=true:=by
 simp only[leE,Bool.not_eq_true',decide_eq_false_iff_not]at*
 intro h
 by_cases h3:ltE a b
 ·exact h2 (ltE_trans _ _ _ h h3)
 ·obtain⟨e1,e2⟩:=ltE_tri h3 h1
  refine h2 ?_
  unfold ltE at*
  rw[e1,e2]at h;exact h
def sortE (l:List EntryC):List EntryC:=l.mergeSort leE
theorem sortE_mem {l:List EntryC}{x:EntryC}:x∈sortE l↔x∈l:=List.mem_mergeSort
theorem sortE_len (l:List EntryC):(sortE l).length=l.length:=List.length_mergeSort _
def DotU (l:List EntryC):Prop:=l.Pairwise fun a b=>a.dot≠b.dot
def insES (e:EntryC)(s:List EntryC×Bool)(x:EntryC):List EntryC×Bool:=if s.2=false∧ltE e x then(s.1++[e]++[x],true)else(s.1++[x],s.2)
def insXE (l:List EntryC)(e:EntryC)(i:Nat):List EntryC×Bool:=(l.take i).foldl (insES e) ([],false)
def insE (l:List EntryC)(e:EntryC):List EntryC:=if (insXE l e l.length).2 then(insXE l e l.length).1 else(insXE l e l.length).1++[e]
def insI (e:EntryC):List EntryC→List EntryC
 |[]=>[e]
 |x::t=>if ltE e x then e::x::t else x::insI e t
def kA (es:List EntryC)(ms2:List MarkC)(cl2:List DotC)(es2:List EntryC):List EntryC:=es.filter fun x=>decide (x∈es2)|| !decide (Cov ms2 cl2 x.dot)
def kB (ms:List MarkC)(cl:List DotC)(es2:List EntryC):List EntryC:=es2.filter fun x=> !decide (Cov ms cl x.dot)
def keptJ (ms:List MarkC)(cl:List DotC)(es:List EntryC)(ms2:List MarkC)(cl2:List DotC)(es2:List EntryC):List EntryC:=sortE (kA es ms2 cl2 es2++kB ms cl es2)
section
variable {ms ms2:List MarkC}{cl cl2:List DotC}{es es2:List EntryC}{x y:EntryC}{i:Nat}
theorem CanC.dotU (h:CanC ms cl es):DotU es:=by
 refine(h.sorted).imp_of_mem ?_
 intro a b ha hb hlt e
 exact ltE_irr _ (h.dots ha hb e▸hlt)
theorem kA_sub (hx:x∈kA es ms2 cl2 es2):x∈es:=(List.mem_filter.1 hx).1
theorem kB_mem :x∈kB ms cl es2↔x∈es2∧¬Cov ms cl x.dot:=by simp[kB]
theorem kAB (h:CanC ms cl es)(hx:x∈kA es ms2 cl2 es2)(hy:y∈kB ms cl es2):x.dot≠y.dot:=fun e=>(kB_mem.1 hy).2 (e▸(h.mem (kA_sub hx)).2.2.2)
theorem kAB_dot (h:CanC ms cl es)(h2:CanC ms2 cl2 es2):DotU (kA es ms2 cl2 es2++kB ms cl es2):=
 List.pairwise_append.2 ⟨h.dotU.filter _,h2.dotU.filter _,fun _ hx _ hy=>kAB h hx hy⟩
theorem kept_add (h:CanC ms cl es)(h2:CanC ms2 cl2 es2)(hx:es2[i]? =some x):
  ((x∈es∨¬Cov ms cl x.dot)∧x∉kA es ms2 cl2 es2++kB ms cl (es2.take i))↔¬Cov ms cl x.dot:=by
 constructor
 ·rintro⟨h3|h3,h4⟩
  ·exact absurd (List.mem_append_left _ (List.mem_filter.2 ⟨h3,by simp[mem_of_at hx]⟩)) h4
  ·exact h3
 ·intro h3
  refine⟨.inr h3,fun h4=> ?_⟩
  rcases List.mem_append.1 h4 with h4|h4
  ·exact h3 (h.mem (kA_sub h4)).2.2.2
  ·exact(h2.ent i x hx).dots x (kB_mem.1 h4).1 rfl
theorem kB_succ (hx:es2[i]? =some x):kB ms cl (es2.take (i+1))=kB ms cl (es2.take i)++(if Cov ms cl x.dot then[]else[x]):=by
 unfold kB
 rw[take_snocD hx,List.filter_append]
 congr 1
 split<;>rename_i h<;>simp[h]
theorem kA_succ (hx:es[i]? =some x):kA (es.take (i+1)) ms2 cl2 es2=kA (es.take i) ms2 cl2 es2++(if x∈es2∨¬Cov ms2 cl2 x.dot then[x]else[]):=by
 unfold kA
 rw[take_snocD hx,List.filter_append]
 congr 1
 by_cases h1:x∈es2<;>by_cases h2:Cov ms2 cl2 x.dot<;>simp[h1,h2]
theorem kA_len :(kA es ms2 cl2 es2).length≤es.length:=List.length_filter_le _ _
theorem kB_len :(kB ms cl es2).length≤es2.length:=List.length_filter_le _ _
theorem kept_len :(keptJ ms cl es ms2 cl2 es2).length≤es.length+es2.length:=by
 have h1:=kA_len (es:=es) (ms2:=ms2) (cl2:=cl2) (es2:=es2)
 have h2:=kB_len (ms:=ms) (cl:=cl) (es2:=es2)
 rw[keptJ,sortE_len,List.length_append];omega
theorem kept_mem (hx:x∈keptJ ms cl es ms2 cl2 es2):x∈es∨x∈es2:=by
 rw[keptJ,sortE_mem,List.mem_append]at hx
 exact hx.elim (fun h=> .inl (kA_sub h)) (fun h=> .inr (kB_mem.1 h).1)
def Clash (es es2:List EntryC):Prop:=∃x∈es,∃y∈es2,x.dot=y.dot∧x≠y
open Classical in
noncomputable def joinC (ms:List MarkC)(cl:List DotC)(es:List EntryC)(ms2:List MarkC)(cl2:List DotC)(es2:List EntryC):Int×(List MarkC×List DotC)×List EntryC:=
 if canE ms cl es≠0 then(canE ms cl es,([],[]),[])else if canE ms2 cl2 es2≠0 then(canE ms2 cl2 es2,([],[]),[])
 else if (joinE ms cl ms2 cl2).1≠0 then((joinE ms cl ms2 cl2).1,([],[]),[])
 else if 64<(keptJ ms cl es ms2 cl2 es2).length∨32<itemsN (keptJ ms cl es ms2 cl2 es2)then(51,([],[]),[])
 else if Clash es es2 then(50,([],[]),[])else(0,(joinE ms cl ms2 cl2).2,keptJ ms cl es ms2 cl2 es2)
theorem joinC_a (h:canE ms cl es≠0):joinC ms cl es ms2 cl2 es2=(canE ms cl es,([],[]),[]):=by rw[joinC,if_pos h]
theorem joinC_b (h:canE ms cl es=0)(h2:canE ms2 cl2 es2≠0):joinC ms cl es ms2 cl2 es2=(canE ms2 cl2 es2,([],[]),[]):=by rw[joinC,if_neg (not_not_intro h),if_pos h2]
theorem joinC_c (h:canE ms cl es=0)(h2:canE ms2 cl2 es2=0)(h3:(joinE ms cl ms2 cl2).1≠0):joinC ms cl es ms2 cl2 es2=((joinE ms cl ms2 cl2).1,([],[]),[]):=by rw[joinC,if_neg (not_not_intro h),if_neg (not_not_intro h2),if_pos h3]
theorem joinC_d (h:canE ms cl es=0)(h2:canE ms2 cl2 es2=0)(h3:(joinE ms cl ms2 cl2).1=0)(h4:64<(keptJ ms cl es ms2 cl2 es2).length∨32<itemsN (keptJ ms cl es ms2 cl2 es2)):joinC ms cl es ms2 cl2 es2=(51,([],[]),[]):=by
 rw[joinC,if_neg (not_not_intro h),if_neg (not_not_intro h2),if_neg (not_not_intro h3),if_pos h4]
theorem joinC_e (h:canE ms cl es=0)(h2:canE ms2 cl2 es2=0)(h3:(joinE ms cl ms2 cl2).1=0)(h4:¬(64<(keptJ ms cl es ms2 cl2 es2).length∨32<itemsN (keptJ ms cl es ms2 cl2 es2)))(h5:Clash es es2):joinC ms cl es ms2 cl2 es2=(50,([],[]),[]):=by
 rw[joinC,if_neg (not_not_intro h),if_neg (not_not_intro h2),if_neg (not_not_intro h3),if_neg h4,if_pos h5]
theorem joinC_ok (h:canE ms cl es=0)(h2:canE ms2 cl2 es2=0)(h3:(joinE ms cl ms2 cl2).1=0)(h4:¬(64<(keptJ ms cl es ms2 cl2 es2).length∨32<itemsN (keptJ ms cl es ms2 cl2 es2)))(h5:¬Clash es es2):joinC ms cl es ms2 cl2 es2=(0,(joinE ms cl ms2 cl2).2,keptJ ms cl es ms2 cl2 es2):=by
 rw[joinC,if_neg (not_not_intro h),if_neg (not_not_intro h2),if_neg (not_not_intro h3),if_neg h4,if_neg h5]
theorem joinC_len :(joinC ms cl es ms2 cl2 es2).2.2.length≤64:=by
 unfold joinC
 split
 ·simp
 ·split
  ·simp
  ·split
   ·simp
   ·split
    ·simp
    ·split
     ·simp
     ·simp only;omega
theorem joinC_from (hx:x∈(joinC ms cl es ms2 cl2 es2).2.2):x∈es∨x∈es2:=by
 unfold joinC at hx
 split at hx
 ·simp at hx
 ·split at hx
  ·simp at hx
  ·split at hx
   ·simp at hx
   ·split at hx
    ·simp at hx
    ·split at hx
     ·simp at hx
     ·exact kept_mem hx
end
theorem kA_zero (es:List EntryC)(ms2:List MarkC)(cl2:List DotC)(es2:List EntryC):kA (es.take 0) ms2 cl2 es2=[]:=rfl
theorem kB_zero (ms:List MarkC)(cl:List DotC)(es2:List EntryC):kB ms cl (es2.take 0)=[]:=rfl
theorem kA_take {es es2:List EntryC}{ms2:List MarkC}{cl2:List DotC}{i:Nat}:(kA (es.take i) ms2 cl2 es2).length≤i:=Nat.le_trans kA_len (by rw[List.length_take];omega)
theorem kB_take {es2:List EntryC}{ms:List MarkC}{cl:List DotC}{i:Nat}:(kB ms cl (es2.take i)).length≤i:=Nat.le_trans kB_len (by rw[List.length_take];omega)
theorem clash_no {es es2:List EntryC}{i:Nat}(h:∀j,j<i→∀x,es[j]? =some x→∀y∈es2,¬(x.dot=y.dot∧x≠y))(hi:es.length≤i):¬Clash es es2:=by
 rintro⟨x,hx,y,hy,h2⟩
 exact all_at h hi x hx y hy h2
theorem clash_at {es es2:List EntryC}{i j:Nat}{x y:EntryC}(hx:es[i]? =some x)(hy:es2[j]? =some y)(h1:x.dot=y.dot)(h2:¬x=y):Clash es es2:=⟨x,mem_of_at hx,y,mem_of_at hy,h1,h2⟩
theorem joinE_len {ms ms2:List MarkC}{cl cl2:List DotC}:(joinE ms cl ms2 cl2).2.1.length≤64∧(joinE ms cl ms2 cl2).2.2.length≤64:=by
 unfold joinE
 split
 ·unfold normE
  split
  ·simp
  ·split
   ·simp
   ·simp only;omega
 ·simp
attribute [local irreducible] mayD smD ltD ltM ordD mkN Cov CovR
attribute [local irreducible] ltE cmpE itemsN errE firstE canE canX Gr nameK priceN
attribute [local irreducible] insXE insE keptJ joinC joinE Clash
end Go.Proofs.YtocgdeefgohdhaaGreat
namespace Go.Proofs.YtocgdeefgohdhaaGreat
attribute [local irreducible] RD RS St1 RL RA RT RT1 Run
theorem EntB.kept {ms ms2:List MarkC}{cl cl2:List DotC}{es es2:List EntryC}(h:EntB es)(h2:EntB es2):EntB (joinC ms cl es ms2 cl2 es2).2.2:=fun x hx=>(joinC_from hx).elim (h x) (h2 x)
attribute [local irreducible] mayD smD ltD ltM ordD mkN Cov CovR
attribute [local irreducible] ltE cmpE itemsN errE firstE canE canX Gr nameK priceN
attribute [local irreducible] insXE insE keptJ joinC joinE Clash
end Go.Proofs.YtocgdeefgohdhaaGreat
