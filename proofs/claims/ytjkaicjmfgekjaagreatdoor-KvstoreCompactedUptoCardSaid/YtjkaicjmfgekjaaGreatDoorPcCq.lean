/-
  Cq, Cr, Cs, Ct, Qa
-/
import Derived.Test.YtjkaicjmfgekjaaGreatDoorPcCo
set_option linter.all false
set_option maxRecDepth 100000
set_option maxHeartbeats 4000000
namespace Go.Proofs.YtjkaicjmfgekjaaGreatDoor
open Go.Proofs.Tryz
attribute [local irreducible] RD RS AB RL RA RT CB Ai
section
def PQ (a b:Aj):Bool:= !decide (DJ b a)
def MU (a b c:Aj)(h1:PQ a b=true)(h2:PQ b c=true):PQ a c=true:=by
 simp only[PQ,AaH,decide_eq_false_iff_not]at*;intro h;by_cases h3:DJ a b
 ·exact h2 (Hu _ _ _ h h3)
 obtain⟨e1,e2⟩:=NQ h3 h1;refine h2 ?_;unfold DJ at*;rw[e1,e2]at h;exact h
def Tk (a b:Aj):(PQ a b||PQ b a)=true:=by
 simp only[PQ,Abp,AaH,decide_eq_false_iff_not];by_cases h:DJ b a
 ·exact .inr λh2=>Kh _ (Hu _ _ _ h h2)
 exact .inl h
def IJ (l:List Aj):List Aj:=l.mergeSort PQ
def MW {l:List Aj}{x:Aj}:x∈IJ l↔x∈l:=List.mem_mergeSort
def MX (l:List Aj):(IJ l).length=l.length:=List.length_mergeSort _
def L4 (l:List Aj):Prop:=l.Pairwise λa b=>a.dot≠b.dot
def NU {l:List Aj}(h:L4 l):(IJ l).Pairwise DJ:=by
 have h1:(IJ l).Pairwise (λa b=>PQ a b=true):=List.pairwise_mergeSort MU Tk l;have h2:L4 (IJ l):=(List.Perm.pairwise_iff (R:=λ(a b:Aj)=>a.dot≠b.dot) (λh=>h.symm) (Ab0 l PQ)).2 h;refine(h1.and h2).imp ?_;intro a b ⟨h3,h4⟩;simp only[PQ,AaH,decide_eq_false_iff_not]at h3;exact Decidable.byContradiction λh5=>h4 (NQ h5 h3).2
def kA (es:List Aj)(ms2:List Ab)(cl2:List Ah)(es2:List Aj):List Aj:=es.filter λx=>decide (x∈es2)|| !decide (B6 ms2 cl2 x.dot)
def kB (ms:List Ab)(cl:List Ah)(es2:List Aj):List Aj:=es2.filter λx=> !decide (B6 ms cl x.dot)
def BO (ms:List Ab)(cl:List Ah)(es:List Aj)(ms2:List Ab)(cl2:List Ah)(es2:List Aj):List Aj:=IJ (kA es ms2 cl2 es2++kB ms cl es2)
section
variable {ms ms2:List Ab}{cl cl2:List Ah}{es es2:List Aj}{x y:Aj}{i:Nat}
def GE.dotU (h:GE ms cl es):L4 es:=by
 refine(h.sorted).imp_of_mem ?_;intro a b ha hb hlt e;exact Kh _ (h.dots ha hb e▸hlt)
def NV (hx:x∈kA es ms2 cl2 es2):x∈es:=(List.mem_filter.1 hx).1
def kB_mem :x∈kB ms cl es2↔x∈es2/\¬B6 ms cl x.dot:=by simp[kB]
def kf (h:GE ms cl es)(hx:x∈kA es ms2 cl2 es2)(hy:y∈kB ms cl es2):x.dot≠y.dot:=λe=>(kB_mem.1 hy).2 (e▸(h.mem (NV hx)).2.2.2)
def R2 (h:GE ms cl es)(h2:GE ms2 cl2 es2):L4 (kA es ms2 cl2 es2++kB ms cl es2):=
 List.pairwise_append.2 ⟨h.dotU.filter _,h2.dotU.filter _,λ_ hx _ hy=>kf h hx hy⟩
def VB (h:GE ms cl es)(h2:GE ms2 cl2 es2)(hx:es2[i]? =some x):
  ((x∈es\/¬B6 ms cl x.dot)/\x∉kA es ms2 cl2 es2++kB ms cl (es2.take i))↔¬B6 ms cl x.dot:=by
 constructor
 ·rintro⟨h3|h3,h4⟩
  ·exact absurd (AaQ _ (List.mem_filter.2 ⟨h3,by simp[BH hx]⟩)) h4
  exact h3
 intro h3;refine⟨.inr h3,λh4=> ?_⟩;rcases List.mem_append.1 h4 with h4|h4
 ·exact h3 (h.mem (NV h4)).2.2.2
 exact(h2.ent i x hx).dots x (kB_mem.1 h4).1 rfl
def R3 (hx:es2[i]? =some x):kB ms cl (es2.take (i+1))=kB ms cl (es2.take i)++(if B6 ms cl x.dot then[]else[x]):=by
 unfold kB;rw[D8 hx,Abz];congr 1;split<;>rename_i h<;>simp[h]
def R4 (hx:es[i]? =some x):kA (es.take (i+1)) ms2 cl2 es2=kA (es.take i) ms2 cl2 es2++(if x∈es2\/¬B6 ms2 cl2 x.dot then[x]else[]):=by
 unfold kA;rw[D8 hx,Abz];congr 1;by_cases h1:x∈es2<;>by_cases h2:B6 ms2 cl2 x.dot<;>simp[h1,h2]
def kA_len :(kA es ms2 cl2 es2).length<=es.length:=AaX _ _
def kB_len :(kB ms cl es2).length<=es2.length:=AaX _ _
def kept_len :(BO ms cl es ms2 cl2 es2).length<=es.length+es2.length:=by
 have h1:=kA_len (es:=es) (ms2:=ms2) (cl2:=cl2) (es2:=es2);have h2:=kB_len (ms:=ms) (cl:=cl) (es2:=es2);rw[BO,MX,Aab];omega
def Lv (hx:x∈BO ms cl es ms2 cl2 es2):x∈es\/x∈es2:=by
 rw[BO,MW,Aak]at hx;exact hx.elim (λh=> .inl (NV h)) (λh=> .inr (kB_mem.1 h).1)
def GP (es es2:List Aj):Prop:=∃x∈es,∃y∈es2,x.dot=y.dot/\x≠y
open Classical in
noncomputable def B0 (ms:List Ab)(cl:List Ah)(es:List Aj)(ms2:List Ab)(cl2:List Ah)(es2:List Aj):Int×(List Ab×List Ah)×List Aj:=
 if Bl ms cl es≠0 then(Bl ms cl es,([],[]),[])else if Bl ms2 cl2 es2≠0 then(Bl ms2 cl2 es2,([],[]),[])
 else if (AW ms cl ms2 cl2).1≠0 then((AW ms cl ms2 cl2).1,([],[]),[])
 else if 64<(BO ms cl es ms2 cl2 es2).length\/32<itemsN (BO ms cl es ms2 cl2 es2)then(51,([],[]),[])
 else if GP es es2 then(50,([],[]),[])else(0,(AW ms cl ms2 cl2).2,BO ms cl es ms2 cl2 es2)
def Ki (h:Bl ms cl es≠0):B0 ms cl es ms2 cl2 es2=(Bl ms cl es,([],[]),[]):=by rw[B0,if_pos h]
def Kj (h:Bl ms cl es=0)(h2:Bl ms2 cl2 es2≠0):B0 ms cl es ms2 cl2 es2=(Bl ms2 cl2 es2,([],[]),[]):=by rw[B0,if_neg (not_not_intro h),if_pos h2]
def Kk (h:Bl ms cl es=0)(h2:Bl ms2 cl2 es2=0)(h3:(AW ms cl ms2 cl2).1≠0):B0 ms cl es ms2 cl2 es2=((AW ms cl ms2 cl2).1,([],[]),[]):=by rw[B0,if_neg (not_not_intro h),if_neg (not_not_intro h2),if_pos h3]
def IK (h:Bl ms cl es=0)(h2:Bl ms2 cl2 es2=0)(h3:(AW ms cl ms2 cl2).1=0)(h4:64<(BO ms cl es ms2 cl2 es2).length\/32<itemsN (BO ms cl es ms2 cl2 es2)):B0 ms cl es ms2 cl2 es2=(51,([],[]),[]):=by
 rw[B0,if_neg (not_not_intro h),if_neg (not_not_intro h2),if_neg (not_not_intro h3),if_pos h4]
def Kl (h:Bl ms cl es=0)(h2:Bl ms2 cl2 es2=0)(h3:(AW ms cl ms2 cl2).1=0)(h4:¬(64<(BO ms cl es ms2 cl2 es2).length\/32<itemsN (BO ms cl es ms2 cl2 es2)))(h5:GP es es2):B0 ms cl es ms2 cl2 es2=(50,([],[]),[]):=by
 rw[B0,if_neg (not_not_intro h),if_neg (not_not_intro h2),if_neg (not_not_intro h3),if_neg h4,if_pos h5]
def IL (h:Bl ms cl es=0)(h2:Bl ms2 cl2 es2=0)(h3:(AW ms cl ms2 cl2).1=0)(h4:¬(64<(BO ms cl es ms2 cl2 es2).length\/32<itemsN (BO ms cl es ms2 cl2 es2)))(h5:¬GP es es2):B0 ms cl es ms2 cl2 es2=(0,(AW ms cl ms2 cl2).2,BO ms cl es ms2 cl2 es2):=by
 rw[B0,if_neg (not_not_intro h),if_neg (not_not_intro h2),if_neg (not_not_intro h3),if_neg h4,if_neg h5]
def joinC_len :(B0 ms cl es ms2 cl2 es2).2.2.length<=64:=by
 unfold B0;split
 ·simp
 split
 ·simp
 split
 ·simp
 split
 ·simp
 split
 ·simp
 simp only;omega
def QG (hx:x∈(B0 ms cl es ms2 cl2 es2).2.2):x∈es\/x∈es2:=by
 unfold B0 at hx;split at hx
 ·simp at hx
 split at hx
 ·simp at hx
 split at hx
 ·simp at hx
 split at hx
 ·simp at hx
 split at hx
 ·simp at hx
 exact Lv hx
end
def XB (es:List Aj)(ms2:List Ab)(cl2:List Ah)(es2:List Aj):kA (es.take 0) ms2 cl2 es2=[]:=rfl
def XC (ms:List Ab)(cl:List Ah)(es2:List Aj):kB ms cl (es2.take 0)=[]:=rfl
def XD {es es2:List Aj}{ms2:List Ab}{cl2:List Ah}{i:Nat}:(kA (es.take i) ms2 cl2 es2).length<=i:=Aaa kA_len Zt
def XE {es2:List Aj}{ms:List Ab}{cl:List Ah}{i:Nat}:(kB ms cl (es2.take i)).length<=i:=Aaa kB_len Zt
def VC {es es2:List Aj}{i:Nat}(h:∀j,j<i->∀x,es[j]? =some x->∀y∈es2,¬(x.dot=y.dot/\x≠y))(hi:es.length<=i):¬GP es es2:=by
 rintro⟨x,hx,y,hy,h2⟩;exact NJ h hi x hx y hy h2
def VD {es es2:List Aj}{i j:Nat}{x y:Aj}(hx:es[i]? =some x)(hy:es2[j]? =some y)(h1:x.dot=y.dot)(h2:¬x=y):GP es es2:=⟨x,BH hx,y,BH hy,h1,h2⟩
def Jq {ms ms2:List Ab}{cl cl2:List Ah}:(AW ms cl ms2 cl2).2.1.length<=64/\(AW ms cl ms2 cl2).2.2.length<=64:=by
 unfold AW;split
 ·unfold Cm;split
  ·simp
  split
  ·simp
  simp only;omega
 simp
attribute [local irreducible] AD DP Cx BI By Ca B6 DJ Cf itemsN BZ AQ Bl BL Gr AK A2 BO B0 AW GP
end
section
def Ez.kept {ms ms2:List Ab}{cl cl2:List Ah}{es es2:List Aj}(h:Ez es)(h2:Ez es2):Ez (B0 ms cl es ms2 cl2 es2).2.2:=λx hx=>(QG hx).elim (h x) (h2 x)
attribute [local irreducible] AD DP Cx BI By Ca B6 DJ Cf itemsN BZ AQ Bl BL Gr AK A2 BO B0 AW GP
end
section
def L4.uniq {l:List Aj}(h:L4 l){x y:Aj}(hx:x∈l)(hy:y∈l)(e:x.dot=y.dot):x=y:=by
 obtain⟨i,hi,rfl⟩:=AaI hx;obtain⟨j,hj,rfl⟩:=AaI hy;rcases Nat.lt_trichotomy i j with hlt|rfl|hlt
 ·exact absurd e (Dh h hlt (List.getElem?_eq_getElem hi) (List.getElem?_eq_getElem hj))
 ·rfl
 exact absurd e.symm (Dh h hlt (List.getElem?_eq_getElem hj) (List.getElem?_eq_getElem hi))
def VE (ms:List Ab)(cl:List Ah)(es:List Aj)(ms2:List Ab)(cl2:List Ah)(es2:List Aj):IJ (kA es ms2 cl2 es2++kB ms cl es2)=BO ms cl es ms2 cl2 es2:=rfl
def MY (ms:List Ab)(cl:List Ah)(es:List Aj)(ms2:List Ab)(cl2:List Ah)(es2:List Aj):(kA es ms2 cl2 es2++kB ms cl es2).length=(BO ms cl es ms2 cl2 es2).length:=(MX _).symm
section
open Go.Shelf Go.RowKit Go.Lib Go.Sort
def Ym {ys:List Aj}(x y:{e:Aj//e∈ys}):Int:=II x.1 y.1
def jg (ys:List Aj):SWO (ltOf (Ym (ys:=ys))) where
 irrefl x:=by simp only[ltOf,Ym];exact decide_eq_false (λh=>Kh _ (Fa.1 h))
 trans x y z h1 h2:=by simp only[ltOf,Ym]at*;exact decide_eq_true (Fa.2 (Hu _ _ _ (Fa.1 (of_decide_eq_true h1)) (Fa.1 (of_decide_eq_true h2))))
 ntrans x y z h1 h2:=by
  simp only[ltOf,Ym,decide_eq_false_iff_not,Fa]at*;have h:=MU z.1 y.1 x.1 (by simpa[PQ]using h2) (by simpa[PQ]using h1);simpa[PQ]using h
def VF {a:Option Addr}{xs ys:List Aj}{c:Nat}{w:World}(y0:Aj)(hy0:y0∈ys)(hsub:∀x∈xs,x∈ys)(ho:Af w 76 a c xs)(hm:∀x∈ys,AD x.dot)(hu:L4 ys)(hl:xs.length<=4294967295):
  Calls prog 151 #[.slice a xs.length c,.func (.func 145) #[] #[]] w (AU λv w'=>v= .tuple #[]/\Af w' 76 a c (IJ xs)/\Ae (own a) w w'):=by
 letI:Inhabited {e:Aj//e∈ys}:=⟨⟨y0,hy0⟩⟩
 have e:(xs.attachWith (·∈ys) hsub).map Subtype.val=xs:=Acr hsub;have h:=NM (α:={e:Aj//e∈ys}) (β:=Aj) sortEL Subtype.val Tryz.isAgg76 Tryz.sizeOf76 Ym (jg ys)
  (λx y h1 h2=>by simp only[ltOf,Ym,decide_eq_false_iff_not,Fa]at h1 h2;exact Subtype.ext (hu.uniq x.2 y.2 (NQ h1 h2).2))
  145 (C1 func145 rfl Zk) (λx y W=>(Yl x.1 y.1 W (hm _ x.2).sm (hm _ y.2).sm).mono λe w' ⟨v,h1,h2,_,h3⟩=>by unfold Gr at h3;exact⟨by rw[h1,h2];rfl,h3⟩) (xs.attachWith (·∈ys) hsub) (by rw[e];exact ho) (by rw[Acs];exact hl)
 rw[Lo Subtype.val (λx y=> !(ltOf Ym) y x) PQ (λa b=>by simp only[ltOf,Ym,PQ,Fa]),e]at h;exact h
def VG {a:Option Addr}{xs:List Aj}{c:Nat}{w:World}(ho:Af w 76 a c xs)(hm:∀x∈xs,AD x.dot)(hu:L4 xs)(hl:xs.length<=4294967295):
  Calls prog 151 #[.slice a xs.length c,.func (.func 145) #[] #[]] w (AU λv w'=>v= .tuple #[]/\Af w' 76 a c (IJ xs)/\Ae (own a) w w'):=by
 cases xs with
 |cons x t=>exact VF (ys:=x::t) x Zs (λ_ h=>h) ho hm hu hl
 |nil=>exact VF (ys:=[⟨⟨#[]⟩,⟨0,1,1⟩,0,0⟩]) ⟨⟨#[]⟩,⟨0,1,1⟩,0,0⟩ Zs (λ_ h=>by cases h) ho (λx hx=>by rw[Aah]at hx;subst hx;unfold AD;decide) (by simp[L4]) hl
end
attribute [local irreducible] AD DP Cx BI By Ca B6 DJ Cf itemsN BZ AQ Bl BL Gr AK A2 BO B0 AW GP kA kB X
def VH (x:Aj)(am:Option Addr)(ms:List Ab)(cm:Nat)(ac:Option Addr)(cl:List Ah)(cc:Nat)(ae:Option Addr)(es:List Aj)(ce:Nat)(w:World)(hs:Ax w am ms)(ht:Ax w ac cl)(hse:Ax w ae es)(hl:ms.length<=4294967295)(hl2:cl.length<=4294967295)(hl3:es.length<=4294967295):
  Calls prog 149 #[.agg #[.string x.item,.int .i64 x.dot.node,.int .i64 x.dot.life,.int .i64 x.dot.count,.int .i64 x.qty,.int .u64 x.price],.agg #[.slice ae es.length ce,.slice am ms.length cm,.slice ac cl.length cc]] w (AU (λv w'=>v= .bool (decide (x∈es\/¬B6 ms cl x.dot))/\As w w')):=by
 refine kD (n:=17) func149 ?_;refine kQ ?_;intro a6 a9 a3 a0 a7;have:w.heap.size<=a6:=a3;clear a3;have K0:=(a7:As w _);refine kQ ?_;intro aa ab a1 a4 a5;have ad:=Ak a0.lt a1;have:=Aaa K0.size a1;clear a1;replace a0:=a0.ext a5;refine jG ?_;replace K0:=K0.ext a5;refine kS (Iz _ _ _ x _ (hse.ext K0) Zo) ?_;rintro _ af ⟨rfl,a2⟩;replace a0:=a0.ext a2;replace a4:=a4.ext a2;refine jG ?_;replace K0:=K0.ext a2;refine RL.gcall (vals:=[.agg #[.slice am ms.length cm,.slice ac cl.length cc],.agg #[.int .i64 x.dot.node,.int .i64 x.dot.life,.int .i64 x.dot.count]]) (Cc rfl rfl rfl rfl) en144.h (λhg=>(C2 (B4 hg) (C2 (B4 hg) HC))) (λhg=>(Kf am ms cm ac cl cc x.dot _ (hs.ext K0) (ht.ext K0) Zo Zo)) ?_;intro ag a8;refine jG ?_;refine kE (Er rfl rfl rfl) ?_;refine jJ func149 ?_;replace K0:=K0.ext a8;exact⟨_,rfl,congrArg Value.bool Zq,K0⟩
def io (am:Option Addr)(ms:List Ab)(cm:Nat)(ac:Option Addr)(cl:List Ah)(cc:Nat)(ae:Option Addr)(es:List Aj)(ce:Nat)(w:World)(hcap:es.length<=ce)(hs:Ax w am ms)(ht:Ax w ac cl)(hse:Ax w ae es)(hl:ms.length<=4294967295)(hl2:cl.length<=4294967295)(hl3:es.length<=4294967295)(hbad:64<es.length\/32<itemsN es):
  Calls prog 152 #[.agg #[.slice ae es.length ce,.slice am ms.length cm,.slice ac cl.length cc]] w (AU (λv w'=>v= .tuple #[.agg #[.slice none 0 0,.slice none 0 0,.slice none 0 0],.int .i64 51]/\As w w')):=by
 refine kD (n:=16) func152 ?_;refine kQ ?_;intro a6 a9 a3 a1 a7;have:w.heap.size<=a6:=a3;clear a3;have K0:=(a7:As w _);refine kR ?_;intro aa ab a2 a0 a4;have ad:=Ak a1.lt a2;have:=Aaa K0.size a2;clear a2;replace a1:=a1.ext a4;refine jG ?_;replace K0:=K0.ext a4;refine RL.gcall (vals:=[.slice ae es.length ce]) (Cc rfl rfl rfl rfl) en81.h (λhg=>(C2 (B4 hg) HC)) (λhg=>(VA _ es _ _ (hse.ext K0) hcap Zo)) ?_;intro af a5;refine jG ?_;refine kE (Er rfl rfl rfl) ?_;replace a0:=a0.ext a5;replace K0:=K0.ext a5;refine jF ?_ ?_
 ·intro hc13;refine jG ?_;refine jV (AO (cells:=#[.slice none 0 0,.slice none 0 0,.slice none 0 0]) Zk) ?_;refine jR<|jS a0 ?_;intro ag a0 a8;refine jG ?_;refine Ai.retCT (x:= .int .i64 51) (cs:=#[.slice none 0 0,.slice none 0 0,.slice none 0 0]) func152 rfl ty33 rfl rfl a0.cl rfl ?_;replace K0:=K0.n1 a8;exact⟨_,rfl,rfl,K0⟩
 intro hc13;exact absurd hbad Zo
def ip (am:Option Addr)(ms:List Ab)(cm:Nat)(ac:Option Addr)(cl:List Ah)(cc:Nat)(ae:Option Addr)(es:List Aj)(ce:Nat)(w:World)(hcap:es.length<=ce)(hs:Ax w am ms)(ht:Ax w ac cl)(hse:Ax w ae es)(hl:ms.length<=4294967295)(hl2:cl.length<=4294967295)(hl3:es.length<=4294967295)(hbad:¬(64<es.length\/32<itemsN es)):
  Calls prog 152 #[.agg #[.slice ae es.length ce,.slice am ms.length cm,.slice ac cl.length cc]] w (AU (λv w'=>v= .tuple #[.agg #[.slice ae es.length ce,.slice am ms.length cm,.slice ac cl.length cc],.int .i64 0]/\As w w')):=by
 refine kD (n:=16) func152 ?_;refine kQ ?_;intro a6 a9 a4 a0 a7;have:w.heap.size<=a6:=a4;clear a4;have K0:=(a7:As w _);refine kR ?_;intro aa ab a2 a1 a5;have ad:=Ak a0.lt a2;have:=Aaa K0.size a2;clear a2;replace a0:=a0.ext a5;refine jG ?_;replace K0:=K0.ext a5;refine RL.gcall (vals:=[.slice ae es.length ce]) (Cc rfl rfl rfl rfl) en81.h (λhg=>(C2 (B4 hg) HC)) (λhg=>(VA _ es _ _ (hse.ext K0) hcap Zo)) ?_;intro af a3;refine jG ?_;refine kE (Er rfl rfl rfl) ?_;replace a0:=a0.ext a3;replace a1:=a1.ext a3;replace K0:=K0.ext a3;refine jF ?_ ?_
 ·intro hc13;exact absurd hc13 Zo
 intro hc13;refine jG ?_;refine jR<|jS a1 ?_;intro ag a1 a8;refine jG ?_;refine Ai.retCT (x:= .int .i64 0) (cs:=#[.slice ae es.length ce,.slice am ms.length cm,.slice ac cl.length cc]) func152 rfl ty33 rfl rfl a1.cl rfl ?_;replace K0:=K0.n1 a8;exact⟨_,rfl,rfl,K0⟩
end
section
instance : Enc Bf:=Enc.struct (λt=>[.slice t.entries.a t.entries.len t.entries.cap,.slice t.ctx.marks.a t.ctx.marks.len t.ctx.marks.cap,.slice t.ctx.cloud.a t.ctx.cloud.len t.ctx.cloud.cap]) 3 (λ_=>rfl) (λ_ v hv=>by simp at hv;rcases hv with rfl|rfl|rfl<;>rfl) Zd
def MZ {ms ms2:List Ab}{cl cl2:List Ah}{es es2:List Aj}{i:Nat}{x:Aj}(h:GE ms cl es)(h2:GE ms2 cl2 es2)(hx:es2[i]? =some x):
  ((x∈es\/¬B6 ms cl x.dot)/\(kA es ms2 cl2 es2++kB ms cl (es2.take i)).any (x==·)=false)↔¬B6 ms cl x.dot:=by
 have e:(kA es ms2 cl2 es2++kB ms cl (es2.take i)).any (x==·)=true↔x∈kA es ms2 cl2 es2++kB ms cl (es2.take i):=by
  rw[Abj];exact⟨λ⟨y,hy,h⟩=>by rw[beq_iff_eq.1 h];exact hy,λh=>⟨x,h,beq_self_eq_true x⟩⟩
 exact(and_congr_right λ_=>(Bool.not_eq_true _).symm.to_iff.trans (not_congr e)).trans (VB h h2 hx)
attribute [local irreducible] AD DP Cx BI By Ca B6 DJ Cf itemsN BZ AQ Bl BL Gr AK A2 BO B0 AW GP kA kB X
def Zz (am:Option Addr)(ms:List Ab)(cm:Nat)(ac:Option Addr)(cl:List Ah)(cc:Nat)(ae:Option Addr)(es:List Aj)(ce:Nat)(am2:Option Addr)(ms2:List Ab)(cm2:Nat)(ac2:Option Addr)(cl2:List Ah)(cc2:Nat)(ae2:Option Addr)(es2:List Aj)(ce2:Nat)(w:World)(hcap:es.length<=ce)(hcap2:es2.length<=ce2)(hs:Ax w am ms)(ht:Ax w ac cl)(hse:Ax w ae es)(hs2:Ax w am2 ms2)(ht2:Ax w ac2 cl2)(hse2:Ax w ae2 es2)(hl:ms.length<=4294967295)(hl2:cl.length<=4294967295)(hl3:es.length<=4294967295)(hl4:ms2.length<=4294967295)(hl5:cl2.length<=4294967295)(hl6:es2.length<=4294967295)(hb:Ez es)(hb2:Ez es2):
  Calls prog 83 #[.agg #[.slice ae es.length ce,.slice am ms.length cm,.slice ac cl.length cc],.agg #[.slice ae2 es2.length ce2,.slice am2 ms2.length cm2,.slice ac2 cl2.length cc2]] w (AU (λv w'=>∃ae ce am cm ac cc,v= .tuple #[.agg #[.slice ae (B0 ms cl es ms2 cl2 es2).2.2.length ce,.slice am (B0 ms cl es ms2 cl2 es2).2.1.1.length cm,.slice ac (B0 ms cl es ms2 cl2 es2).2.1.2.length cc],.int .i64 (B0 ms cl es ms2 cl2 es2).1]/\Af w' 76 ae ce (B0 ms cl es ms2 cl2 es2).2.2/\Af w' 46 am cm (B0 ms cl es ms2 cl2 es2).2.1.1/\Af w' 73 ac cc (B0 ms cl es ms2 cl2 es2).2.1.2/\(∀q,own ae q->¬own am q)/\(∀q,own ae q->¬own ac q)/\(∀q,own am q->¬own ac q)/\(∀q,own ae q->w.heap.size<=q)/\(∀q,own am q->w.heap.size<=q)/\(∀q,own ac q->w.heap.size<=q)/\As w w')):=by
 refine kD (n:=130) func83 ?_;refine kQ ?_;intro aw dr c3 a1 cj;have:w.heap.size<=aw:=c3;clear c3;have K0:=(cj:As w _);refine kQ ?_;intro al ds bX a2 c4;have dt:=Ak a1.lt bX;have:=Aaa K0.size bX;clear bX;refine kR ?_;intro an du bv a0 bY;replace a1:=a1.ext c4;have dv:=Ak a1.lt bv;have dw:=Ak a2.lt bv;replace K0:=K0.ext c4;have:=Aaa K0.size bv;clear bv;replace a1:=a1.ext bY;replace a2:=a2.ext bY;refine jG ?_;refine jR<|AB.buildSlice ([(⟨⟨ae,es.length,ce⟩,⟨⟨am,ms.length,cm⟩,⟨ac,cl.length,cc⟩⟩⟩:Bf),(⟨⟨ae2,es2.length,ce2⟩,⟨⟨am2,ms2.length,cm2⟩,⟨ac2,cl2.length,cc2⟩⟩⟩:Bf)]:List Bf) underlying22 ty33 rfl rfl Ze ?_;intro b6 dx c5 a3 bw;have bk:=Ay (Du c5) a0.lt;clear c5;refine kE (AA (c:=2) (CM underlying22 rfl) rfl) ?_;refine Ai.unloop ?_;refine kJ ?_;refine Et ?_;obtain⟨dy,dz,ck,cn,co,c6⟩:=a3.sl.el (i:=0) Zs;obtain rfl:(⟨⟨ae,es.length,ce⟩,⟨⟨am,ms.length,cm⟩,⟨ac,cl.length,cc⟩⟩⟩:Bf)=ck:=Option.some.inj cn;refine jV (AY underlying22 ty33 rfl rfl co Zs) ?_;refine jV (Di (v':= .agg #[.slice ae es.length ce,.slice am ms.length cm,.slice ac cl.length cc]) (B9 (v:= .agg #[.slice ((⟨⟨ae,es.length,ce⟩,⟨⟨am,ms.length,cm⟩,⟨ac,cl.length,cc⟩⟩⟩:Bf).entries.a) ((⟨⟨ae,es.length,ce⟩,⟨⟨am,ms.length,cm⟩,⟨ac,cl.length,cc⟩⟩⟩:Bf).entries.len) ((⟨⟨ae,es.length,ce⟩,⟨⟨am,ms.length,cm⟩,⟨ac,cl.length,cc⟩⟩⟩:Bf).entries.cap),.slice (((⟨⟨ae,es.length,ce⟩,⟨⟨am,ms.length,cm⟩,⟨ac,cl.length,cc⟩⟩⟩:Bf).ctx).marks.a) (((⟨⟨ae,es.length,ce⟩,⟨⟨am,ms.length,cm⟩,⟨ac,cl.length,cc⟩⟩⟩:Bf).ctx).marks.len) (((⟨⟨ae,es.length,ce⟩,⟨⟨am,ms.length,cm⟩,⟨ac,cl.length,cc⟩⟩⟩:Bf).ctx).marks.cap),.slice (((⟨⟨ae,es.length,ce⟩,⟨⟨am,ms.length,cm⟩,⟨ac,cl.length,cc⟩⟩⟩:Bf).ctx).cloud.a) (((⟨⟨ae,es.length,ce⟩,⟨⟨am,ms.length,cm⟩,⟨ac,cl.length,cc⟩⟩⟩:Bf).ctx).cloud.len) (((⟨⟨ae,es.length,ce⟩,⟨⟨am,ms.length,cm⟩,⟨ac,cl.length,cc⟩⟩⟩:Bf).ctx).cloud.cap)]) (y:=(⟨⟨ae,es.length,ce⟩,⟨⟨am,ms.length,cm⟩,⟨ac,cl.length,cc⟩⟩⟩:Bf)) ty33 rfl c6 rfl) rfl) ?_;refine kR ?_;intro b0 dA b8 a4 bl;replace a1:=a1.ext bw;have dB:=Ak a1.lt b8;replace a2:=a2.ext bw;have dC:=Ak a2.lt b8;replace a0:=a0.ext bw;have dD:=Ak a0.lt b8;have dE:=Ak c6.lt b8;have cp:=An a3.oL b8;replace K0:=(K0.ext bY).ext bw;have:=Aaa K0.size b8;clear b8;refine jR<|jS a4 ?_;intro dF a4 bm;refine jG ?_;replace K0:=(K0.ext bl).n1 bm;refine kS (R1 am ms cm ac cl cc ae es ce _ hcap (hs.ext K0) (ht.ext K0) (hse.ext K0) Zo Zo Zo hb) ?_;rintro _ dG ⟨rfl,bc⟩;refine jG ?_;replace a1:=((a1.ext bl).kp bm).ext bc;replace a2:=((a2.ext bl).kp bm).ext bc;replace a0:=((a0.ext bl).kp bm).ext bc;replace a3:=((a3.ext bl).kO bm (Aa cp)).ext bc;replace a4:=a4.ext bc;replace K0:=K0.ext bc;refine jF ?_ ?_
 ·intro hc31;refine jG ?_;refine kE (AO (cells:=#[.slice none 0 0,.slice none 0 0,.slice none 0 0]) Zk) ?_;refine jR<|jS a0 ?_;intro dH a0 bn;refine jG ?_;refine Ai.retCT (x:= .int .i64 (Bl ms cl es)) (cs:=#[.slice none 0 0,.slice none 0 0,.slice none 0 0]) func83 rfl ty33 rfl rfl a0.cl rfl ?_;rw[Ki hc31];replace a1:=a1.kp bn;replace a2:=a2.kp bn;replace a3:=a3.kO bn (Aa bk);replace a4:=a4.kp bn;replace K0:=K0.n1 bn;exact⟨_,rfl,none,0,none,0,none,0,rfl,Af.nil _ _,Af.nil _ _,Af.nil _ _,λ_ h_=>absurd h_ (Ad _),λ_ h_=>absurd h_ (Ad _),λ_ h_=>absurd h_ (Ad _),λ_ h_=>absurd h_ (Ad _),λ_ h_=>absurd h_ (Ad _),λ_ h_=>absurd h_ (Ad _),K0⟩
 intro hc31;have hca:=hc31;refine jG ?_;refine kE (AA (c:=1) (Av rfl rfl Zd Zd) Zd) ?_;refine Ai.inLoop ?_;refine kJ ?_;refine Et ?_;obtain⟨dI,dJ,cq,cr,ct,c7⟩:=a3.sl.el (i:=1) Zs;obtain rfl:(⟨⟨ae2,es2.length,ce2⟩,⟨⟨am2,ms2.length,cm2⟩,⟨ac2,cl2.length,cc2⟩⟩⟩:Bf)=cq:=Option.some.inj cr;refine jV (AY underlying22 ty33 rfl rfl ct Zs) ?_;refine jV (Di (v':= .agg #[.slice ae2 es2.length ce2,.slice am2 ms2.length cm2,.slice ac2 cl2.length cc2]) (B9 (v:= .agg #[.slice ((⟨⟨ae2,es2.length,ce2⟩,⟨⟨am2,ms2.length,cm2⟩,⟨ac2,cl2.length,cc2⟩⟩⟩:Bf).entries.a) ((⟨⟨ae2,es2.length,ce2⟩,⟨⟨am2,ms2.length,cm2⟩,⟨ac2,cl2.length,cc2⟩⟩⟩:Bf).entries.len) ((⟨⟨ae2,es2.length,ce2⟩,⟨⟨am2,ms2.length,cm2⟩,⟨ac2,cl2.length,cc2⟩⟩⟩:Bf).entries.cap),.slice (((⟨⟨ae2,es2.length,ce2⟩,⟨⟨am2,ms2.length,cm2⟩,⟨ac2,cl2.length,cc2⟩⟩⟩:Bf).ctx).marks.a) (((⟨⟨ae2,es2.length,ce2⟩,⟨⟨am2,ms2.length,cm2⟩,⟨ac2,cl2.length,cc2⟩⟩⟩:Bf).ctx).marks.len) (((⟨⟨ae2,es2.length,ce2⟩,⟨⟨am2,ms2.length,cm2⟩,⟨ac2,cl2.length,cc2⟩⟩⟩:Bf).ctx).marks.cap),.slice (((⟨⟨ae2,es2.length,ce2⟩,⟨⟨am2,ms2.length,cm2⟩,⟨ac2,cl2.length,cc2⟩⟩⟩:Bf).ctx).cloud.a) (((⟨⟨ae2,es2.length,ce2⟩,⟨⟨am2,ms2.length,cm2⟩,⟨ac2,cl2.length,cc2⟩⟩⟩:Bf).ctx).cloud.len) (((⟨⟨ae2,es2.length,ce2⟩,⟨⟨am2,ms2.length,cm2⟩,⟨ac2,cl2.length,cc2⟩⟩⟩:Bf).ctx).cloud.cap)]) (y:=(⟨⟨ae2,es2.length,ce2⟩,⟨⟨am2,ms2.length,cm2⟩,⟨ac2,cl2.length,cc2⟩⟩⟩:Bf)) ty33 rfl c7 rfl) rfl) ?_;refine kR ?_;intro b1 dK b7 a6 be;have dL:=Ak a1.lt b7;have dM:=Ak a2.lt b7;have dN:=Ak a0.lt b7;have dO:=Ak a4.lt b7;have dP:=Ak c7.lt b7;have cu:=An a3.oL b7;have:=Aaa K0.size b7;clear b7;refine jR<|jS a6 ?_;intro dQ a6 bg;refine jG ?_;replace K0:=(K0.ext be).n1 bg;refine kS (R1 am2 ms2 cm2 ac2 cl2 cc2 ae2 es2 ce2 _ hcap2 (hs2.ext K0) (ht2.ext K0) (hse2.ext K0) Zo Zo Zo hb2) ?_;rintro _ dR ⟨rfl,b9⟩;refine jG ?_;replace a1:=((a1.ext be).kp bg).ext b9;replace a2:=((a2.ext be).kp bg).ext b9;replace a0:=((a0.ext be).kp bg).ext b9;replace a3:=((a3.ext be).kO bg (Aa cu)).ext b9;replace a4:=((a4.ext be).kp bg).ext b9;replace a6:=a6.ext b9;replace K0:=K0.ext b9;refine jF ?_ ?_
 ·intro hc31;refine jG ?_;refine kE (AO (cells:=#[.slice none 0 0,.slice none 0 0,.slice none 0 0]) Zk) ?_;refine jR<|jS a0 ?_;intro dS a0 bh;refine jG ?_;refine Ai.retCT (x:= .int .i64 (Bl ms2 cl2 es2)) (cs:=#[.slice none 0 0,.slice none 0 0,.slice none 0 0]) func83 rfl ty33 rfl rfl a0.cl rfl ?_;rw[Kj hca hc31];replace a1:=a1.kp bh;replace a2:=a2.kp bh;replace a3:=a3.kO bh (Aa bk);replace a4:=a4.kp bh;replace a6:=a6.kp bh;replace K0:=K0.n1 bh;exact⟨_,rfl,none,0,none,0,none,0,rfl,Af.nil _ _,Af.nil _ _,Af.nil _ _,λ_ h_=>absurd h_ (Ad _),λ_ h_=>absurd h_ (Ad _),λ_ h_=>absurd h_ (Ad _),λ_ h_=>absurd h_ (Ad _),λ_ h_=>absurd h_ (Ad _),λ_ h_=>absurd h_ (Ad _),K0⟩
 intro hc31;have hcb:=hc31;have hcA:=Ey hca;have hcB:=Ey hcb;have hln1:=hcA.len;have hln2:=hcB.len;have hmn1:=hcA.ctx.1;have hmn2:=hcA.ctx.2.1;have hmn3:=hcB.ctx.1;have hmn4:=hcB.ctx.2.1;refine jG ?_;refine kE (AA (c:=2) (Av rfl rfl Zd Zd) Zd) ?_;refine Ai.inLoop ?_;refine kG ?_;refine kS (Zb am ms cm ac cl cc am2 ms2 cm2 ac2 cl2 cc2 _ (hs.ext K0) (ht.ext K0) (hs2.ext K0) (ht2.ext K0) Zo Zo Zo Zo) ?_;rintro _ dT ⟨ab,af,ad,ag,rfl,a7,a8,cw,bZ,c0,ba⟩;have bx:=Ay bZ a0.lt;have cx:=Bg K0.size bZ;have bz:=Ay c0 a0.lt;have cy:=Bg K0.size c0;clear bZ c0;refine kP ?_;intro b2 dU aW a9 b3;replace a1:=a1.ext ba;have dV:=Ak a1.lt aW;replace a2:=a2.ext ba;have dW:=Ak a2.lt aW;replace a0:=a0.ext ba;have dX:=Ak a0.lt aW;replace a4:=a4.ext ba;have dY:=Ak a4.lt aW;replace a6:=a6.ext ba;have dZ:=Ak a6.lt aW;replace a3:=a3.ext ba;have cz:=An a3.oL aW;have cA:=An a7.oL aW;have cB:=An a8.oL aW;replace K0:=K0.ext ba;have:=Aaa K0.size aW;clear aW;refine jR<|jS a9 ?_;intro e0 a9 b4;refine jG ?_;replace a1:=(a1.ext b3).kp b4;replace a2:=(a2.ext b3).kp b4;replace a0:=(a0.ext b3).kp b4;replace a3:=(a3.ext b3).kO b4 (Aa cz);replace a4:=(a4.ext b3).kp b4;replace a6:=(a6.ext b3).kp b4;replace a7:=(a7.ext b3).kO b4 (Aa cA);replace a8:=(a8.ext b3).kO b4 (Aa cB);replace K0:=(K0.ext b3).n1 b4;refine jF ?_ ?_
 ·intro hc44;refine jG ?_;refine kE (AO (cells:=#[.slice none 0 0,.slice none 0 0,.slice none 0 0]) Zk) ?_;refine jR<|jS a0 ?_;intro e1 a0 b5;refine jG ?_;refine Ai.retCT (x:= .int .i64 ((AW ms cl ms2 cl2).1)) (cs:=#[.slice none 0 0,.slice none 0 0,.slice none 0 0]) func83 rfl ty33 rfl rfl a0.cl rfl ?_;rw[Kk hca hcb hc44];replace a1:=a1.kp b5;replace a2:=a2.kp b5;replace a3:=a3.kO b5 (Aa bk);replace a4:=a4.kp b5;replace a6:=a6.kp b5;replace a7:=a7.kO b5 (Aa bx);replace a8:=a8.kO b5 (Aa bz);replace a9:=a9.kp b5;replace K0:=K0.n1 b5;exact⟨_,rfl,none,0,none,0,none,0,rfl,Af.nil _ _,Af.nil _ _,Af.nil _ _,λ_ h_=>absurd h_ (Ad _),λ_ h_=>absurd h_ (Ad _),λ_ h_=>absurd h_ (Ad _),λ_ h_=>absurd h_ (Ad _),λ_ h_=>absurd h_ (Ad _),λ_ h_=>absurd h_ (Ad _),K0⟩
 intro hc44;refine jG ?_;refine jV (AO (cells:=#[.slice none 0 0,.slice ab ((AW ms cl ms2 cl2).2.1.length) af,.slice ad ((AW ms cl ms2 cl2).2.2.length) ag]) Zk) ?_;refine kR ?_;intro ao e2 aK a5 aX;have e3:=Ak a1.lt aK;have e4:=Ak a2.lt aK;have e5:=Ak a0.lt aK;have e6:=Ak a4.lt aK;have e7:=Ak a6.lt aK;have e8:=Ak a9.lt aK;have bo:=An a3.oL aK;have bp:=An a7.oL aK;have bq:=An a8.oL aK;have:=Aaa K0.size aK;clear aK;refine jR<|jS a5 ?_;intro cC a5 aY;replace a1:=(a1.ext aX).kp aY;refine jG ?_;replace a2:=(a2.ext aX).kp aY;replace a0:=(a0.ext aX).kp aY;replace a3:=(a3.ext aX).kO aY (Aa bo);replace a4:=(a4.ext aX).kp aY;replace a6:=(a6.ext aX).kp aY;replace a7:=(a7.ext aX).kO aY (Aa bp);replace a8:=(a8.ext aX).kO aY (Aa bq);replace a9:=(a9.ext aX).kp aY;replace K0:=(K0.ext aX).n1 aY;refine Ai.loop (ι:=Nat) (λi ρ' w'=>∃a':Option Addr,∃c':Nat,Holds ρ' [(2,jp aw),(3,jp al),(4,jp an),(11,jp ao),(50,.slice ae es.length ce),(51,.int .i64 ((es.length:Nat):Int)),(52,.int .i64 ((i:Nat):Int))]/\As w w'/\(AC w' aw [.slice ae es.length ce,.slice am ms.length cm,.slice ac cl.length cc] 33)/\(AC w' al [.slice ae2 es2.length ce2,.slice am2 ms2.length cm2,.slice ac2 cl2.length cc2] 33)/\(AC w' an [.slice none 0 0,.slice none 0 0,.slice none 0 0] 33)/\(AC w' b0 [.slice ae es.length ce,.slice am ms.length cm,.slice ac cl.length cc] 33)/\(AC w' b1 [.slice ae2 es2.length ce2,.slice am2 ms2.length cm2,.slice ac2 cl2.length cc2] 33)/\(AC w' b2 [.slice ab ((AW ms cl ms2 cl2).2.1.length) af,.slice ad ((AW ms cl ms2 cl2).2.2.length) ag] 31)/\(AC w' ao [.slice a' ((kA (es.take i) ms2 cl2 es2).length) c',.slice ab ((AW ms cl ms2 cl2).2.1.length) af,.slice ad ((AW ms cl ms2 cl2).2.2.length) ag] 33)/\(Af w' 33 (some ⟨b6,0,none⟩) (([(⟨⟨ae,es.length,ce⟩,⟨⟨am,ms.length,cm⟩,⟨ac,cl.length,cc⟩⟩⟩:Bf),(⟨⟨ae2,es2.length,ce2⟩,⟨⟨am2,ms2.length,cm2⟩,⟨ac2,cl2.length,cc2⟩⟩⟩:Bf)]:List Bf).length) ([(⟨⟨ae,es.length,ce⟩,⟨⟨am,ms.length,cm⟩,⟨ac,cl.length,cc⟩⟩⟩:Bf),(⟨⟨ae2,es2.length,ce2⟩,⟨⟨am2,ms2.length,cm2⟩,⟨ac2,cl2.length,cc2⟩⟩⟩:Bf)]:List Bf))/\(Af w' 46 ab af ((AW ms cl ms2 cl2).2.1))/\(Af w' 73 ad ag ((AW ms cl ms2 cl2).2.2))/\(Af w' 76 a' c' (kA (es.take i) ms2 cl2 es2))/\(¬own a' aw)/\(¬own a' al)/\(¬own a' an)/\(¬own a' b0)/\(¬own a' b1)/\(¬own a' b2)/\(¬own a' ao)/\(∀q_,own a' q_->¬own (some ⟨b6,0,none⟩) q_)/\(∀q_,own a' q_->¬own ab q_)/\(∀q_,own a' q_->¬own ad q_)/\(∀q_,own a' q_->w.heap.size<=q_)/\(i<=es.length)) (λi=>es.length-i) 0 ?_ ?_
 ·rw[XB];have cD:=Af.nil (α:=Aj) cC 76;refine⟨_,_,⟨rfl,rfl,rfl,rfl,rfl,rfl,rfl,trivial⟩,K0,a1,a2,a0,a4,a6,a9,a5,a3,a7,a8,cD,(Ad aw),(Ad al),(Ad an),(Ad b0),(Ad b1),(Ad b2),(Ad ao),(λq_ h1 _=>Ad q_ h1),(λq_ h1 _=>Ad q_ h1),(λq_ h1 _=>Ad q_ h1),(λq_ h1=>absurd h1 (Ad q_)),?_⟩;omega
 clear a1 a2 a0 a3 a4 a6 a7 a8 a9 a5;clear K0;rintro i e9 ea ⟨a',c',c8,K0,a1,a2,a0,a4,a6,a9,a5,a3,a7,a8,aZ,bA,bB,bC,bD,bE,bF,bG,bH,bI,bJ,bK,hi⟩ ih2;obtain⟨ρ₀,rfl⟩:=c8.ex;clear c8;refine kK ?_ ?_
 ·intro hc53;refine Et ?_;obtain⟨eb,ec,x,hx,cE,bL⟩:=hse.eo i;have hc_150_lt:=bL.lt;refine jV (AY underlying27 ty76 rfl rfl cE Zl) ?_;replace bL:=bL.ext K0;refine kP ?_;intro ed ee ai bM ax;have ef:=Ak a1.lt ai;have eg:=Ak a2.lt ai;have eh:=Ak a0.lt ai;have ei:=Ak a4.lt ai;have ej:=Ak a6.lt ai;have ek:=Ak a9.lt ai;have em:=Ak a5.lt ai;have en:=Ak bL.lt ai;have cF:=An a3.oL ai;have cG:=An a7.oL ai;have cH:=An a8.oL ai;have cI:=An aZ.oL ai;have:=Aaa K0.size ai;clear ai;refine jR<|jS bM ?_;intro ep bM ay;replace a2:=(a2.ext ax).kp ay;refine jG ?_;replace K0:=(K0.ext ax).n1 ay;refine kS (VH x am2 ms2 cm2 ac2 cl2 cc2 ae2 es2 ce2 _ (hs2.ext K0) (ht2.ext K0) (hse2.ext K0) Zo Zo Zo) ?_;rintro _ er ⟨rfl,ap⟩;refine jG ?_;replace a1:=((a1.ext ax).kp ay).ext ap;replace a0:=((a0.ext ax).kp ay).ext ap;replace a4:=((a4.ext ax).kp ay).ext ap;replace a6:=((a6.ext ax).kp ay).ext ap;replace a9:=((a9.ext ax).kp ay).ext ap;replace a5:=((a5.ext ax).kp ay).ext ap;replace a3:=((a3.ext ax).kO ay (Aa cF)).ext ap;replace a7:=((a7.ext ax).kO ay (Aa cG)).ext ap;replace a8:=((a8.ext ax).kO ay (Aa cH)).ext ap;replace aZ:=((aZ.ext ax).kO ay (Aa cI)).ext ap;replace a2:=a2.ext ap;replace bM:=bM.ext ap;replace K0:=K0.ext ap;refine jF ?_ ?_
  ·intro hc58;have hkl:=XD (es:=es) (ms2:=ms2) (cl2:=cl2) (es2:=es2) (i:=i);refine jG ?_;refine jR<|AB.buildSlice ([x]:List Aj) underlying27 ty76 rfl rfl Ze ?_;intro et eu cJ cK az;clear cJ;replace aZ:=aZ.ext az;refine jR<|AB.append (xs:=kA (es.take i) ms2 cl2 es2) (ys:=([x]:List Aj)) underlying27 ty76 rfl rfl rfl aZ cK.sl Zr Zd ?_;intro aL ev ew c1 aM aA cL;replace a1:=a1.ext az;have cM:¬own aL aw:=aA.not bA a1.lt;replace a2:=a2.ext az;have cN:¬own aL al:=aA.not bB a2.lt;replace a0:=a0.ext az;have cO:¬own aL an:=aA.not bC a0.lt;replace a4:=a4.ext az;have cP:¬own aL b0:=aA.not bD a4.lt;replace a6:=a6.ext az;have cQ:¬own aL b1:=aA.not bE a6.lt;replace a9:=a9.ext az;have cR:¬own aL b2:=aA.not bF a9.lt;replace a5:=a5.ext az;have c9:¬own aL ao:=aA.not bG a5.lt;replace a3:=a3.ext az;have cS:∀q_,own aL q_->¬own (some ⟨b6,0,none⟩) q_:=aA.apart bH a3.oL;replace a7:=a7.ext az;have cT:∀q_,own aL q_->¬own ab q_:=aA.apart bI a7.oL;replace a8:=a8.ext az;have cU:∀q_,own aL q_->¬own ad q_:=aA.apart bJ a8.oL;replace K0:=K0.ext az;have cV:∀q_,own aL q_->w.heap.size<=q_:=aA.ge bK K0.size;clear aA;clear cL;refine jG ?_;replace a5:=a5.keep aM bG;refine jR<|jS a5 ?_;intro ey a5 aN;refine jG ?_;refine kC i ?_;have e:=R4 (ms2:=ms2) (cl2:=cl2) (es2:=es2) hx;rw[if_pos hc58]at e;refine ih2 (i+1) _ _ ?_ Zo;rw[e];replace a1:=(a1.keep aM bA).kp aN;replace a2:=(a2.keep aM bB).kp aN;replace a0:=(a0.keep aM bC).kp aN;replace a4:=(a4.keep aM bD).kp aN;replace a6:=(a6.keep aM bE).kp aN;replace a9:=(a9.keep aM bF).kp aN;replace a3:=(a3.kO aM (Zf bH)).kO aN (Aa bo);replace a7:=(a7.kO aM (Zf bI)).kO aN (Aa bp);replace a8:=(a8.kO aM (Zf bJ)).kO aN (Aa bq);replace K0:=(K0.new aM bK).n1 aN;replace c1:=c1.kO aN (Aa c9);refine⟨_,_,⟨rfl,rfl,rfl,rfl,rfl,rfl,rfl,trivial⟩,K0,a1,a2,a0,a4,a6,a9,a5,a3,a7,a8,c1,cM,cN,cO,cP,cQ,cR,c9,cS,cT,cU,cV,?_⟩
   omega
  intro hc58;refine jG ?_;refine kC i ?_;have e:=R4 (ms2:=ms2) (cl2:=cl2) (es2:=es2) hx;rw[if_neg hc58,Aax]at e;refine ih2 (i+1) _ _ ?_ Zo;rw[e];refine⟨_,_,⟨rfl,rfl,rfl,rfl,rfl,rfl,rfl,trivial⟩,K0,a1,a2,a0,a4,a6,a9,a5,a3,a7,a8,aZ,bA,bB,bC,bD,bE,bF,bG,bH,bI,bJ,bK,?_⟩;omega
 intro hc53;have cW:kA (es.take i) ms2 cl2 es2=kA es ms2 cl2 es2:=by rw[AaB Zo]
 rw[cW]at aZ a5;refine jG ?_;refine Ai.loop (ι:=Nat) (λi ρ' w'=>∃a':Option Addr,∃c':Nat,Holds ρ' [(2,jp aw),(3,jp al),(4,jp an),(11,jp ao),(67,.slice ae2 es2.length ce2),(68,.int .i64 ((es2.length:Nat):Int)),(69,.int .i64 ((i:Nat):Int))]/\As w w'/\(AC w' aw [.slice ae es.length ce,.slice am ms.length cm,.slice ac cl.length cc] 33)/\(AC w' al [.slice ae2 es2.length ce2,.slice am2 ms2.length cm2,.slice ac2 cl2.length cc2] 33)/\(AC w' an [.slice none 0 0,.slice none 0 0,.slice none 0 0] 33)/\(AC w' b0 [.slice ae es.length ce,.slice am ms.length cm,.slice ac cl.length cc] 33)/\(AC w' b1 [.slice ae2 es2.length ce2,.slice am2 ms2.length cm2,.slice ac2 cl2.length cc2] 33)/\(AC w' b2 [.slice ab ((AW ms cl ms2 cl2).2.1.length) af,.slice ad ((AW ms cl ms2 cl2).2.2.length) ag] 31)/\(AC w' ao [.slice a' ((kA es ms2 cl2 es2++kB ms cl (es2.take i)).length) c',.slice ab ((AW ms cl ms2 cl2).2.1.length) af,.slice ad ((AW ms cl ms2 cl2).2.2.length) ag] 33)/\(Af w' 33 (some ⟨b6,0,none⟩) (([(⟨⟨ae,es.length,ce⟩,⟨⟨am,ms.length,cm⟩,⟨ac,cl.length,cc⟩⟩⟩:Bf),(⟨⟨ae2,es2.length,ce2⟩,⟨⟨am2,ms2.length,cm2⟩,⟨ac2,cl2.length,cc2⟩⟩⟩:Bf)]:List Bf).length) ([(⟨⟨ae,es.length,ce⟩,⟨⟨am,ms.length,cm⟩,⟨ac,cl.length,cc⟩⟩⟩:Bf),(⟨⟨ae2,es2.length,ce2⟩,⟨⟨am2,ms2.length,cm2⟩,⟨ac2,cl2.length,cc2⟩⟩⟩:Bf)]:List Bf))/\(Af w' 46 ab af ((AW ms cl ms2 cl2).2.1))/\(Af w' 73 ad ag ((AW ms cl ms2 cl2).2.2))/\(Af w' 76 a' c' (kA es ms2 cl2 es2++kB ms cl (es2.take i)))/\(¬own a' aw)/\(¬own a' al)/\(¬own a' an)/\(¬own a' b0)/\(¬own a' b1)/\(¬own a' b2)/\(¬own a' ao)/\(∀q_,own a' q_->¬own (some ⟨b6,0,none⟩) q_)/\(∀q_,own a' q_->¬own ab q_)/\(∀q_,own a' q_->¬own ad q_)/\(∀q_,own a' q_->w.heap.size<=q_)/\(i<=es2.length)) (λi=>es2.length-i) 0 ?_ ?_
 ·rw[XC,Aax];refine⟨_,_,⟨rfl,rfl,rfl,rfl,rfl,rfl,rfl,trivial⟩,K0,a1,a2,a0,a4,a6,a9,a5,a3,a7,a8,aZ,bA,bB,bC,bD,bE,bF,bG,bH,bI,bJ,bK,?_⟩;omega
 clear a1 a2 a0 a4 a6 a9 a5 a3 a7 a8 aZ;clear K0;rintro i ez eA ⟨a',c',ca,K0,a1,a2,a0,a4,a6,a9,a5,a3,a7,a8,aa,bN,bO,bb,bP,bQ,bR,bi,bS,bs,bt,bu,hi⟩ ih3;obtain⟨ρ₀,rfl⟩:=ca.ex;clear ca;refine kK ?_ ?_
 ·intro hc70;refine Et ?_;obtain⟨eB,eC,y,hy,cX,bT⟩:=hse2.eo i;have hc_233_lt:=bT.lt;refine jV (AY underlying27 ty76 rfl rfl cX Zl) ?_;replace bT:=bT.ext K0;refine kP ?_;intro eD eE aj bj aB;have eF:=Ak a1.lt aj;have eG:=Ak a2.lt aj;have eH:=Ak a0.lt aj;have eI:=Ak a4.lt aj;have eJ:=Ak a6.lt aj;have eK:=Ak a9.lt aj;have eL:=Ak a5.lt aj;have eM:=Ak bT.lt aj;have cY:=An a3.oL aj;have cZ:=An a7.oL aj;have d0:=An a8.oL aj;have d1:=An aa.oL aj;have:=Aaa K0.size aj;clear aj;refine jR<|jS bj ?_;intro eN bj aC;have hkl:=kA_len (es:=es) (ms2:=ms2) (cl2:=cl2) (es2:=es2);have hkl2:=XE (ms:=ms) (cl:=cl) (es2:=es2) (i:=i);have hkl3:(kA es ms2 cl2 es2++kB ms cl (es2.take i)).length=(kA es ms2 cl2 es2).length+(kB ms cl (es2.take i)).length:=Aab;replace a1:=(a1.ext aB).kp aC;refine jG ?_;replace K0:=(K0.ext aB).n1 aC;refine kS (VH y am ms cm ac cl cc ae es ce _ (hs.ext K0) (ht.ext K0) (hse.ext K0) Zo Zo Zo) ?_;rintro _ eO ⟨rfl,aq⟩;replace a5:=((a5.ext aB).kp aC).ext aq;replace bj:=bj.ext aq;refine jG ?_;replace aa:=((aa.ext aB).kO aC (Aa d1)).ext aq;refine RL.gcall (vals:=[.slice a' ((kA es ms2 cl2 es2++kB ms cl (es2.take i)).length) c',.agg #[.string y.item,.int .i64 y.dot.node,.int .i64 y.dot.life,.int .i64 y.dot.count,.int .i64 y.qty,.int .u64 y.price]]) (BX rfl rfl rfl rfl) en150.h (λhg=>(C2 (B4 hg) (C2 (B4 hg) HC))) (λhg=>(Iz _ _ _ y _ aa.sl Zo)) ?_;intro eP ar;refine jG ?_;refine kE (Bo rfl rfl rfl) ?_;replace a2:=(((a2.ext aB).kp aC).ext aq).ext ar;replace a0:=(((a0.ext aB).kp aC).ext aq).ext ar;replace a4:=(((a4.ext aB).kp aC).ext aq).ext ar;replace a6:=(((a6.ext aB).kp aC).ext aq).ext ar;replace a9:=(((a9.ext aB).kp aC).ext aq).ext ar;replace a3:=(((a3.ext aB).kO aC (Aa cY)).ext aq).ext ar;replace a7:=(((a7.ext aB).kO aC (Aa cZ)).ext aq).ext ar;replace a8:=(((a8.ext aB).kO aC (Aa d0)).ext aq).ext ar;replace a1:=(a1.ext aq).ext ar;replace K0:=(K0.ext aq).ext ar;replace a5:=a5.ext ar;replace aa:=aa.ext ar;replace bj:=bj.ext ar;refine jF ?_ ?_
  ·intro hc82;refine jG ?_;refine jR<|AB.buildSlice ([y]:List Aj) underlying27 ty76 rfl rfl Ze ?_;intro eQ eR d2 d3 aD;clear d2;replace aa:=aa.ext aD;refine jR<|AB.append (xs:=kA es ms2 cl2 es2++kB ms cl (es2.take i)) (ys:=([y]:List Aj)) underlying27 ty76 rfl rfl rfl aa d3.sl Zr Zd ?_;intro aO eS eT c2 aP aE d4;replace a1:=a1.ext aD;have d5:¬own aO aw:=aE.not bN a1.lt;replace a2:=a2.ext aD;have d6:¬own aO al:=aE.not bO a2.lt;replace a0:=a0.ext aD;have d7:¬own aO an:=aE.not bb a0.lt;replace a4:=a4.ext aD;have d8:¬own aO b0:=aE.not bP a4.lt;replace a6:=a6.ext aD;have d9:¬own aO b1:=aE.not bQ a6.lt;replace a9:=a9.ext aD;have da:¬own aO b2:=aE.not bR a9.lt;replace a5:=a5.ext aD;have cb:¬own aO ao:=aE.not bi a5.lt;replace a3:=a3.ext aD;have db:∀q_,own aO q_->¬own (some ⟨b6,0,none⟩) q_:=aE.apart bS a3.oL;replace a7:=a7.ext aD;have dc:∀q_,own aO q_->¬own ab q_:=aE.apart bs a7.oL;replace a8:=a8.ext aD;have dd:∀q_,own aO q_->¬own ad q_:=aE.apart bt a8.oL;replace K0:=K0.ext aD;have de:∀q_,own aO q_->w.heap.size<=q_:=aE.ge bu K0.size;clear aE;clear d4;refine jG ?_;replace a5:=a5.keep aP bi;refine jR<|jS a5 ?_;intro eU a5 aQ;refine jG ?_;refine kC i ?_;have e:=R3 (ms:=ms) (cl:=cl) hy;rw[if_neg ((MZ hcA hcB hy).1 hc82)]at e;refine ih3 (i+1) _ _ ?_ Zo;rw[e,<-Aar];replace a1:=(a1.keep aP bN).kp aQ;replace a2:=(a2.keep aP bO).kp aQ;replace a0:=(a0.keep aP bb).kp aQ;replace a4:=(a4.keep aP bP).kp aQ;replace a6:=(a6.keep aP bQ).kp aQ;replace a9:=(a9.keep aP bR).kp aQ;replace a3:=(a3.kO aP (Zf bS)).kO aQ (Aa bo);replace a7:=(a7.kO aP (Zf bs)).kO aQ (Aa bp);replace a8:=(a8.kO aP (Zf bt)).kO aQ (Aa bq);replace K0:=(K0.new aP bu).n1 aQ;replace c2:=c2.kO aQ (Aa cb);refine⟨_,_,⟨rfl,rfl,rfl,rfl,rfl,rfl,rfl,trivial⟩,K0,a1,a2,a0,a4,a6,a9,a5,a3,a7,a8,c2,d5,d6,d7,d8,d9,da,cb,db,dc,dd,de,?_⟩
   omega
  intro hc82;refine jG ?_;refine kC i ?_;have e:=R3 (ms:=ms) (cl:=cl) hy;rw[if_pos (Decidable.byContradiction λh_=>(MZ hcA hcB hy).2 h_|>λh2=>hc82.elim (λh3=>h3 h2.1) (λh3=>by rw[h2.2]at h3;cases h3)),Aax]at e;refine ih3 (i+1) _ _ ?_ Zo;rw[e];refine⟨_,_,⟨rfl,rfl,rfl,rfl,rfl,rfl,rfl,trivial⟩,K0,a1,a2,a0,a4,a6,a9,a5,a3,a7,a8,aa,bN,bO,bb,bP,bQ,bR,bi,bS,bs,bt,bu,?_⟩;omega
 intro hc70;have hkp:=kept_len (ms:=ms) (cl:=cl) (es:=es) (ms2:=ms2) (cl2:=cl2) (es2:=es2);have hkq:=MY ms cl es ms2 cl2 es2;have df:kA es ms2 cl2 es2++kB ms cl (es2.take i)=kA es ms2 cl2 es2++kB ms cl es2:=by rw[AaB Zo]
 rw[df]at aa a5;refine jG ?_;refine jR<|jC (VG aa (λx hx=>(List.mem_append.1 hx).elim (λh=>hcA.ctx.cov (hcA.mem (NV h)).2.2.2) (λh=>hcB.ctx.cov (hcB.mem (kB_mem.1 h).1).2.2.2)) (R2 hcA hcB) Zo) ?_;rintro _ eV ⟨rfl,cd,aR⟩;replace aa:=cd;clear cd;rw[VE]at aa;replace a5:=a5.keep aR bi;rw[MY]at a5;refine Et ?_;replace a1:=a1.keep aR bN;replace a2:=a2.keep aR bO;replace a0:=a0.keep aR bb;replace a4:=a4.keep aR bP;replace a6:=a6.keep aR bQ;replace a9:=a9.keep aR bR;replace a3:=a3.kO aR (Zf bS);replace a7:=a7.kO aR (Zf bs);replace a8:=a8.kO aR (Zf bt);replace K0:=K0.new aR bu;by_cases hF:64<(BO ms cl es ms2 cl2 es2).length\/32<itemsN (BO ms cl es ms2 cl2 es2)
 ·have hje:=Jq (ms:=ms) (cl:=cl) (ms2:=ms2) (cl2:=cl2);refine jG ?_;refine kS (io ab ((AW ms cl ms2 cl2).2.1) af ad ((AW ms cl ms2 cl2).2.2) ag a' (BO ms cl es ms2 cl2 es2) c' _ aa.le_cap a7.sl a8.sl aa.sl Zo Zo Zo hF) ?_;rintro _ eW ⟨rfl,aF⟩;refine jG ?_;replace a5:=a5.ext aF;refine jR<|jS a5 ?_;intro eX a5 aS;refine kI ?_;refine kE (AO (cells:=#[.slice none 0 0,.slice none 0 0,.slice none 0 0]) Zk) ?_;replace a0:=(a0.ext aF).kp aS;refine jR<|jS a0 ?_;intro eY a0 aT;refine jG ?_;refine Ai.retCT (x:= .int .i64 51) (cs:=#[.slice none 0 0,.slice none 0 0,.slice none 0 0]) func83 rfl ty33 rfl rfl a0.cl rfl ?_;rw[IK hca hcb hc44 hF];replace a1:=((a1.ext aF).kp aS).kp aT;replace a2:=((a2.ext aF).kp aS).kp aT;replace a4:=((a4.ext aF).kp aS).kp aT;replace a6:=((a6.ext aF).kp aS).kp aT;replace a9:=((a9.ext aF).kp aS).kp aT;replace a3:=((a3.ext aF).kO aS (Aa bo)).kO aT (Aa bk);replace a7:=((a7.ext aF).kO aS (Aa bp)).kO aT (Aa bx);replace a8:=((a8.ext aF).kO aS (Aa bq)).kO aT (Aa bz);replace aa:=((aa.ext aF).kO aS (Aa bi)).kO aT (Aa bb);replace K0:=((K0.ext aF).n1 aS).n1 aT;replace a5:=a5.kp aT;exact⟨_,rfl,none,0,none,0,none,0,rfl,Af.nil _ _,Af.nil _ _,Af.nil _ _,λ_ h_=>absurd h_ (Ad _),λ_ h_=>absurd h_ (Ad _),λ_ h_=>absurd h_ (Ad _),λ_ h_=>absurd h_ (Ad _),λ_ h_=>absurd h_ (Ad _),λ_ h_=>absurd h_ (Ad _),K0⟩
 have hje:=Jq (ms:=ms) (cl:=cl) (ms2:=ms2) (cl2:=cl2);refine jG ?_;refine kS (ip ab ((AW ms cl ms2 cl2).2.1) af ad ((AW ms cl ms2 cl2).2.2) ag a' (BO ms cl es ms2 cl2 es2) c' _ aa.le_cap a7.sl a8.sl aa.sl Zo Zo Zo hF) ?_;rintro _ eZ ⟨rfl,aG⟩;refine jG ?_;replace a5:=a5.ext aG;refine jR<|jS a5 ?_;intro f0 a5 aU;refine jG ?_;refine Ai.condF rfl ?_;replace a1:=(a1.ext aG).kp aU;refine jG ?_;replace a2:=(a2.ext aG).kp aU;replace a0:=(a0.ext aG).kp aU;replace a4:=(a4.ext aG).kp aU;replace a6:=(a6.ext aG).kp aU;replace a9:=(a9.ext aG).kp aU;replace a3:=(a3.ext aG).kO aU (Aa bo);replace a7:=(a7.ext aG).kO aU (Aa bp);replace a8:=(a8.ext aG).kO aU (Aa bq);replace aa:=(aa.ext aG).kO aU (Aa bi);replace K0:=(K0.ext aG).n1 aU;refine Ai.loop (ι:=Nat) (λi ρ' w'=>Holds ρ' [(3,jp al),(4,jp an),(11,jp ao),(103,.slice ae es.length ce),(104,.int .i64 ((es.length:Nat):Int)),(105,.int .i64 ((i:Nat):Int))]/\As w w'/\(AC w' aw [.slice ae es.length ce,.slice am ms.length cm,.slice ac cl.length cc] 33)/\(AC w' al [.slice ae2 es2.length ce2,.slice am2 ms2.length cm2,.slice ac2 cl2.length cc2] 33)/\(AC w' an [.slice none 0 0,.slice none 0 0,.slice none 0 0] 33)/\(AC w' b0 [.slice ae es.length ce,.slice am ms.length cm,.slice ac cl.length cc] 33)/\(AC w' b1 [.slice ae2 es2.length ce2,.slice am2 ms2.length cm2,.slice ac2 cl2.length cc2] 33)/\(AC w' b2 [.slice ab ((AW ms cl ms2 cl2).2.1.length) af,.slice ad ((AW ms cl ms2 cl2).2.2.length) ag] 31)/\(AC w' ao [.slice a' ((BO ms cl es ms2 cl2 es2).length) c',.slice ab ((AW ms cl ms2 cl2).2.1.length) af,.slice ad ((AW ms cl ms2 cl2).2.2.length) ag] 33)/\(Af w' 33 (some ⟨b6,0,none⟩) (([(⟨⟨ae,es.length,ce⟩,⟨⟨am,ms.length,cm⟩,⟨ac,cl.length,cc⟩⟩⟩:Bf),(⟨⟨ae2,es2.length,ce2⟩,⟨⟨am2,ms2.length,cm2⟩,⟨ac2,cl2.length,cc2⟩⟩⟩:Bf)]:List Bf).length) ([(⟨⟨ae,es.length,ce⟩,⟨⟨am,ms.length,cm⟩,⟨ac,cl.length,cc⟩⟩⟩:Bf),(⟨⟨ae2,es2.length,ce2⟩,⟨⟨am2,ms2.length,cm2⟩,⟨ac2,cl2.length,cc2⟩⟩⟩:Bf)]:List Bf))/\(Af w' 46 ab af ((AW ms cl ms2 cl2).2.1))/\(Af w' 73 ad ag ((AW ms cl ms2 cl2).2.2))/\(Af w' 76 a' c' (BO ms cl es ms2 cl2 es2))/\(i<=es.length)/\(∀j,j<i->∀x,es[j]? =some x->∀y∈es2,¬(x.dot=y.dot/\x≠y))) (λi=>es.length-i) 0 ?_ ?_
 ·refine⟨⟨rfl,rfl,rfl,rfl,rfl,rfl,trivial⟩,K0,a1,a2,a0,a4,a6,a9,a5,a3,a7,a8,aa,?_,?_⟩
  ·omega
  exact λj hj=>absurd hj (Abh j)
 clear a1 a2 a0 a4 a6 a9 a5 a3 a7 a8 aa;clear K0;rintro i f1 f2 ⟨cf,K0,a1,a2,a0,a4,a6,a9,a5,a3,a7,a8,aa,hi,hcl⟩ ih4;obtain⟨ρ₀,rfl⟩:=cf.ex;clear cf;refine kK ?_ ?_
 ·intro hc106;refine Et ?_;obtain⟨f3,f4,x,hx,dg,bU⟩:=hse.eo i;have hc_319_lt:=bU.lt;refine jV (AY underlying27 ty76 rfl rfl dg Zl) ?_;replace bU:=bU.ext K0;refine kP ?_;intro cg f5 ak aV aH;have f6:=Ak a1.lt ak;have f7:=Ak a2.lt ak;have f8:=Ak a0.lt ak;have f9:=Ak a4.lt ak;have fa:=Ak a6.lt ak;have fb:=Ak a9.lt ak;have fc:=Ak a5.lt ak;have fd:=Ak bU.lt ak;have dh:=An a3.oL ak;have di:=An a7.oL ak;have dj:=An a8.oL ak;have dk:=An aa.oL ak;have:=Aaa K0.size ak;clear ak;refine jR<|jS aV ?_;intro fe aV aI;replace a2:=(a2.ext aH).kp aI;refine jG ?_;replace a1:=(a1.ext aH).kp aI;replace a0:=(a0.ext aH).kp aI;replace a4:=(a4.ext aH).kp aI;replace a6:=(a6.ext aH).kp aI;replace a9:=(a9.ext aH).kp aI;replace a5:=(a5.ext aH).kp aI;replace a3:=(a3.ext aH).kO aI (Aa dh);replace a7:=(a7.ext aH).kO aI (Aa di);replace a8:=(a8.ext aH).kO aI (Aa dj);replace aa:=(aa.ext aH).kO aI (Aa dk);replace K0:=(K0.ext aH).n1 aI;refine Ai.loop (ι:=Nat) (λq ρ' w'=>Holds ρ' [(3,jp al),(4,jp an),(11,jp ao),(17,jp cg),(103,.slice ae es.length ce),(104,.int .i64 ((es.length:Nat):Int)),(105,.int .i64 ((i:Nat):Int)),(106,.bool (decide (((i:Nat):Int)<((es.length:Nat):Int)))),(110,.slice ae2 es2.length ce2),(111,.int .i64 ((es2.length:Nat):Int)),(112,.int .i64 ((q:Nat):Int))]/\As w w'/\(AC w' aw [.slice ae es.length ce,.slice am ms.length cm,.slice ac cl.length cc] 33)/\(AC w' al [.slice ae2 es2.length ce2,.slice am2 ms2.length cm2,.slice ac2 cl2.length cc2] 33)/\(AC w' an [.slice none 0 0,.slice none 0 0,.slice none 0 0] 33)/\(AC w' b0 [.slice ae es.length ce,.slice am ms.length cm,.slice ac cl.length cc] 33)/\(AC w' b1 [.slice ae2 es2.length ce2,.slice am2 ms2.length cm2,.slice ac2 cl2.length cc2] 33)/\(AC w' b2 [.slice ab ((AW ms cl ms2 cl2).2.1.length) af,.slice ad ((AW ms cl ms2 cl2).2.2.length) ag] 31)/\(AC w' ao [.slice a' ((BO ms cl es ms2 cl2 es2).length) c',.slice ab ((AW ms cl ms2 cl2).2.1.length) af,.slice ad ((AW ms cl ms2 cl2).2.2.length) ag] 33)/\(AC w' cg [.string x.item,.int .i64 x.dot.node,.int .i64 x.dot.life,.int .i64 x.dot.count,.int .i64 x.qty,.int .u64 x.price] 76)/\(Af w' 33 (some ⟨b6,0,none⟩) (([(⟨⟨ae,es.length,ce⟩,⟨⟨am,ms.length,cm⟩,⟨ac,cl.length,cc⟩⟩⟩:Bf),(⟨⟨ae2,es2.length,ce2⟩,⟨⟨am2,ms2.length,cm2⟩,⟨ac2,cl2.length,cc2⟩⟩⟩:Bf)]:List Bf).length) ([(⟨⟨ae,es.length,ce⟩,⟨⟨am,ms.length,cm⟩,⟨ac,cl.length,cc⟩⟩⟩:Bf),(⟨⟨ae2,es2.length,ce2⟩,⟨⟨am2,ms2.length,cm2⟩,⟨ac2,cl2.length,cc2⟩⟩⟩:Bf)]:List Bf))/\(Af w' 46 ab af ((AW ms cl ms2 cl2).2.1))/\(Af w' 73 ad ag ((AW ms cl ms2 cl2).2.2))/\(Af w' 76 a' c' (BO ms cl es ms2 cl2 es2))/\(q<=es2.length)/\(∀j,j<q->∀y,es2[j]? =some y->¬(x.dot=y.dot/\x≠y))) (λq=>es2.length-q) 0 ?_ ?_
  ·refine⟨⟨rfl,rfl,rfl,rfl,rfl,rfl,rfl,rfl,rfl,rfl,rfl,trivial⟩,K0,a1,a2,a0,a4,a6,a9,a5,aV,a3,a7,a8,aa,?_,?_⟩
   ·omega
   exact λj hj=>absurd hj (Abh j)
  clear a1 a2 a0 a4 a6 a9 a5 a3 a7 a8 aa aV;clear K0;rintro q ff fg ⟨ch,K0,a1,a2,a0,a4,a6,a9,a5,aV,a3,a7,a8,aa,hq,hcl2⟩ ih5;obtain⟨ρ₀,rfl⟩:=ch.ex;clear ch;refine kK ?_ ?_
  ·intro hc113;refine Et ?_;obtain⟨fh,fi,y,hy,dl,bV⟩:=hse2.eo q;have hc_347_lt:=bV.lt;refine jV (AY underlying27 ty76 rfl rfl dl Zl) ?_;replace bV:=bV.ext K0;refine kP ?_;intro fj fk ah ci au;have fl:=Ak a1.lt ah;have fm:=Ak a2.lt ah;have fn:=Ak a0.lt ah;have fo:=Ak a4.lt ah;have fp:=Ak a6.lt ah;have fq:=Ak a9.lt ah;have fr:=Ak a5.lt ah;have fs:=Ak aV.lt ah;have ft:=Ak bV.lt ah;have dm:=An a3.oL ah;have dn:=An a7.oL ah;have dp:=An a8.oL ah;have dq:=An aa.oL ah;have:=Aaa K0.size ah;clear ah;refine jR<|jS ci ?_;intro fu ci av;replace aV:=(aV.ext au).kp av;refine jG ?_;refine kE (GK Zk rfl rfl (GA x.dot y.dot)) ?_;refine jW ?_ (hx:=by exact λhg=>(JC Zk (B4 hg) (B4 hg) (Ji x y)));refine kE (Bo rfl rfl rfl) ?_;replace a1:=(a1.ext au).kp av;replace a2:=(a2.ext au).kp av;replace a0:=(a0.ext au).kp av;replace a4:=(a4.ext au).kp av;replace a6:=(a6.ext au).kp av;replace a9:=(a9.ext au).kp av;replace a5:=(a5.ext au).kp av;replace a3:=(a3.ext au).kO av (Aa dm);replace a7:=(a7.ext au).kO av (Aa dn);replace a8:=(a8.ext au).kO av (Aa dp);replace aa:=(aa.ext au).kO av (Aa dq);replace K0:=(K0.ext au).n1 av;refine jF ?_ ?_
   ·intro hc125;refine jG ?_;refine jV (AO (cells:=#[.slice none 0 0,.slice none 0 0,.slice none 0 0]) Zk) ?_;refine jR<|jS a0 ?_;intro fv a0 aJ;refine jG ?_;refine Ai.retCT (x:= .int .i64 50) (cs:=#[.slice none 0 0,.slice none 0 0,.slice none 0 0]) func83 rfl ty33 rfl rfl a0.cl rfl ?_;rw[Kl hca hcb hc44 hF (VD hx hy hc125.1 hc125.2)];replace a1:=a1.kp aJ;replace a2:=a2.kp aJ;replace a4:=a4.kp aJ;replace a6:=a6.kp aJ;replace a9:=a9.kp aJ;replace a5:=a5.kp aJ;replace aV:=aV.kp aJ;replace a3:=a3.kO aJ (Aa bk);replace a7:=a7.kO aJ (Aa bx);replace a8:=a8.kO aJ (Aa bz);replace aa:=aa.kO aJ (Aa bb);replace K0:=K0.n1 aJ;exact⟨_,rfl,none,0,none,0,none,0,rfl,Af.nil _ _,Af.nil _ _,Af.nil _ _,λ_ h_=>absurd h_ (Ad _),λ_ h_=>absurd h_ (Ad _),λ_ h_=>absurd h_ (Ad _),λ_ h_=>absurd h_ (Ad _),λ_ h_=>absurd h_ (Ad _),λ_ h_=>absurd h_ (Ad _),K0⟩
   intro hc125;refine jG ?_;refine kC q ?_;refine ih5 (q+1) _ _ ?_ Zo;refine⟨⟨rfl,rfl,rfl,rfl,rfl,rfl,rfl,rfl,rfl,rfl,rfl,trivial⟩,K0,a1,a2,a0,a4,a6,a9,a5,aV,a3,a7,a8,aa,?_,?_⟩
   ·omega
   exact Ej hcl2 (NK hy (λh_=>hc125.elim (λh2=>h2 h_.1) (λh2=>h_.2 h2)))
  intro hc113;refine jG ?_;refine kC i ?_;refine ih4 (i+1) _ _ ?_ Zo;refine⟨⟨rfl,rfl,rfl,rfl,rfl,rfl,trivial⟩,K0,a1,a2,a0,a4,a6,a9,a5,a3,a7,a8,aa,?_,?_⟩
  ·omega
  exact Ej hcl (NK hx (NJ hcl2 Zo))
 intro hc106;refine jG ?_;refine jR<|jS a0 ?_;intro fw a0 bW;refine jG ?_;refine Ai.retCT (x:= .int .i64 0) (cs:=#[.slice a' ((BO ms cl es ms2 cl2 es2).length) c',.slice ab ((AW ms cl ms2 cl2).2.1.length) af,.slice ad ((AW ms cl ms2 cl2).2.2.length) ag]) func83 rfl ty33 rfl rfl a0.cl rfl ?_;rw[IL hca hcb hc44 hF (VC hcl Zo)];replace a7:=a7.kO bW (Aa bx);replace a8:=a8.kO bW (Aa bz);replace aa:=aa.kO bW (Aa bb);replace K0:=K0.n1 bW;exact⟨_,rfl,a',c',ab,af,ad,ag,rfl,aa,a7,a8,bs,bt,cw,bu,cx,cy,K0⟩
end
section
open Wa
structure Mg where
 v:MV
 s:Gc
def Mg.c (m:Mg):Y1:=CY m.v m.s
def XF (ts:List Mg):Nat->Prop:=λq=>∃t∈ts,OZ t.s q
structure Tl (w:World)(t:Mg):Prop where
 own:Jk w t.s t.v
 apart:U0 t.s
 ok:IY t.v
structure D1 (w:World)(ts:List Mg):Prop where
 all:∀t∈ts,Tl w t
 apart:ts.Pairwise (λf g=>∀q,OZ f.s q->¬OZ g.s q)
def EH (s:Gc):Nat->Prop:=λq=>own s.ea q\/(own s.ma q\/own s.ca q)
def BS (s:Gc)(v:MV):Nat->Prop:=λq=>(v.ent≠ []/\own s.ea q)\/(v.mrk≠ []/\own s.ma q)\/(v.cl≠ []/\own s.ca q)
structure Bi (w:World)(s:Gc)(v:MV):Prop where
 ent:Ax w s.ea v.ent
 mrk:Ax w s.ma v.mrk
 cl:Ax w s.ca v.cl
structure DF (w:World)(s:Gc)(v:MV):Prop where
 ent:Af w 76 s.ea s.ec v.ent
 mrk:Af w 46 s.ma s.mc v.mrk
 cl:Af w 73 s.ca s.cc v.cl
structure IM (s:Gc):Prop where
 em:∀q,own s.ea q->¬own s.ma q
 ec:∀q,own s.ea q->¬own s.ca q
 mc:∀q,own s.ma q->¬own s.ca q
section
variable {w w':World}{S:Nat->Prop}{t p:Mg}{ts ks l1 l2:List Mg}{s:Gc}{v:MV}{i:Nat}{a:Option Addr}
def DF.oL (h:DF w s v):∀q,EH s q->q<w.heap.size:=by
 rintro q (hq|hq|hq)
 ·exact h.ent.oL q hq
 ·exact h.mrk.oL q hq
 exact h.cl.oL q hq
def DF.kO (h:DF w s v)(k:Ae S w w')(hn:∀q,EH s q->¬S q):DF w' s v:=
 ⟨h.ent.kO k λq hq=>hn q (.inl hq),h.mrk.kO k λq hq=>hn q (.inr (.inl hq)),h.cl.kO k λq hq=>hn q (.inr (.inr hq))⟩
def DF.ext (h:DF w s v)(k:As w w'):DF w' s v:=h.kO k λ_ _=>id
def DF.r (h:DF w s v):Bi w s v:=⟨h.ent.sl,h.mrk.sl,h.cl.sl⟩
def Bi.oL (h:Bi w s v):∀q,BS s v q->q<w.heap.size:=by
 rintro q (⟨h1,h2⟩|⟨h1,h2⟩|⟨h1,h2⟩)
 ·exact EZ h.ent h1 h2
 ·exact EZ h.mrk h1 h2
 exact EZ h.cl h1 h2
def Bi.kO (h:Bi w s v)(k:Ae S w w')(hn:∀q,BS s v q->¬S q):Bi w' s v:=
 ⟨h.ent.keepN k λx hx he=>hn x.block (.inl ⟨he,x,hx,rfl⟩),h.mrk.keepN k λx hx he=>hn x.block (.inr (.inl ⟨he,x,hx,rfl⟩)),h.cl.keepN k λx hx he=>hn x.block (.inr (.inr ⟨he,x,hx,rfl⟩))⟩
def cart_d :∀q,BS s v q->EH s q:=by
 rintro q (h|h|h)
 ·exact .inl h.2
 ·exact .inr (.inl h.2)
 exact .inr (.inr h.2)
def Bi.ext (h:Bi w s v)(k:As w w'):Bi w' s v:=⟨h.ent.ext k,h.mrk.ext k,h.cl.ext k⟩
def Jj.cart (h:Jj w s v):Bi w s v:=⟨h.ent,h.mrk,h.cl⟩
def Jk.cart (h:Jk w s v):DF w s v:=⟨h.ent,h.mrk,h.cl⟩
def U0.pairs (h:U0 s):(∀q,own s.ea q->¬own s.ma q)/\(∀q,own s.ea q->¬own s.ca q)/\(∀q,own s.ea q->¬own s.ba q)/\(∀q,own s.ea q->¬own s.pa q)/\(∀q,own s.ea q->¬own s.sa q)/\(∀q,own s.ma q->¬own s.ca q)/\(∀q,own s.ma q->¬own s.ba q)/\(∀q,own s.ma q->¬own s.pa q)/\(∀q,own s.ma q->¬own s.sa q)/\(∀q,own s.ca q->¬own s.ba q)/\(∀q,own s.ca q->¬own s.pa q)/\(∀q,own s.ca q->¬own s.sa q)/\(∀q,own s.ba q->¬own s.pa q)/\(∀q,own s.ba q->¬own s.sa q)/\(∀q,own s.pa q->¬own s.sa q):=
 ⟨List.pairwise_iff_getElem.1 h 0 1 Zs Zs Zd,List.pairwise_iff_getElem.1 h 0 2 Zs Zs Zd,List.pairwise_iff_getElem.1 h 0 3 Zs Zs Zd,List.pairwise_iff_getElem.1 h 0 4 Zs Zs Zd,List.pairwise_iff_getElem.1 h 0 5 Zs Zs Zd,List.pairwise_iff_getElem.1 h 1 2 Zs Zs Zd,List.pairwise_iff_getElem.1 h 1 3 Zs Zs Zd,List.pairwise_iff_getElem.1 h 1 4 Zs Zs Zd,List.pairwise_iff_getElem.1 h 1 5 Zs Zs Zd,List.pairwise_iff_getElem.1 h 2 3 Zs Zs Zd,List.pairwise_iff_getElem.1 h 2 4 Zs Zs Zd,List.pairwise_iff_getElem.1 h 2 5 Zs Zs Zd,List.pairwise_iff_getElem.1 h 3 4 Zs Zs Zd,List.pairwise_iff_getElem.1 h 3 5 Zs Zs Zd,List.pairwise_iff_getElem.1 h 4 5 Zs Zs Zd⟩
def U0.cart (h:U0 s):IM s:=by obtain⟨h1,h2,-,-,-,h3,-⟩:=h.pairs;exact⟨h1,h2,h3⟩
def Tl.kO (h:Tl w t)(k:Ae S w w')(hn:∀q,OZ t.s q->¬S q):Tl w' t:=⟨h.own.kO k hn,h.apart,h.ok⟩
def D1.oL (h:D1 w ts):∀q,XF ts q->q<w.heap.size:=λq ⟨f,hf,hq⟩=>(h.all f hf).own.oL q hq
def D1.kO (h:D1 w ts)(k:Ae S w w')(hn:∀q,XF ts q->¬S q):D1 w' ts:=⟨λf hf=>(h.all f hf).kO k (λq hq=>hn q ⟨f,hf,hq⟩),h.apart⟩
def D1.ext (h:D1 w ts)(k:As w w'):D1 w' ts:=h.kO k λ_ _=>id
def D1.nil (w:World):D1 w []:=⟨λ_ h=>absurd h Zs,List.Pairwise.nil⟩
def D1.sub (h:D1 w ts)(hs:l1.Sublist ts):D1 w l1:=⟨λf hf=>h.all f (hs.subset hf),h.apart.sublist hs⟩
def D1.snoc (h:D1 w ts)(ht:Tl w t)(hn:∀q,XF ts q->¬OZ t.s q):D1 w (ts++[t]):=by
 refine⟨λf hf=> ?_,List.pairwise_append.2 ⟨h.apart,List.pairwise_singleton _ _,λa ha c hc q h1 h2=> ?_⟩⟩
 ·rcases List.mem_append.1 hf with hf|hf
  ·exact h.all f hf
  simp only[Aah]at hf;subst hf;exact ht
 simp only[Aah]at hc;subst hc;exact hn q ⟨a,ha,h1⟩ h2
def mid_sub :(l1++l2).Sublist (l1++t::l2):=List.Sublist.append_left (Acp t l2) l1
def D1.open (h:D1 w ts)(e:ts=l1++p::l2):Tl w p/\D1 w (l1++l2)/\∀q,XF (l1++l2) q->¬OZ p.s q:=by
 subst e;refine⟨h.all p Zs,h.sub mid_sub,λq ⟨f,hf,hq⟩ h2=> ?_⟩;have hp:=h.apart;rcases List.mem_append.1 hf with hf|hf
 ·exact(List.pairwise_append.1 hp).2.2 f hf p Zs q hq h2
 exact(List.pairwise_cons.1 (List.pairwise_append.1 hp).2.1).1 f hf q h2 hq
def XG (w:World)(ks:List Mg):Prop:=∀m∈ks,Jj w m.s m.v/\IY m.v
def D1.r (h:D1 w ks):XG w ks:=λm hm=>⟨(h.all m hm).own.r,(h.all m hm).ok⟩
def XG.ext (h:XG w ks)(k:As w w'):XG w' ks:=λm hm=>⟨(h m hm).1.ext k,(h m hm).2⟩
end
attribute [local irreducible] X
def VI (v:MV)(s:Gc)(w:World)(hR:Bi w s v)(hv:IY v):
  Calls prog 42 #[.agg #[.slice s.ma v.mrk.length s.mc,.slice s.ca v.cl.length s.cc]] w (AU (λr w'=>∃a0 c0 a1 c1,r= .agg #[.slice a0 v.mrk.length c0,.slice a1 v.cl.length c1]/\Af w' 46 a0 c0 v.mrk/\Af w' 73 a1 c1 v.cl/\(∀q,own a0 q->¬own a1 q)/\(∀q,own a0 q->w.heap.size<=q)/\(∀q,own a1 q->w.heap.size<=q)/\As w w')):=by
 have hv0:=hv;obtain⟨hv1,hv2,hv3,hv4,hv5,hv6⟩:=hv;refine kD (n:=10) func42 ?_;refine kQ ?_;intro ak aq ai a3 aj;have:w.heap.size<=ak:=ai;clear ai;have K0:=(aj:As w _);refine kR ?_;intro ar au a4 a2 aa;have av:=Ak a3.lt a4;replace hR:=hR.ext aj;have aw:=An hR.oL a4;have:=Aaa K0.size a4;clear a4;refine jG ?_;refine Ai.drawS [7] [0,1001,3,1004,2002,2005,6,2007] ?_;intro ax a5;replace a3:=(a3.ext aa).ext a5;refine kF (jb a3 Jn) ?_;replace hR:=(hR.ext aa).ext a5;refine jU rfl<|jC (Hq _ _ _ _ hR.mrk Zo) ?_;rintro _ ay ⟨ab,ac,rfl,a6,ad,a7⟩;replace a2:=a2.ext a5;have al:=Ay ad a2.lt;replace K0:=(K0.ext aa).ext a5;have am:=Bg K0.size ad;clear ad;replace a3:=a3.ext a7;refine jG ?_;replace hR:=hR.ext a7;refine jU rfl<|jC (NF _ _ _ _ hR.cl Zo) ?_;rintro _ az ⟨ae,af,rfl,ag,a8,a9⟩;replace a2:=a2.ext a7;have an:=Ay a8 a2.lt;have ao:=Ag a8 a6.oL;replace K0:=K0.ext a7;have ap:=Bg K0.size a8;clear a8;replace a3:=a3.ext a9;refine jG ?_;refine jP ?_ (hx:=by exact λ_=>(AO (cells:=#[.slice ab v.mrk.length ac,.slice ae v.cl.length af]) Zk));replace a2:=a2.ext a9;refine jU rfl<|jS a2 ?_;intro aA a2 ah;refine jG ?_;refine Ai.retC (cs:=#[.slice ab v.mrk.length ac,.slice ae v.cl.length af]) func42 rfl ty31 rfl rfl a2.cl ?_;replace a6:=(a6.ext a9).kO ah (Aa al);replace K0:=(K0.ext a9).n1 ah;replace ag:=ag.kO ah (Aa an);exact⟨_,rfl,ab,ac,ae,af,rfl,a6,ag,(Zf ao),am,ap,K0⟩
def VJ (v:MV)(s:Gc)(w:World)(hR:Bi w s v)(hv:IY v):
  Calls prog 10 #[.agg #[.slice s.ea v.ent.length s.ec,.slice s.ma v.mrk.length s.mc,.slice s.ca v.cl.length s.cc]] w (AU (λr w'=>∃s',r= .agg #[.slice s'.ea v.ent.length s'.ec,.slice s'.ma v.mrk.length s'.mc,.slice s'.ca v.cl.length s'.cc]/\DF w' s' v/\IM s'/\(∀q,EH s' q->w.heap.size<=q)/\As w w')):=by
 have hv0:=hv;obtain⟨hv1,hv2,hv3,hv4,hv5,hv6⟩:=hv;refine kD (n:=10) func10 ?_;refine kQ ?_;intro am az ak a1 al;have:w.heap.size<=am:=ak;clear ak;have K0:=(al:As w _);refine kR ?_;intro aA aB a5 a0 aa;have aC:=Ak a1.lt a5;replace hR:=hR.ext al;have an:=An hR.oL a5;have:=Aaa K0.size a5;clear a5;refine jG ?_;refine Ai.drawS [7] [0,1001,3,1004,2002,2005,6,2007] ?_;intro aD a6;replace a1:=(a1.ext aa).ext a6;refine kF (jb a1 Jn) ?_;replace hR:=(hR.ext aa).ext a6;refine jU rfl<|jC (MG _ _ _ _ hR.ent Zo) ?_;rintro _ aE ⟨ab,ac,rfl,a2,ad,a7⟩;replace a0:=a0.ext a6;have ao:=Ay ad a0.lt;replace K0:=(K0.ext aa).ext a6;have ap:=Bg K0.size ad;clear ad;replace a1:=a1.ext a7;refine jG ?_;replace hR:=hR.ext a7;refine jU rfl<|jC (VI v s _ hR Za) ?_;rintro _ aF ⟨ae,af,ag,ah,rfl,ai,aj,aq,a8,a9,a3⟩;replace a0:=a0.ext a7;have ar:=Ay a8 a0.lt;have au:=Ag a8 a2.oL;replace K0:=K0.ext a7;have av:=Bg K0.size a8;have aw:=Ay a9 a0.lt;have ax:=Ag a9 a2.oL;have ay:=Bg K0.size a9;clear a8 a9;replace a1:=a1.ext a3;refine jG ?_;refine jP ?_ (hx:=by exact λ_=>(AO (cells:=#[.slice ab v.ent.length ac,.slice ae v.mrk.length af,.slice ag v.cl.length ah]) Zk));replace a0:=a0.ext a3;refine jU rfl<|jS a0 ?_;intro aG a0 a4;refine jG ?_;refine Ai.retC (cs:=#[.slice ab v.ent.length ac,.slice ae v.mrk.length af,.slice ag v.cl.length ah]) func10 rfl ty33 rfl rfl a0.cl ?_;replace hR:=(hR.ext a3).kO a4 (Aa an);replace a2:=(a2.ext a3).kO a4 (Aa ao);replace K0:=(K0.ext a3).n1 a4;replace ai:=ai.kO a4 (Aa ar);replace aj:=aj.kO a4 (Aa aw)
 exact⟨_,rfl,⟨ab,ac,ae,af,ag,ah,none,0,none,0,none,0⟩,rfl,⟨a2,ai,aj⟩,⟨(Zf au),(Zf ax),aq⟩,λq hq=>by
  rcases hq with hq|hq|hq
  ·exact ap q hq
  ·exact av q hq
  exact ay q hq,K0⟩
end
end Go.Proofs.YtjkaicjmfgekjaaGreatDoor
