/-
  Cq, Cr, Cs, Ct, Qa
-/
import Derived.Test.YtjkaicjmfgekjaaGreatDoorPkCo
set_option linter.all false
set_option maxRecDepth 100000
set_option maxHeartbeats 4000000
namespace Go.Proofs.YtjkaicjmfgekjaaGreatDoor
open Go.Proofs.Tryz
attribute [local irreducible] RD RS AA RL RA RT Cz Ai
section
def VP (a b:Aj):Bool:= !decide (D4 b a)
theorem SG (a b c:Aj)(h1:VP a b=true)(h2:VP b c=true):VP a c=true:=by
 simp only[VP,AaO,decide_eq_false_iff_not]at*
 intro h
 by_cases h3:D4 a b
 ·exact h2 (I7 _ _ _ h h3)
 ·obtain⟨e1,e2⟩:=Rh h3 h1
  refine h2 ?_
  unfold D4 at*
  rw[e1,e2]at h;exact h
def Ms (l:List Aj):List Aj:=l.mergeSort VP
theorem Mt {l:List Aj}{x:Aj}:x∈Ms l↔x∈l:=List.mem_mergeSort
theorem Mu (l:List Aj):(Ms l).length=l.length:=List.length_mergeSort _
def PV (l:List Aj):Prop:=l.Pairwise fun a b=>a.dot≠b.dot
def kA (es:List Aj)(ms2:List Ab)(cl2:List Ag)(es2:List Aj):List Aj:=es.filter fun x=>decide (x∈es2)|| !decide (Cb ms2 cl2 x.dot)
def kB (ms:List Ab)(cl:List Ag)(es2:List Aj):List Aj:=es2.filter fun x=> !decide (Cb ms cl x.dot)
def B2 (ms:List Ab)(cl:List Ag)(es:List Aj)(ms2:List Ab)(cl2:List Ag)(es2:List Aj):List Aj:=Ms (kA es ms2 cl2 es2++kB ms cl es2)
section
variable {ms ms2:List Ab}{cl cl2:List Ag}{es es2:List Aj}{x y:Aj}{i:Nat}
theorem GD.dotU (h:GD ms cl es):PV es:=by
 refine(h.sorted).imp_of_mem ?_
 intro a b ha hb hlt e
 exact Ng _ (h.dots ha hb e▸hlt)
theorem Nk (hx:x∈kA es ms2 cl2 es2):x∈es:=(List.mem_filter.1 hx).1
theorem kB_mem :x∈kB ms cl es2↔x∈es2∧¬Cb ms cl x.dot:=by simp[kB]
theorem ik (h:GD ms cl es)(hx:x∈kA es ms2 cl2 es2)(hy:y∈kB ms cl es2):x.dot≠y.dot:=fun e=>(kB_mem.1 hy).2 (e▸(h.mem (Nk hx)).2.2.2)
theorem WT (h:GD ms cl es)(h2:GD ms2 cl2 es2):PV (kA es ms2 cl2 es2++kB ms cl es2):=
 List.pairwise_append.2 ⟨h.dotU.filter _,h2.dotU.filter _,fun _ hx _ hy=>ik h hx hy⟩
theorem U4 (h:GD ms cl es)(h2:GD ms2 cl2 es2)(hx:es2[i]? =some x):
  ((x∈es∨¬Cb ms cl x.dot)∧x∉kA es ms2 cl2 es2++kB ms cl (es2.take i))↔¬Cb ms cl x.dot:=by
 constructor
 ·rintro⟨h3|h3,h4⟩
  ·exact absurd (AaM _ (List.mem_filter.2 ⟨h3,by simp[BI hx]⟩)) h4
  ·exact h3
 ·intro h3
  refine⟨.inr h3,fun h4=> ?_⟩
  rcases List.mem_append.1 h4 with h4|h4
  ·exact h3 (h.mem (Nk h4)).2.2.2
  ·exact(h2.ent i x hx).dots x (kB_mem.1 h4).1 rfl
theorem Rl (hx:es2[i]? =some x):kB ms cl (es2.take (i+1))=kB ms cl (es2.take i)++(if Cb ms cl x.dot then[]else[x]):=by
 unfold kB
 rw[DR hx,Abz]
 congr 1
 split<;>rename_i h<;>simp[h]
theorem Rm (hx:es[i]? =some x):kA (es.take (i+1)) ms2 cl2 es2=kA (es.take i) ms2 cl2 es2++(if x∈es2∨¬Cb ms2 cl2 x.dot then[x]else[]):=by
 unfold kA
 rw[DR hx,Abz]
 congr 1
 by_cases h1:x∈es2<;>by_cases h2:Cb ms2 cl2 x.dot<;>simp[h1,h2]
theorem kA_len :(kA es ms2 cl2 es2).length<=es.length:=AaT _ _
theorem kB_len :(kB ms cl es2).length<=es2.length:=AaT _ _
theorem kept_len :(B2 ms cl es ms2 cl2 es2).length<=es.length+es2.length:=by
 have h1:=kA_len (es:=es) (ms2:=ms2) (cl2:=cl2) (es2:=es2)
 have h2:=kB_len (ms:=ms) (cl:=cl) (es2:=es2)
 rw[B2,Mu,Aab];omega
theorem U5 (hx:x∈B2 ms cl es ms2 cl2 es2):x∈es∨x∈es2:=by
 rw[B2,Mt,Aak]at hx
 exact hx.elim (fun h=> .inl (Nk h)) (fun h=> .inr (kB_mem.1 h).1)
def GM (es es2:List Aj):Prop:=∃x∈es,∃y∈es2,x.dot=y.dot∧x≠y
open Classical in
noncomputable def BN (ms:List Ab)(cl:List Ag)(es:List Aj)(ms2:List Ab)(cl2:List Ag)(es2:List Aj):Int×(List Ab×List Ag)×List Aj:=
 if Br ms cl es≠0 then(Br ms cl es,([],[]),[])else if Br ms2 cl2 es2≠0 then(Br ms2 cl2 es2,([],[]),[])
 else if (AU ms cl ms2 cl2).1≠0 then((AU ms cl ms2 cl2).1,([],[]),[])
 else if 64<(B2 ms cl es ms2 cl2 es2).length∨32<itemsN (B2 ms cl es ms2 cl2 es2)then(51,([],[]),[])
 else if GM es es2 then(50,([],[]),[])else(0,(AU ms cl ms2 cl2).2,B2 ms cl es ms2 cl2 es2)
theorem JX (h:Br ms cl es≠0):BN ms cl es ms2 cl2 es2=(Br ms cl es,([],[]),[]):=by rw[BN,if_pos h]
theorem JY (h:Br ms cl es=0)(h2:Br ms2 cl2 es2≠0):BN ms cl es ms2 cl2 es2=(Br ms2 cl2 es2,([],[]),[]):=by rw[BN,if_neg (not_not_intro h),if_pos h2]
theorem JZ (h:Br ms cl es=0)(h2:Br ms2 cl2 es2=0)(h3:(AU ms cl ms2 cl2).1≠0):BN ms cl es ms2 cl2 es2=((AU ms cl ms2 cl2).1,([],[]),[]):=by rw[BN,if_neg (not_not_intro h),if_neg (not_not_intro h2),if_pos h3]
theorem J0 (h:Br ms cl es=0)(h2:Br ms2 cl2 es2=0)(h3:(AU ms cl ms2 cl2).1=0)(h4:64<(B2 ms cl es ms2 cl2 es2).length∨32<itemsN (B2 ms cl es ms2 cl2 es2)):BN ms cl es ms2 cl2 es2=(51,([],[]),[]):=by
 rw[BN,if_neg (not_not_intro h),if_neg (not_not_intro h2),if_neg (not_not_intro h3),if_pos h4]
theorem J1 (h:Br ms cl es=0)(h2:Br ms2 cl2 es2=0)(h3:(AU ms cl ms2 cl2).1=0)(h4:¬(64<(B2 ms cl es ms2 cl2 es2).length∨32<itemsN (B2 ms cl es ms2 cl2 es2)))(h5:GM es es2):BN ms cl es ms2 cl2 es2=(50,([],[]),[]):=by
 rw[BN,if_neg (not_not_intro h),if_neg (not_not_intro h2),if_neg (not_not_intro h3),if_neg h4,if_pos h5]
theorem Ix (h:Br ms cl es=0)(h2:Br ms2 cl2 es2=0)(h3:(AU ms cl ms2 cl2).1=0)(h4:¬(64<(B2 ms cl es ms2 cl2 es2).length∨32<itemsN (B2 ms cl es ms2 cl2 es2)))(h5:¬GM es es2):BN ms cl es ms2 cl2 es2=(0,(AU ms cl ms2 cl2).2,B2 ms cl es ms2 cl2 es2):=by
 rw[BN,if_neg (not_not_intro h),if_neg (not_not_intro h2),if_neg (not_not_intro h3),if_neg h4,if_neg h5]
theorem joinC_len :(BN ms cl es ms2 cl2 es2).2.2.length<=64:=by
 unfold BN
 split
 ·simp
 ·split
  ·simp
  ·split
   ·simp
   ·split
    ·simp
    ·split
     ·simp
     ·simp only;omega
theorem PW (hx:x∈(BN ms cl es ms2 cl2 es2).2.2):x∈es∨x∈es2:=by
 unfold BN at hx
 split at hx
 ·simp at hx
 ·split at hx
  ·simp at hx
  ·split at hx
   ·simp at hx
   ·split at hx
    ·simp at hx
    ·split at hx
     ·simp at hx
     ·exact U5 hx
end
theorem WU (es:List Aj)(ms2:List Ab)(cl2:List Ag)(es2:List Aj):kA (es.take 0) ms2 cl2 es2=[]:=rfl
theorem WV (ms:List Ab)(cl:List Ag)(es2:List Aj):kB ms cl (es2.take 0)=[]:=rfl
theorem WW {es es2:List Aj}{ms2:List Ab}{cl2:List Ag}{i:Nat}:(kA (es.take i) ms2 cl2 es2).length<=i:=Aaa kA_len Zt
theorem WX {es2:List Aj}{ms:List Ab}{cl:List Ag}{i:Nat}:(kB ms cl (es2.take i)).length<=i:=Aaa kB_len Zt
theorem U6 {es es2:List Aj}{i:Nat}(h:∀j,j<i->∀x,es[j]? =some x->∀y∈es2,¬(x.dot=y.dot∧x≠y))(hi:es.length<=i):¬GM es es2:=by
 rintro⟨x,hx,y,hy,h2⟩
 exact M8 h hi x hx y hy h2
theorem U7 {es es2:List Aj}{i j:Nat}{x y:Aj}(hx:es[i]? =some x)(hy:es2[j]? =some y)(h1:x.dot=y.dot)(h2:¬x=y):GM es es2:=⟨x,BI hx,y,BI hy,h1,h2⟩
theorem I8 {ms ms2:List Ab}{cl cl2:List Ag}:(AU ms cl ms2 cl2).2.1.length<=64∧(AU ms cl ms2 cl2).2.2.length<=64:=by
 unfold AU
 split
 ·unfold B9
  split
  ·simp
  ·split
   ·simp
   ·simp only;omega
 ·simp
attribute [local irreducible] AC DQ Cp BH Bz B4 Cb D4 Cj itemsN BW AO Br BK Gr AP A4 B2 BN AU GM
end
section
theorem Fr.kept {ms ms2:List Ab}{cl cl2:List Ag}{es es2:List Aj}(h:Fr es)(h2:Fr es2):Fr (BN ms cl es ms2 cl2 es2).2.2:=fun x hx=>(PW hx).elim (h x) (h2 x)
attribute [local irreducible] AC DQ Cp BH Bz B4 Cb D4 Cj itemsN BW AO Br BK Gr AP A4 B2 BN AU GM
end
section
theorem PV.uniq {l:List Aj}(h:PV l){x y:Aj}(hx:x∈l)(hy:y∈l)(e:x.dot=y.dot):x=y:=by
 obtain⟨i,hi,rfl⟩:=AaG hx
 obtain⟨j,hj,rfl⟩:=AaG hy
 rcases Nat.lt_trichotomy i j with hlt|rfl|hlt
 ·exact absurd e (D1 h hlt (List.getElem?_eq_getElem hi) (List.getElem?_eq_getElem hj))
 ·rfl
 ·exact absurd e.symm (D1 h hlt (List.getElem?_eq_getElem hj) (List.getElem?_eq_getElem hi))
theorem U8 (ms:List Ab)(cl:List Ag)(es:List Aj)(ms2:List Ab)(cl2:List Ag)(es2:List Aj):Ms (kA es ms2 cl2 es2++kB ms cl es2)=B2 ms cl es ms2 cl2 es2:=rfl
theorem Mv (ms:List Ab)(cl:List Ag)(es:List Aj)(ms2:List Ab)(cl2:List Ag)(es2:List Aj):(kA es ms2 cl2 es2++kB ms cl es2).length=(B2 ms cl es ms2 cl2 es2).length:=(Mu _).symm
section
open Go.Shelf Go.RowKit Go.Lib Go.Sort
def XP {ys:List Aj}(x y:{e:Aj//e∈ys}):Int:=Iw x.1 y.1
theorem gM (ys:List Aj):SWO (ltOf (XP (ys:=ys))) where
 irrefl x:=by simp only[ltOf,XP];exact decide_eq_false (fun h=>Ng _ (EV.1 h))
 trans x y z h1 h2:=by simp only[ltOf,XP]at*;exact decide_eq_true (EV.2 (I7 _ _ _ (EV.1 (of_decide_eq_true h1)) (EV.1 (of_decide_eq_true h2))))
 ntrans x y z h1 h2:=by
  simp only[ltOf,XP,decide_eq_false_iff_not,EV]at*
  have h:=SG z.1 y.1 x.1 (by simpa[VP]using h2) (by simpa[VP]using h1)
  simpa[VP]using h
theorem U9 {a:Option Addr}{xs ys:List Aj}{c:Nat}{w:World}(y0:Aj)(hy0:y0∈ys)(hsub:∀x∈xs,x∈ys)(ho:Af w 76 a c xs)(hm:∀x∈ys,AC x.dot)(hu:PV ys)(hl:xs.length<=4294967295):
  Calls prog 151 #[.slice a xs.length c,.func (.func 145) #[] #[]] w (AN fun v w'=>v= .tuple #[]∧Af w' 76 a c (Ms xs)∧Ad (own a) w w'):=by
 letI:Inhabited {e:Aj//e∈ys}:=⟨⟨y0,hy0⟩⟩
 have e:(xs.attachWith (·∈ys) hsub).map Subtype.val=xs:=Acq hsub
 have h:=Nb (α:={e:Aj//e∈ys}) (β:=Aj) sortEL Subtype.val Tryz.isAgg76 Tryz.sizeOf76 XP (gM ys)
  (fun x y h1 h2=>by simp only[ltOf,XP,decide_eq_false_iff_not,EV]at h1 h2;exact Subtype.ext (hu.uniq x.2 y.2 (Rh h1 h2).2))
  145 (Du func145 rfl Zk) (fun x y W=>(XO x.1 y.1 W (hm _ x.2).sm (hm _ y.2).sm).mono fun e w' ⟨v,h1,h2,_,h3⟩=>by unfold Gr at h3;exact⟨by rw[h1,h2];rfl,h3⟩) (xs.attachWith (·∈ys) hsub) (by rw[e];exact ho) (by rw[Acr];exact hl)
 rw[KV Subtype.val (fun x y=> !(ltOf XP) y x) VP (fun a b=>by simp only[ltOf,XP,VP,EV]),e]at h
 exact h
theorem Va {a:Option Addr}{xs:List Aj}{c:Nat}{w:World}(ho:Af w 76 a c xs)(hm:∀x∈xs,AC x.dot)(hu:PV xs)(hl:xs.length<=4294967295):
  Calls prog 151 #[.slice a xs.length c,.func (.func 145) #[] #[]] w (AN fun v w'=>v= .tuple #[]∧Af w' 76 a c (Ms xs)∧Ad (own a) w w'):=by
 cases xs with
 |cons x t=>exact U9 (ys:=x::t) x Zs (fun _ h=>h) ho hm hu hl
 |nil=>exact U9 (ys:=[⟨⟨#[]⟩,⟨0,1,1⟩,0,0⟩]) ⟨⟨#[]⟩,⟨0,1,1⟩,0,0⟩ Zs (fun _ h=>by cases h) ho (fun x hx=>by rw[Aah]at hx;subst hx;unfold AC;decide) (by simp[PV]) hl
end
attribute [local irreducible] AC DQ Cp BH Bz B4 Cb D4 Cj itemsN BW AO Br BK Gr AP A4 B2 BN AU GM kA kB X
theorem Vb (x:Aj)(am:Option Addr)(ms:List Ab)(cm:Nat)(ac:Option Addr)(cl:List Ag)(cc:Nat)(ae:Option Addr)(es:List Aj)(ce:Nat)(w:World)(hs:Av w am ms)(ht:Av w ac cl)(hse:Av w ae es)(hl:ms.length<=4294967295)(hl2:cl.length<=4294967295)(hl3:es.length<=4294967295):
  Calls prog 149 #[.agg #[.string x.item,.int .i64 x.dot.node,.int .i64 x.dot.life,.int .i64 x.dot.count,.int .i64 x.qty,.int .u64 x.price],.agg #[.slice ae es.length ce,.slice am ms.length cm,.slice ac cl.length cc]] w (AN (fun v w'=>v= .bool (decide (x∈es∨¬Cb ms cl x.dot))∧Ap w w')):=by
 refine Ac (n:=17) func149 rfl rfl rfl ?_;refine jG ?_;refine jR<|jB ?_;intro a6 a9 a3 a0 a7;have:w.heap.size<=a6:=a3;clear a3;have K0:=(a7:Ap w _);refine jR<|jB ?_;intro aa ab a1 a4 a5;have ad:=Ak a0.lt a1;have:=Aaa K0.size a1;clear a1;replace a0:=a0.ext a5;refine jG ?_;replace K0:=K0.ext a5;refine jR<|jC (Io _ _ _ x _ (hse.ext K0) Zo) ?_;rintro _ af ⟨rfl,a2⟩;replace a0:=a0.ext a2;replace a4:=a4.ext a2;refine jG ?_;replace K0:=K0.ext a2;refine RL.gcall (vals:=[.agg #[.slice am ms.length cm,.slice ac cl.length cc],.agg #[.int .i64 x.dot.node,.int .i64 x.dot.life,.int .i64 x.dot.count]]) (BZ rfl rfl rfl rfl) en144.h (fun hg=>(CR (BR hg) (CR (BR hg) Hw))) (fun hg=>(JV am ms cm ac cl cc x.dot _ (hs.ext K0) (ht.ext K0) Zo Zo)) ?_;intro ag a8;refine jG ?_;refine jV (D8 rfl rfl rfl) ?_;refine jG ?_;refine jJ func149 ?_;replace K0:=K0.ext a8;exact⟨_,rfl,congrArg Value.bool Zq,K0⟩
theorem fS (am:Option Addr)(ms:List Ab)(cm:Nat)(ac:Option Addr)(cl:List Ag)(cc:Nat)(ae:Option Addr)(es:List Aj)(ce:Nat)(w:World)(hcap:es.length<=ce)(hs:Av w am ms)(ht:Av w ac cl)(hse:Av w ae es)(hl:ms.length<=4294967295)(hl2:cl.length<=4294967295)(hl3:es.length<=4294967295)(hbad:64<es.length∨32<itemsN es):
  Calls prog 152 #[.agg #[.slice ae es.length ce,.slice am ms.length cm,.slice ac cl.length cc]] w (AN (fun v w'=>v= .tuple #[.agg #[.slice none 0 0,.slice none 0 0,.slice none 0 0],.int .i64 51]∧Ap w w')):=by
 refine Ac (n:=16) func152 rfl rfl rfl ?_;refine jG ?_;refine jR<|jB ?_;intro a6 a9 a3 a1 a7;have:w.heap.size<=a6:=a3;clear a3;have K0:=(a7:Ap w _);refine jR<|jA ?_;intro aa ab a2 a0 a4;have ad:=Ak a1.lt a2;have:=Aaa K0.size a2;clear a2;replace a1:=a1.ext a4;refine jG ?_;replace K0:=K0.ext a4;refine RL.gcall (vals:=[.slice ae es.length ce]) (BZ rfl rfl rfl rfl) en81.h (fun hg=>(CR (BR hg) Hw)) (fun hg=>(U3 _ es _ _ (hse.ext K0) hcap Zo)) ?_;intro af a5;refine jG ?_;refine jV (D8 rfl rfl rfl) ?_;refine jG ?_;replace a0:=a0.ext a5;replace K0:=K0.ext a5;refine jF ?_ ?_
 ·intro hc13
  refine jG ?_;refine jV (AI (cells:=#[.slice none 0 0,.slice none 0 0,.slice none 0 0]) Zk) ?_;refine jR<|jS a0 ?_;intro ag a0 a8;refine jG ?_;refine Ai.retCT (x:= .int .i64 51) (cs:=#[.slice none 0 0,.slice none 0 0,.slice none 0 0]) func152 rfl ty33 rfl rfl a0.cl rfl ?_;replace K0:=K0.n1 a8;exact⟨_,rfl,rfl,K0⟩
 ·intro hc13
  exact absurd hbad Zo
theorem fT (am:Option Addr)(ms:List Ab)(cm:Nat)(ac:Option Addr)(cl:List Ag)(cc:Nat)(ae:Option Addr)(es:List Aj)(ce:Nat)(w:World)(hcap:es.length<=ce)(hs:Av w am ms)(ht:Av w ac cl)(hse:Av w ae es)(hl:ms.length<=4294967295)(hl2:cl.length<=4294967295)(hl3:es.length<=4294967295)(hbad:¬(64<es.length∨32<itemsN es)):
  Calls prog 152 #[.agg #[.slice ae es.length ce,.slice am ms.length cm,.slice ac cl.length cc]] w (AN (fun v w'=>v= .tuple #[.agg #[.slice ae es.length ce,.slice am ms.length cm,.slice ac cl.length cc],.int .i64 0]∧Ap w w')):=by
 refine Ac (n:=16) func152 rfl rfl rfl ?_;refine jG ?_;refine jR<|jB ?_;intro a6 a9 a4 a0 a7;have:w.heap.size<=a6:=a4;clear a4;have K0:=(a7:Ap w _);refine jR<|jA ?_;intro aa ab a2 a1 a5;have ad:=Ak a0.lt a2;have:=Aaa K0.size a2;clear a2;replace a0:=a0.ext a5;refine jG ?_;replace K0:=K0.ext a5;refine RL.gcall (vals:=[.slice ae es.length ce]) (BZ rfl rfl rfl rfl) en81.h (fun hg=>(CR (BR hg) Hw)) (fun hg=>(U3 _ es _ _ (hse.ext K0) hcap Zo)) ?_;intro af a3;refine jG ?_;refine jV (D8 rfl rfl rfl) ?_;refine jG ?_;replace a0:=a0.ext a3;replace a1:=a1.ext a3;replace K0:=K0.ext a3;refine jF ?_ ?_
 ·intro hc13
  exact absurd hc13 Zo
 ·intro hc13
  refine jG ?_;refine jR<|jS a1 ?_;intro ag a1 a8;refine jG ?_;refine Ai.retCT (x:= .int .i64 0) (cs:=#[.slice ae es.length ce,.slice am ms.length cm,.slice ac cl.length cc]) func152 rfl ty33 rfl rfl a1.cl rfl ?_;replace K0:=K0.n1 a8;exact⟨_,rfl,rfl,K0⟩
end
section
instance : Enc Ba:=Enc.struct (fun t=>[.slice t.entries.a t.entries.len t.entries.cap,.slice t.ctx.marks.a t.ctx.marks.len t.ctx.marks.cap,.slice t.ctx.cloud.a t.ctx.cloud.len t.ctx.cloud.cap]) 3 (fun _=>rfl) (fun _ v hv=>by simp at hv;rcases hv with rfl|rfl|rfl<;>rfl) Zd
theorem Mw {ms ms2:List Ab}{cl cl2:List Ag}{es es2:List Aj}{i:Nat}{x:Aj}(h:GD ms cl es)(h2:GD ms2 cl2 es2)(hx:es2[i]? =some x):
  ((x∈es∨¬Cb ms cl x.dot)∧(kA es ms2 cl2 es2++kB ms cl (es2.take i)).any (x==·)=false)↔¬Cb ms cl x.dot:=by
 have e:(kA es ms2 cl2 es2++kB ms cl (es2.take i)).any (x==·)=true↔x∈kA es ms2 cl2 es2++kB ms cl (es2.take i):=by
  rw[Aa9]
  exact⟨fun⟨y,hy,h⟩=>by rw[beq_iff_eq.1 h];exact hy,fun h=>⟨x,h,beq_self_eq_true x⟩⟩
 exact(and_congr_right fun _=>(Bool.not_eq_true _).symm.to_iff.trans (not_congr e)).trans (U4 h h2 hx)
attribute [local irreducible] AC DQ Cp BH Bz B4 Cb D4 Cj itemsN BW AO Br BK Gr AP A4 B2 BN AU GM kA kB X
theorem YI (am:Option Addr)(ms:List Ab)(cm:Nat)(ac:Option Addr)(cl:List Ag)(cc:Nat)(ae:Option Addr)(es:List Aj)(ce:Nat)(am2:Option Addr)(ms2:List Ab)(cm2:Nat)(ac2:Option Addr)(cl2:List Ag)(cc2:Nat)(ae2:Option Addr)(es2:List Aj)(ce2:Nat)(w:World)(hcap:es.length<=ce)(hcap2:es2.length<=ce2)(hs:Av w am ms)(ht:Av w ac cl)(hse:Av w ae es)(hs2:Av w am2 ms2)(ht2:Av w ac2 cl2)(hse2:Av w ae2 es2)(hl:ms.length<=4294967295)(hl2:cl.length<=4294967295)(hl3:es.length<=4294967295)(hl4:ms2.length<=4294967295)(hl5:cl2.length<=4294967295)(hl6:es2.length<=4294967295)(hb:Fr es)(hb2:Fr es2):
  Calls prog 83 #[.agg #[.slice ae es.length ce,.slice am ms.length cm,.slice ac cl.length cc],.agg #[.slice ae2 es2.length ce2,.slice am2 ms2.length cm2,.slice ac2 cl2.length cc2]] w (AN (fun v w'=>∃ae ce am cm ac cc,v= .tuple #[.agg #[.slice ae (BN ms cl es ms2 cl2 es2).2.2.length ce,.slice am (BN ms cl es ms2 cl2 es2).2.1.1.length cm,.slice ac (BN ms cl es ms2 cl2 es2).2.1.2.length cc],.int .i64 (BN ms cl es ms2 cl2 es2).1]∧Af w' 76 ae ce (BN ms cl es ms2 cl2 es2).2.2∧Af w' 46 am cm (BN ms cl es ms2 cl2 es2).2.1.1∧Af w' 73 ac cc (BN ms cl es ms2 cl2 es2).2.1.2∧(∀q,own ae q->¬own am q)∧(∀q,own ae q->¬own ac q)∧(∀q,own am q->¬own ac q)∧(∀q,own ae q->w.heap.size<=q)∧(∀q,own am q->w.heap.size<=q)∧(∀q,own ac q->w.heap.size<=q)∧Ap w w')):=by
 refine Ac (n:=130) func83 rfl rfl rfl ?_;refine jG ?_;refine jR<|jB ?_;intro aw dr c3 a1 cj;have:w.heap.size<=aw:=c3;clear c3;have K0:=(cj:Ap w _);refine jR<|jB ?_;intro al ds bX a2 c4;have dt:=Ak a1.lt bX;have:=Aaa K0.size bX;clear bX;refine jR<|jA ?_;intro an du bv a0 bY;replace a1:=a1.ext c4;have dv:=Ak a1.lt bv;have dw:=Ak a2.lt bv;replace K0:=K0.ext c4;have:=Aaa K0.size bv;clear bv;replace a1:=a1.ext bY;replace a2:=a2.ext bY;refine jG ?_;refine jR<|AA.buildSlice ([(⟨⟨ae,es.length,ce⟩,⟨⟨am,ms.length,cm⟩,⟨ac,cl.length,cc⟩⟩⟩:Ba),(⟨⟨ae2,es2.length,ce2⟩,⟨⟨am2,ms2.length,cm2⟩,⟨ac2,cl2.length,cc2⟩⟩⟩:Ba)]:List Ba) underlying22 ty33 rfl rfl Ze ?_;intro b6 dx c5 a3 bw;have bk:=Aw (CV c5) a0.lt;clear c5;refine jV (Az (c:=2) (Cw underlying22 rfl) rfl) ?_;refine jG ?_;refine Ai.unloop ?_;refine jG ?_;refine C4 ?_;refine El ?_;obtain⟨dy,dz,ck,cn,co,c6⟩:=a3.sl.el (i:=0) Zs;obtain rfl:(⟨⟨ae,es.length,ce⟩,⟨⟨am,ms.length,cm⟩,⟨ac,cl.length,cc⟩⟩⟩:Ba)=ck:=Option.some.inj cn;refine jV (AS underlying22 ty33 rfl rfl co Zs) ?_;refine jV (C7 (v':= .agg #[.slice ae es.length ce,.slice am ms.length cm,.slice ac cl.length cc]) (BQ (v:= .agg #[.slice ((⟨⟨ae,es.length,ce⟩,⟨⟨am,ms.length,cm⟩,⟨ac,cl.length,cc⟩⟩⟩:Ba).entries.a) ((⟨⟨ae,es.length,ce⟩,⟨⟨am,ms.length,cm⟩,⟨ac,cl.length,cc⟩⟩⟩:Ba).entries.len) ((⟨⟨ae,es.length,ce⟩,⟨⟨am,ms.length,cm⟩,⟨ac,cl.length,cc⟩⟩⟩:Ba).entries.cap),.slice (((⟨⟨ae,es.length,ce⟩,⟨⟨am,ms.length,cm⟩,⟨ac,cl.length,cc⟩⟩⟩:Ba).ctx).marks.a) (((⟨⟨ae,es.length,ce⟩,⟨⟨am,ms.length,cm⟩,⟨ac,cl.length,cc⟩⟩⟩:Ba).ctx).marks.len) (((⟨⟨ae,es.length,ce⟩,⟨⟨am,ms.length,cm⟩,⟨ac,cl.length,cc⟩⟩⟩:Ba).ctx).marks.cap),.slice (((⟨⟨ae,es.length,ce⟩,⟨⟨am,ms.length,cm⟩,⟨ac,cl.length,cc⟩⟩⟩:Ba).ctx).cloud.a) (((⟨⟨ae,es.length,ce⟩,⟨⟨am,ms.length,cm⟩,⟨ac,cl.length,cc⟩⟩⟩:Ba).ctx).cloud.len) (((⟨⟨ae,es.length,ce⟩,⟨⟨am,ms.length,cm⟩,⟨ac,cl.length,cc⟩⟩⟩:Ba).ctx).cloud.cap)]) (y:=(⟨⟨ae,es.length,ce⟩,⟨⟨am,ms.length,cm⟩,⟨ac,cl.length,cc⟩⟩⟩:Ba)) ty33 rfl c6 rfl) rfl) ?_;refine jR<|jA ?_;intro b0 dA b8 a4 bl;replace a1:=a1.ext bw;have dB:=Ak a1.lt b8;replace a2:=a2.ext bw;have dC:=Ak a2.lt b8;replace a0:=a0.ext bw;have dD:=Ak a0.lt b8;have dE:=Ak c6.lt b8;have cp:=An a3.oL b8;replace K0:=(K0.ext bY).ext bw;have:=Aaa K0.size b8;clear b8;refine jR<|jS a4 ?_;intro dF a4 bm;refine jG ?_;replace K0:=(K0.ext bl).n1 bm;refine jR<|jC (Rk am ms cm ac cl cc ae es ce _ hcap (hs.ext K0) (ht.ext K0) (hse.ext K0) Zo Zo Zo hb) ?_;rintro _ dG ⟨rfl,bc⟩;refine jG ?_;replace a1:=((a1.ext bl).kp bm).ext bc;replace a2:=((a2.ext bl).kp bm).ext bc;replace a0:=((a0.ext bl).kp bm).ext bc;replace a3:=((a3.ext bl).kO bm (Aa cp)).ext bc;replace a4:=a4.ext bc;replace K0:=K0.ext bc;refine jF ?_ ?_
 ·intro hc31
  refine jG ?_;refine jV (AI (cells:=#[.slice none 0 0,.slice none 0 0,.slice none 0 0]) Zk) ?_;refine jG ?_;refine jR<|jS a0 ?_;intro dH a0 bn;refine jG ?_;refine Ai.retCT (x:= .int .i64 (Br ms cl es)) (cs:=#[.slice none 0 0,.slice none 0 0,.slice none 0 0]) func83 rfl ty33 rfl rfl a0.cl rfl ?_;rw[JX hc31];replace a1:=a1.kp bn;replace a2:=a2.kp bn;replace a3:=a3.kO bn (Aa bk);replace a4:=a4.kp bn;replace K0:=K0.n1 bn;exact⟨_,rfl,none,0,none,0,none,0,rfl,Af.nil _ _,Af.nil _ _,Af.nil _ _,fun _ h_=>absurd h_ (Ae _),fun _ h_=>absurd h_ (Ae _),fun _ h_=>absurd h_ (Ae _),fun _ h_=>absurd h_ (Ae _),fun _ h_=>absurd h_ (Ae _),fun _ h_=>absurd h_ (Ae _),K0⟩
 ·intro hc31
  have hca:=hc31;refine jG ?_;refine jV (Az (c:=1) (Au rfl rfl Zd Zd) Zd) ?_;refine jG ?_;refine Ai.inLoop ?_;refine jG ?_;refine C4 ?_;refine El ?_;obtain⟨dI,dJ,cq,cr,ct,c7⟩:=a3.sl.el (i:=1) Zs;obtain rfl:(⟨⟨ae2,es2.length,ce2⟩,⟨⟨am2,ms2.length,cm2⟩,⟨ac2,cl2.length,cc2⟩⟩⟩:Ba)=cq:=Option.some.inj cr;refine jV (AS underlying22 ty33 rfl rfl ct Zs) ?_;refine jV (C7 (v':= .agg #[.slice ae2 es2.length ce2,.slice am2 ms2.length cm2,.slice ac2 cl2.length cc2]) (BQ (v:= .agg #[.slice ((⟨⟨ae2,es2.length,ce2⟩,⟨⟨am2,ms2.length,cm2⟩,⟨ac2,cl2.length,cc2⟩⟩⟩:Ba).entries.a) ((⟨⟨ae2,es2.length,ce2⟩,⟨⟨am2,ms2.length,cm2⟩,⟨ac2,cl2.length,cc2⟩⟩⟩:Ba).entries.len) ((⟨⟨ae2,es2.length,ce2⟩,⟨⟨am2,ms2.length,cm2⟩,⟨ac2,cl2.length,cc2⟩⟩⟩:Ba).entries.cap),.slice (((⟨⟨ae2,es2.length,ce2⟩,⟨⟨am2,ms2.length,cm2⟩,⟨ac2,cl2.length,cc2⟩⟩⟩:Ba).ctx).marks.a) (((⟨⟨ae2,es2.length,ce2⟩,⟨⟨am2,ms2.length,cm2⟩,⟨ac2,cl2.length,cc2⟩⟩⟩:Ba).ctx).marks.len) (((⟨⟨ae2,es2.length,ce2⟩,⟨⟨am2,ms2.length,cm2⟩,⟨ac2,cl2.length,cc2⟩⟩⟩:Ba).ctx).marks.cap),.slice (((⟨⟨ae2,es2.length,ce2⟩,⟨⟨am2,ms2.length,cm2⟩,⟨ac2,cl2.length,cc2⟩⟩⟩:Ba).ctx).cloud.a) (((⟨⟨ae2,es2.length,ce2⟩,⟨⟨am2,ms2.length,cm2⟩,⟨ac2,cl2.length,cc2⟩⟩⟩:Ba).ctx).cloud.len) (((⟨⟨ae2,es2.length,ce2⟩,⟨⟨am2,ms2.length,cm2⟩,⟨ac2,cl2.length,cc2⟩⟩⟩:Ba).ctx).cloud.cap)]) (y:=(⟨⟨ae2,es2.length,ce2⟩,⟨⟨am2,ms2.length,cm2⟩,⟨ac2,cl2.length,cc2⟩⟩⟩:Ba)) ty33 rfl c7 rfl) rfl) ?_;refine jR<|jA ?_;intro b1 dK b7 a6 be;have dL:=Ak a1.lt b7;have dM:=Ak a2.lt b7;have dN:=Ak a0.lt b7;have dO:=Ak a4.lt b7;have dP:=Ak c7.lt b7;have cu:=An a3.oL b7;have:=Aaa K0.size b7;clear b7;refine jR<|jS a6 ?_;intro dQ a6 bg;refine jG ?_;replace K0:=(K0.ext be).n1 bg;refine jR<|jC (Rk am2 ms2 cm2 ac2 cl2 cc2 ae2 es2 ce2 _ hcap2 (hs2.ext K0) (ht2.ext K0) (hse2.ext K0) Zo Zo Zo hb2) ?_;rintro _ dR ⟨rfl,b9⟩;refine jG ?_;replace a1:=((a1.ext be).kp bg).ext b9;replace a2:=((a2.ext be).kp bg).ext b9;replace a0:=((a0.ext be).kp bg).ext b9;replace a3:=((a3.ext be).kO bg (Aa cu)).ext b9;replace a4:=((a4.ext be).kp bg).ext b9;replace a6:=a6.ext b9;replace K0:=K0.ext b9;refine jF ?_ ?_
  ·intro hc31
   refine jG ?_;refine jV (AI (cells:=#[.slice none 0 0,.slice none 0 0,.slice none 0 0]) Zk) ?_;refine jG ?_;refine jR<|jS a0 ?_;intro dS a0 bh;refine jG ?_;refine Ai.retCT (x:= .int .i64 (Br ms2 cl2 es2)) (cs:=#[.slice none 0 0,.slice none 0 0,.slice none 0 0]) func83 rfl ty33 rfl rfl a0.cl rfl ?_;rw[JY hca hc31];replace a1:=a1.kp bh;replace a2:=a2.kp bh;replace a3:=a3.kO bh (Aa bk);replace a4:=a4.kp bh;replace a6:=a6.kp bh;replace K0:=K0.n1 bh;exact⟨_,rfl,none,0,none,0,none,0,rfl,Af.nil _ _,Af.nil _ _,Af.nil _ _,fun _ h_=>absurd h_ (Ae _),fun _ h_=>absurd h_ (Ae _),fun _ h_=>absurd h_ (Ae _),fun _ h_=>absurd h_ (Ae _),fun _ h_=>absurd h_ (Ae _),fun _ h_=>absurd h_ (Ae _),K0⟩
  ·intro hc31
   have hcb:=hc31;have hcA:=Fq hca;have hcB:=Fq hcb;have hln1:=hcA.len;have hln2:=hcB.len;have hmn1:=hcA.ctx.1;have hmn2:=hcA.ctx.2.1;have hmn3:=hcB.ctx.1;have hmn4:=hcB.ctx.2.1;refine jG ?_;refine jV (Az (c:=2) (Au rfl rfl Zd Zd) Zd) ?_;refine jG ?_;refine Ai.inLoop ?_;refine jG ?_;refine Ai.condF rfl ?_;refine jG ?_;refine jR<|jC (YB am ms cm ac cl cc am2 ms2 cm2 ac2 cl2 cc2 _ (hs.ext K0) (ht.ext K0) (hs2.ext K0) (ht2.ext K0) Zo Zo Zo Zo) ?_;rintro _ dT ⟨ab,af,ad,ag,rfl,a7,a8,cw,bZ,c0,ba⟩;have bx:=Aw bZ a0.lt;have cx:=Bd K0.size bZ;have bz:=Aw c0 a0.lt;have cy:=Bd K0.size c0;clear bZ c0;refine jG ?_;refine jR<|jA ?_;intro b2 dU aW a9 b3;replace a1:=a1.ext ba;have dV:=Ak a1.lt aW;replace a2:=a2.ext ba;have dW:=Ak a2.lt aW;replace a0:=a0.ext ba;have dX:=Ak a0.lt aW;replace a4:=a4.ext ba;have dY:=Ak a4.lt aW;replace a6:=a6.ext ba;have dZ:=Ak a6.lt aW;replace a3:=a3.ext ba;have cz:=An a3.oL aW;have cA:=An a7.oL aW;have cB:=An a8.oL aW;replace K0:=K0.ext ba;have:=Aaa K0.size aW;clear aW;refine jR<|jS a9 ?_;intro e0 a9 b4;refine jG ?_;replace a1:=(a1.ext b3).kp b4;replace a2:=(a2.ext b3).kp b4;replace a0:=(a0.ext b3).kp b4;replace a3:=(a3.ext b3).kO b4 (Aa cz);replace a4:=(a4.ext b3).kp b4;replace a6:=(a6.ext b3).kp b4;replace a7:=(a7.ext b3).kO b4 (Aa cA);replace a8:=(a8.ext b3).kO b4 (Aa cB);replace K0:=(K0.ext b3).n1 b4;refine jF ?_ ?_
   ·intro hc44
    refine jG ?_;refine jV (AI (cells:=#[.slice none 0 0,.slice none 0 0,.slice none 0 0]) Zk) ?_;refine jG ?_;refine jR<|jS a0 ?_;intro e1 a0 b5;refine jG ?_;refine Ai.retCT (x:= .int .i64 ((AU ms cl ms2 cl2).1)) (cs:=#[.slice none 0 0,.slice none 0 0,.slice none 0 0]) func83 rfl ty33 rfl rfl a0.cl rfl ?_;rw[JZ hca hcb hc44];replace a1:=a1.kp b5;replace a2:=a2.kp b5;replace a3:=a3.kO b5 (Aa bk);replace a4:=a4.kp b5;replace a6:=a6.kp b5;replace a7:=a7.kO b5 (Aa bx);replace a8:=a8.kO b5 (Aa bz);replace a9:=a9.kp b5;replace K0:=K0.n1 b5;exact⟨_,rfl,none,0,none,0,none,0,rfl,Af.nil _ _,Af.nil _ _,Af.nil _ _,fun _ h_=>absurd h_ (Ae _),fun _ h_=>absurd h_ (Ae _),fun _ h_=>absurd h_ (Ae _),fun _ h_=>absurd h_ (Ae _),fun _ h_=>absurd h_ (Ae _),fun _ h_=>absurd h_ (Ae _),K0⟩
   ·intro hc44
    refine jG ?_;refine jV (AI (cells:=#[.slice none 0 0,.slice ab ((AU ms cl ms2 cl2).2.1.length) af,.slice ad ((AU ms cl ms2 cl2).2.2.length) ag]) Zk) ?_;refine jR<|jA ?_;intro ao e2 aK a5 aX;have e3:=Ak a1.lt aK;have e4:=Ak a2.lt aK;have e5:=Ak a0.lt aK;have e6:=Ak a4.lt aK;have e7:=Ak a6.lt aK;have e8:=Ak a9.lt aK;have bo:=An a3.oL aK;have bp:=An a7.oL aK;have bq:=An a8.oL aK;have:=Aaa K0.size aK;clear aK;refine jR<|jS a5 ?_;intro cC a5 aY;replace a1:=(a1.ext aX).kp aY;refine jG ?_;replace a2:=(a2.ext aX).kp aY;replace a0:=(a0.ext aX).kp aY;replace a3:=(a3.ext aX).kO aY (Aa bo);replace a4:=(a4.ext aX).kp aY;replace a6:=(a6.ext aX).kp aY;replace a7:=(a7.ext aX).kO aY (Aa bp);replace a8:=(a8.ext aX).kO aY (Aa bq);replace a9:=(a9.ext aX).kp aY;replace K0:=(K0.ext aX).n1 aY;refine Ai.loop (ι:=Nat) (fun i ρ' w'=>∃a':Option Addr,∃c':Nat,Holds ρ' [(2,jp aw),(3,jp al),(4,jp an),(11,jp ao),(50,.slice ae es.length ce),(51,.int .i64 ((es.length:Nat):Int)),(52,.int .i64 ((i:Nat):Int))]∧Ap w w'∧(AB w' aw [.slice ae es.length ce,.slice am ms.length cm,.slice ac cl.length cc] 33)∧(AB w' al [.slice ae2 es2.length ce2,.slice am2 ms2.length cm2,.slice ac2 cl2.length cc2] 33)∧(AB w' an [.slice none 0 0,.slice none 0 0,.slice none 0 0] 33)∧(AB w' b0 [.slice ae es.length ce,.slice am ms.length cm,.slice ac cl.length cc] 33)∧(AB w' b1 [.slice ae2 es2.length ce2,.slice am2 ms2.length cm2,.slice ac2 cl2.length cc2] 33)∧(AB w' b2 [.slice ab ((AU ms cl ms2 cl2).2.1.length) af,.slice ad ((AU ms cl ms2 cl2).2.2.length) ag] 31)∧(AB w' ao [.slice a' ((kA (es.take i) ms2 cl2 es2).length) c',.slice ab ((AU ms cl ms2 cl2).2.1.length) af,.slice ad ((AU ms cl ms2 cl2).2.2.length) ag] 33)∧(Af w' 33 (some ⟨b6,0,none⟩) (([(⟨⟨ae,es.length,ce⟩,⟨⟨am,ms.length,cm⟩,⟨ac,cl.length,cc⟩⟩⟩:Ba),(⟨⟨ae2,es2.length,ce2⟩,⟨⟨am2,ms2.length,cm2⟩,⟨ac2,cl2.length,cc2⟩⟩⟩:Ba)]:List Ba).length) ([(⟨⟨ae,es.length,ce⟩,⟨⟨am,ms.length,cm⟩,⟨ac,cl.length,cc⟩⟩⟩:Ba),(⟨⟨ae2,es2.length,ce2⟩,⟨⟨am2,ms2.length,cm2⟩,⟨ac2,cl2.length,cc2⟩⟩⟩:Ba)]:List Ba))∧(Af w' 46 ab af ((AU ms cl ms2 cl2).2.1))∧(Af w' 73 ad ag ((AU ms cl ms2 cl2).2.2))∧(Af w' 76 a' c' (kA (es.take i) ms2 cl2 es2))∧(¬own a' aw)∧(¬own a' al)∧(¬own a' an)∧(¬own a' b0)∧(¬own a' b1)∧(¬own a' b2)∧(¬own a' ao)∧(∀q_,own a' q_->¬own (some ⟨b6,0,none⟩) q_)∧(∀q_,own a' q_->¬own ab q_)∧(∀q_,own a' q_->¬own ad q_)∧(∀q_,own a' q_->w.heap.size<=q_)∧(i<=es.length)) (fun i=>es.length-i) 0 ?_ ?_
    ·rw[WU]
     have cD:=Af.nil (α:=Aj) cC 76;refine⟨_,_,⟨rfl,rfl,rfl,rfl,rfl,rfl,rfl,trivial⟩,K0,a1,a2,a0,a4,a6,a9,a5,a3,a7,a8,cD,(Ae aw),(Ae al),(Ae an),(Ae b0),(Ae b1),(Ae b2),(Ae ao),(fun q_ h1 _=>Ae q_ h1),(fun q_ h1 _=>Ae q_ h1),(fun q_ h1 _=>Ae q_ h1),(fun q_ h1=>absurd h1 (Ae q_)),?_⟩
     ·omega
    clear a1 a2 a0 a3 a4 a6 a7 a8 a9 a5;clear K0;rintro i e9 ea ⟨a',c',c8,K0,a1,a2,a0,a4,a6,a9,a5,a3,a7,a8,aZ,bA,bB,bC,bD,bE,bF,bG,bH,bI,bJ,bK,hi⟩ ih2;obtain⟨ρ₀,rfl⟩:=c8.ex;clear c8;refine jG ?_;refine jF ?_ ?_
    ·intro hc53
     refine El ?_;obtain⟨eb,ec,x,hx,cE,bL⟩:=hse.eo i;have hc_150_lt:=bL.lt;refine jV (AS underlying27 ty76 rfl rfl cE Zl) ?_;replace bL:=bL.ext K0;refine jG ?_;refine jR<|jA ?_;intro ed ee ai bM ax;have ef:=Ak a1.lt ai;have eg:=Ak a2.lt ai;have eh:=Ak a0.lt ai;have ei:=Ak a4.lt ai;have ej:=Ak a6.lt ai;have ek:=Ak a9.lt ai;have em:=Ak a5.lt ai;have en:=Ak bL.lt ai;have cF:=An a3.oL ai;have cG:=An a7.oL ai;have cH:=An a8.oL ai;have cI:=An aZ.oL ai;have:=Aaa K0.size ai;clear ai;refine jR<|jS bM ?_;intro ep bM ay;replace a2:=(a2.ext ax).kp ay;refine jG ?_;replace K0:=(K0.ext ax).n1 ay;refine jR<|jC (Vb x am2 ms2 cm2 ac2 cl2 cc2 ae2 es2 ce2 _ (hs2.ext K0) (ht2.ext K0) (hse2.ext K0) Zo Zo Zo) ?_;rintro _ er ⟨rfl,ap⟩;refine jG ?_;replace a1:=((a1.ext ax).kp ay).ext ap;replace a0:=((a0.ext ax).kp ay).ext ap;replace a4:=((a4.ext ax).kp ay).ext ap;replace a6:=((a6.ext ax).kp ay).ext ap;replace a9:=((a9.ext ax).kp ay).ext ap;replace a5:=((a5.ext ax).kp ay).ext ap;replace a3:=((a3.ext ax).kO ay (Aa cF)).ext ap;replace a7:=((a7.ext ax).kO ay (Aa cG)).ext ap;replace a8:=((a8.ext ax).kO ay (Aa cH)).ext ap;replace aZ:=((aZ.ext ax).kO ay (Aa cI)).ext ap;replace a2:=a2.ext ap;replace bM:=bM.ext ap;replace K0:=K0.ext ap;refine jF ?_ ?_
     ·intro hc58
      have hkl:=WW (es:=es) (ms2:=ms2) (cl2:=cl2) (es2:=es2) (i:=i);refine jG ?_;refine jR<|AA.buildSlice ([x]:List Aj) underlying27 ty76 rfl rfl Ze ?_;intro et eu cJ cK az;clear cJ;replace aZ:=aZ.ext az;refine jR<|AA.append (xs:=kA (es.take i) ms2 cl2 es2) (ys:=([x]:List Aj)) underlying27 ty76 rfl rfl rfl aZ cK.sl Zr Zd ?_;intro aL ev ew c1 aM aA cL;replace a1:=a1.ext az;have cM:¬own aL aw:=aA.not bA a1.lt;replace a2:=a2.ext az;have cN:¬own aL al:=aA.not bB a2.lt;replace a0:=a0.ext az;have cO:¬own aL an:=aA.not bC a0.lt;replace a4:=a4.ext az;have cP:¬own aL b0:=aA.not bD a4.lt;replace a6:=a6.ext az;have cQ:¬own aL b1:=aA.not bE a6.lt;replace a9:=a9.ext az;have cR:¬own aL b2:=aA.not bF a9.lt;replace a5:=a5.ext az;have c9:¬own aL ao:=aA.not bG a5.lt;replace a3:=a3.ext az;have cS:∀q_,own aL q_->¬own (some ⟨b6,0,none⟩) q_:=aA.apart bH a3.oL;replace a7:=a7.ext az;have cT:∀q_,own aL q_->¬own ab q_:=aA.apart bI a7.oL;replace a8:=a8.ext az;have cU:∀q_,own aL q_->¬own ad q_:=aA.apart bJ a8.oL;replace K0:=K0.ext az;have cV:∀q_,own aL q_->w.heap.size<=q_:=aA.ge bK K0.size;clear aA;clear cL;refine jG ?_;replace a5:=a5.keep aM bG;refine jR<|jS a5 ?_;intro ey a5 aN;refine jG ?_;refine jV (Az (c:=((i+1:Nat):Int)) (Au rfl rfl Zo Zo) rfl) ?_;refine jG ?_;have e:=Rm (ms2:=ms2) (cl2:=cl2) (es2:=es2) hx;rw[if_pos hc58]at e;refine ih2 (i+1) _ _ ?_ Zo;rw[e];replace a1:=(a1.keep aM bA).kp aN;replace a2:=(a2.keep aM bB).kp aN;replace a0:=(a0.keep aM bC).kp aN;replace a4:=(a4.keep aM bD).kp aN;replace a6:=(a6.keep aM bE).kp aN;replace a9:=(a9.keep aM bF).kp aN;replace a3:=(a3.kO aM (Zf bH)).kO aN (Aa bo);replace a7:=(a7.kO aM (Zf bI)).kO aN (Aa bp);replace a8:=(a8.kO aM (Zf bJ)).kO aN (Aa bq);replace K0:=(K0.new aM bK).n1 aN;replace c1:=c1.kO aN (Aa c9);refine⟨_,_,⟨rfl,rfl,rfl,rfl,rfl,rfl,rfl,trivial⟩,K0,a1,a2,a0,a4,a6,a9,a5,a3,a7,a8,c1,cM,cN,cO,cP,cQ,cR,c9,cS,cT,cU,cV,?_⟩
      ·omega
     ·intro hc58
      refine jG ?_;refine jV (Az (c:=((i+1:Nat):Int)) (Au rfl rfl Zo Zo) rfl) ?_;refine jG ?_;have e:=Rm (ms2:=ms2) (cl2:=cl2) (es2:=es2) hx;rw[if_neg hc58,Aaw]at e;refine ih2 (i+1) _ _ ?_ Zo;rw[e];refine⟨_,_,⟨rfl,rfl,rfl,rfl,rfl,rfl,rfl,trivial⟩,K0,a1,a2,a0,a4,a6,a9,a5,a3,a7,a8,aZ,bA,bB,bC,bD,bE,bF,bG,bH,bI,bJ,bK,?_⟩
      ·omega
    ·intro hc53
     have cW:kA (es.take i) ms2 cl2 es2=kA es ms2 cl2 es2:=by rw[AaA Zo]
     rw[cW]at aZ a5;refine jG ?_;refine Ai.loop (ι:=Nat) (fun i ρ' w'=>∃a':Option Addr,∃c':Nat,Holds ρ' [(2,jp aw),(3,jp al),(4,jp an),(11,jp ao),(67,.slice ae2 es2.length ce2),(68,.int .i64 ((es2.length:Nat):Int)),(69,.int .i64 ((i:Nat):Int))]∧Ap w w'∧(AB w' aw [.slice ae es.length ce,.slice am ms.length cm,.slice ac cl.length cc] 33)∧(AB w' al [.slice ae2 es2.length ce2,.slice am2 ms2.length cm2,.slice ac2 cl2.length cc2] 33)∧(AB w' an [.slice none 0 0,.slice none 0 0,.slice none 0 0] 33)∧(AB w' b0 [.slice ae es.length ce,.slice am ms.length cm,.slice ac cl.length cc] 33)∧(AB w' b1 [.slice ae2 es2.length ce2,.slice am2 ms2.length cm2,.slice ac2 cl2.length cc2] 33)∧(AB w' b2 [.slice ab ((AU ms cl ms2 cl2).2.1.length) af,.slice ad ((AU ms cl ms2 cl2).2.2.length) ag] 31)∧(AB w' ao [.slice a' ((kA es ms2 cl2 es2++kB ms cl (es2.take i)).length) c',.slice ab ((AU ms cl ms2 cl2).2.1.length) af,.slice ad ((AU ms cl ms2 cl2).2.2.length) ag] 33)∧(Af w' 33 (some ⟨b6,0,none⟩) (([(⟨⟨ae,es.length,ce⟩,⟨⟨am,ms.length,cm⟩,⟨ac,cl.length,cc⟩⟩⟩:Ba),(⟨⟨ae2,es2.length,ce2⟩,⟨⟨am2,ms2.length,cm2⟩,⟨ac2,cl2.length,cc2⟩⟩⟩:Ba)]:List Ba).length) ([(⟨⟨ae,es.length,ce⟩,⟨⟨am,ms.length,cm⟩,⟨ac,cl.length,cc⟩⟩⟩:Ba),(⟨⟨ae2,es2.length,ce2⟩,⟨⟨am2,ms2.length,cm2⟩,⟨ac2,cl2.length,cc2⟩⟩⟩:Ba)]:List Ba))∧(Af w' 46 ab af ((AU ms cl ms2 cl2).2.1))∧(Af w' 73 ad ag ((AU ms cl ms2 cl2).2.2))∧(Af w' 76 a' c' (kA es ms2 cl2 es2++kB ms cl (es2.take i)))∧(¬own a' aw)∧(¬own a' al)∧(¬own a' an)∧(¬own a' b0)∧(¬own a' b1)∧(¬own a' b2)∧(¬own a' ao)∧(∀q_,own a' q_->¬own (some ⟨b6,0,none⟩) q_)∧(∀q_,own a' q_->¬own ab q_)∧(∀q_,own a' q_->¬own ad q_)∧(∀q_,own a' q_->w.heap.size<=q_)∧(i<=es2.length)) (fun i=>es2.length-i) 0 ?_ ?_
     ·rw[WV,Aaw]
      refine⟨_,_,⟨rfl,rfl,rfl,rfl,rfl,rfl,rfl,trivial⟩,K0,a1,a2,a0,a4,a6,a9,a5,a3,a7,a8,aZ,bA,bB,bC,bD,bE,bF,bG,bH,bI,bJ,bK,?_⟩
      ·omega
     clear a1 a2 a0 a4 a6 a9 a5 a3 a7 a8 aZ;clear K0;rintro i ez eA ⟨a',c',ca,K0,a1,a2,a0,a4,a6,a9,a5,a3,a7,a8,aa,bN,bO,bb,bP,bQ,bR,bi,bS,bs,bt,bu,hi⟩ ih3;obtain⟨ρ₀,rfl⟩:=ca.ex;clear ca;refine jG ?_;refine jF ?_ ?_
     ·intro hc70
      refine El ?_;obtain⟨eB,eC,y,hy,cX,bT⟩:=hse2.eo i;have hc_233_lt:=bT.lt;refine jV (AS underlying27 ty76 rfl rfl cX Zl) ?_;replace bT:=bT.ext K0;refine jG ?_;refine jR<|jA ?_;intro eD eE aj bj aB;have eF:=Ak a1.lt aj;have eG:=Ak a2.lt aj;have eH:=Ak a0.lt aj;have eI:=Ak a4.lt aj;have eJ:=Ak a6.lt aj;have eK:=Ak a9.lt aj;have eL:=Ak a5.lt aj;have eM:=Ak bT.lt aj;have cY:=An a3.oL aj;have cZ:=An a7.oL aj;have d0:=An a8.oL aj;have d1:=An aa.oL aj;have:=Aaa K0.size aj;clear aj;refine jR<|jS bj ?_;intro eN bj aC;have hkl:=kA_len (es:=es) (ms2:=ms2) (cl2:=cl2) (es2:=es2);have hkl2:=WX (ms:=ms) (cl:=cl) (es2:=es2) (i:=i);have hkl3:(kA es ms2 cl2 es2++kB ms cl (es2.take i)).length=(kA es ms2 cl2 es2).length+(kB ms cl (es2.take i)).length:=Aab;replace a1:=(a1.ext aB).kp aC;refine jG ?_;replace K0:=(K0.ext aB).n1 aC;refine jR<|jC (Vb y am ms cm ac cl cc ae es ce _ (hs.ext K0) (ht.ext K0) (hse.ext K0) Zo Zo Zo) ?_;rintro _ eO ⟨rfl,aq⟩;replace a5:=((a5.ext aB).kp aC).ext aq;replace bj:=bj.ext aq;refine jG ?_;replace aa:=((aa.ext aB).kO aC (Aa d1)).ext aq;refine RL.gcall (vals:=[.slice a' ((kA es ms2 cl2 es2++kB ms cl (es2.take i)).length) c',.agg #[.string y.item,.int .i64 y.dot.node,.int .i64 y.dot.life,.int .i64 y.dot.count,.int .i64 y.qty,.int .u64 y.price]]) (BL rfl rfl rfl rfl) en150.h (fun hg=>(CR (BR hg) (CR (BR hg) Hw))) (fun hg=>(Io _ _ _ y _ aa.sl Zo)) ?_;intro eP ar;refine jG ?_;refine jV (Be rfl rfl rfl) ?_;refine jG ?_;replace a2:=(((a2.ext aB).kp aC).ext aq).ext ar;replace a0:=(((a0.ext aB).kp aC).ext aq).ext ar;replace a4:=(((a4.ext aB).kp aC).ext aq).ext ar;replace a6:=(((a6.ext aB).kp aC).ext aq).ext ar;replace a9:=(((a9.ext aB).kp aC).ext aq).ext ar;replace a3:=(((a3.ext aB).kO aC (Aa cY)).ext aq).ext ar;replace a7:=(((a7.ext aB).kO aC (Aa cZ)).ext aq).ext ar;replace a8:=(((a8.ext aB).kO aC (Aa d0)).ext aq).ext ar;replace a1:=(a1.ext aq).ext ar;replace K0:=(K0.ext aq).ext ar;replace a5:=a5.ext ar;replace aa:=aa.ext ar;replace bj:=bj.ext ar;refine jF ?_ ?_
      ·intro hc82
       refine jG ?_;refine jR<|AA.buildSlice ([y]:List Aj) underlying27 ty76 rfl rfl Ze ?_;intro eQ eR d2 d3 aD;clear d2;replace aa:=aa.ext aD;refine jR<|AA.append (xs:=kA es ms2 cl2 es2++kB ms cl (es2.take i)) (ys:=([y]:List Aj)) underlying27 ty76 rfl rfl rfl aa d3.sl Zr Zd ?_;intro aO eS eT c2 aP aE d4;replace a1:=a1.ext aD;have d5:¬own aO aw:=aE.not bN a1.lt;replace a2:=a2.ext aD;have d6:¬own aO al:=aE.not bO a2.lt;replace a0:=a0.ext aD;have d7:¬own aO an:=aE.not bb a0.lt;replace a4:=a4.ext aD;have d8:¬own aO b0:=aE.not bP a4.lt;replace a6:=a6.ext aD;have d9:¬own aO b1:=aE.not bQ a6.lt;replace a9:=a9.ext aD;have da:¬own aO b2:=aE.not bR a9.lt;replace a5:=a5.ext aD;have cb:¬own aO ao:=aE.not bi a5.lt;replace a3:=a3.ext aD;have db:∀q_,own aO q_->¬own (some ⟨b6,0,none⟩) q_:=aE.apart bS a3.oL;replace a7:=a7.ext aD;have dc:∀q_,own aO q_->¬own ab q_:=aE.apart bs a7.oL;replace a8:=a8.ext aD;have dd:∀q_,own aO q_->¬own ad q_:=aE.apart bt a8.oL;replace K0:=K0.ext aD;have de:∀q_,own aO q_->w.heap.size<=q_:=aE.ge bu K0.size;clear aE;clear d4;refine jG ?_;replace a5:=a5.keep aP bi;refine jR<|jS a5 ?_;intro eU a5 aQ;refine jG ?_;refine jV (Az (c:=((i+1:Nat):Int)) (Au rfl rfl Zo Zo) rfl) ?_;refine jG ?_;have e:=Rl (ms:=ms) (cl:=cl) hy;rw[if_neg ((Mw hcA hcB hy).1 hc82)]at e;refine ih3 (i+1) _ _ ?_ Zo;rw[e,<-Aap];replace a1:=(a1.keep aP bN).kp aQ;replace a2:=(a2.keep aP bO).kp aQ;replace a0:=(a0.keep aP bb).kp aQ;replace a4:=(a4.keep aP bP).kp aQ;replace a6:=(a6.keep aP bQ).kp aQ;replace a9:=(a9.keep aP bR).kp aQ;replace a3:=(a3.kO aP (Zf bS)).kO aQ (Aa bo);replace a7:=(a7.kO aP (Zf bs)).kO aQ (Aa bp);replace a8:=(a8.kO aP (Zf bt)).kO aQ (Aa bq);replace K0:=(K0.new aP bu).n1 aQ;replace c2:=c2.kO aQ (Aa cb);refine⟨_,_,⟨rfl,rfl,rfl,rfl,rfl,rfl,rfl,trivial⟩,K0,a1,a2,a0,a4,a6,a9,a5,a3,a7,a8,c2,d5,d6,d7,d8,d9,da,cb,db,dc,dd,de,?_⟩
       ·omega
      ·intro hc82
       refine jG ?_;refine jV (Az (c:=((i+1:Nat):Int)) (Au rfl rfl Zo Zo) rfl) ?_;refine jG ?_;have e:=Rl (ms:=ms) (cl:=cl) hy;rw[if_pos (Decidable.byContradiction fun h_=>(Mw hcA hcB hy).2 h_|>fun h2=>hc82.elim (fun h3=>h3 h2.1) (fun h3=>by rw[h2.2]at h3;cases h3)),Aaw]at e;refine ih3 (i+1) _ _ ?_ Zo;rw[e];refine⟨_,_,⟨rfl,rfl,rfl,rfl,rfl,rfl,rfl,trivial⟩,K0,a1,a2,a0,a4,a6,a9,a5,a3,a7,a8,aa,bN,bO,bb,bP,bQ,bR,bi,bS,bs,bt,bu,?_⟩
       ·omega
     ·intro hc70
      have hkp:=kept_len (ms:=ms) (cl:=cl) (es:=es) (ms2:=ms2) (cl2:=cl2) (es2:=es2);have hkq:=Mv ms cl es ms2 cl2 es2;have df:kA es ms2 cl2 es2++kB ms cl (es2.take i)=kA es ms2 cl2 es2++kB ms cl es2:=by rw[AaA Zo]
      rw[df]at aa a5;refine jG ?_;refine jR<|jC (Va aa (fun x hx=>(List.mem_append.1 hx).elim (fun h=>hcA.ctx.cov (hcA.mem (Nk h)).2.2.2) (fun h=>hcB.ctx.cov (hcB.mem (kB_mem.1 h).1).2.2.2)) (WT hcA hcB) Zo) ?_;rintro _ eV ⟨rfl,cd,aR⟩;replace aa:=cd;clear cd;rw[U8]at aa;replace a5:=a5.keep aR bi;rw[Mv]at a5;refine El ?_;replace a1:=a1.keep aR bN;replace a2:=a2.keep aR bO;replace a0:=a0.keep aR bb;replace a4:=a4.keep aR bP;replace a6:=a6.keep aR bQ;replace a9:=a9.keep aR bR;replace a3:=a3.kO aR (Zf bS);replace a7:=a7.kO aR (Zf bs);replace a8:=a8.kO aR (Zf bt);replace K0:=K0.new aR bu;by_cases hF:64<(B2 ms cl es ms2 cl2 es2).length∨32<itemsN (B2 ms cl es ms2 cl2 es2)
      ·have hje:=I8 (ms:=ms) (cl:=cl) (ms2:=ms2) (cl2:=cl2)
       refine jG ?_;refine jR<|jC (fS ab ((AU ms cl ms2 cl2).2.1) af ad ((AU ms cl ms2 cl2).2.2) ag a' (B2 ms cl es ms2 cl2 es2) c' _ aa.le_cap a7.sl a8.sl aa.sl Zo Zo Zo hF) ?_;rintro _ eW ⟨rfl,aF⟩;refine jG ?_;replace a5:=a5.ext aF;refine jR<|jS a5 ?_;intro eX a5 aS;refine jG ?_;refine C4 ?_;refine jG ?_;refine jV (AI (cells:=#[.slice none 0 0,.slice none 0 0,.slice none 0 0]) Zk) ?_;refine jG ?_;replace a0:=(a0.ext aF).kp aS;refine jR<|jS a0 ?_;intro eY a0 aT;refine jG ?_;refine Ai.retCT (x:= .int .i64 51) (cs:=#[.slice none 0 0,.slice none 0 0,.slice none 0 0]) func83 rfl ty33 rfl rfl a0.cl rfl ?_;rw[J0 hca hcb hc44 hF];replace a1:=((a1.ext aF).kp aS).kp aT;replace a2:=((a2.ext aF).kp aS).kp aT;replace a4:=((a4.ext aF).kp aS).kp aT;replace a6:=((a6.ext aF).kp aS).kp aT;replace a9:=((a9.ext aF).kp aS).kp aT;replace a3:=((a3.ext aF).kO aS (Aa bo)).kO aT (Aa bk);replace a7:=((a7.ext aF).kO aS (Aa bp)).kO aT (Aa bx);replace a8:=((a8.ext aF).kO aS (Aa bq)).kO aT (Aa bz);replace aa:=((aa.ext aF).kO aS (Aa bi)).kO aT (Aa bb);replace K0:=((K0.ext aF).n1 aS).n1 aT;replace a5:=a5.kp aT;exact⟨_,rfl,none,0,none,0,none,0,rfl,Af.nil _ _,Af.nil _ _,Af.nil _ _,fun _ h_=>absurd h_ (Ae _),fun _ h_=>absurd h_ (Ae _),fun _ h_=>absurd h_ (Ae _),fun _ h_=>absurd h_ (Ae _),fun _ h_=>absurd h_ (Ae _),fun _ h_=>absurd h_ (Ae _),K0⟩
      ·have hje:=I8 (ms:=ms) (cl:=cl) (ms2:=ms2) (cl2:=cl2)
       refine jG ?_;refine jR<|jC (fT ab ((AU ms cl ms2 cl2).2.1) af ad ((AU ms cl ms2 cl2).2.2) ag a' (B2 ms cl es ms2 cl2 es2) c' _ aa.le_cap a7.sl a8.sl aa.sl Zo Zo Zo hF) ?_;rintro _ eZ ⟨rfl,aG⟩;refine jG ?_;replace a5:=a5.ext aG;refine jR<|jS a5 ?_;intro f0 a5 aU;refine jG ?_;refine Ai.condF rfl ?_;replace a1:=(a1.ext aG).kp aU;refine jG ?_;replace a2:=(a2.ext aG).kp aU;replace a0:=(a0.ext aG).kp aU;replace a4:=(a4.ext aG).kp aU;replace a6:=(a6.ext aG).kp aU;replace a9:=(a9.ext aG).kp aU;replace a3:=(a3.ext aG).kO aU (Aa bo);replace a7:=(a7.ext aG).kO aU (Aa bp);replace a8:=(a8.ext aG).kO aU (Aa bq);replace aa:=(aa.ext aG).kO aU (Aa bi);replace K0:=(K0.ext aG).n1 aU;refine Ai.loop (ι:=Nat) (fun i ρ' w'=>Holds ρ' [(3,jp al),(4,jp an),(11,jp ao),(103,.slice ae es.length ce),(104,.int .i64 ((es.length:Nat):Int)),(105,.int .i64 ((i:Nat):Int))]∧Ap w w'∧(AB w' aw [.slice ae es.length ce,.slice am ms.length cm,.slice ac cl.length cc] 33)∧(AB w' al [.slice ae2 es2.length ce2,.slice am2 ms2.length cm2,.slice ac2 cl2.length cc2] 33)∧(AB w' an [.slice none 0 0,.slice none 0 0,.slice none 0 0] 33)∧(AB w' b0 [.slice ae es.length ce,.slice am ms.length cm,.slice ac cl.length cc] 33)∧(AB w' b1 [.slice ae2 es2.length ce2,.slice am2 ms2.length cm2,.slice ac2 cl2.length cc2] 33)∧(AB w' b2 [.slice ab ((AU ms cl ms2 cl2).2.1.length) af,.slice ad ((AU ms cl ms2 cl2).2.2.length) ag] 31)∧(AB w' ao [.slice a' ((B2 ms cl es ms2 cl2 es2).length) c',.slice ab ((AU ms cl ms2 cl2).2.1.length) af,.slice ad ((AU ms cl ms2 cl2).2.2.length) ag] 33)∧(Af w' 33 (some ⟨b6,0,none⟩) (([(⟨⟨ae,es.length,ce⟩,⟨⟨am,ms.length,cm⟩,⟨ac,cl.length,cc⟩⟩⟩:Ba),(⟨⟨ae2,es2.length,ce2⟩,⟨⟨am2,ms2.length,cm2⟩,⟨ac2,cl2.length,cc2⟩⟩⟩:Ba)]:List Ba).length) ([(⟨⟨ae,es.length,ce⟩,⟨⟨am,ms.length,cm⟩,⟨ac,cl.length,cc⟩⟩⟩:Ba),(⟨⟨ae2,es2.length,ce2⟩,⟨⟨am2,ms2.length,cm2⟩,⟨ac2,cl2.length,cc2⟩⟩⟩:Ba)]:List Ba))∧(Af w' 46 ab af ((AU ms cl ms2 cl2).2.1))∧(Af w' 73 ad ag ((AU ms cl ms2 cl2).2.2))∧(Af w' 76 a' c' (B2 ms cl es ms2 cl2 es2))∧(i<=es.length)∧(∀j,j<i->∀x,es[j]? =some x->∀y∈es2,¬(x.dot=y.dot∧x≠y))) (fun i=>es.length-i) 0 ?_ ?_
       ·refine⟨⟨rfl,rfl,rfl,rfl,rfl,rfl,trivial⟩,K0,a1,a2,a0,a4,a6,a9,a5,a3,a7,a8,aa,?_,?_⟩
        ·omega
        ·exact fun j hj=>absurd hj (Abg j)
       clear a1 a2 a0 a4 a6 a9 a5 a3 a7 a8 aa;clear K0;rintro i f1 f2 ⟨cf,K0,a1,a2,a0,a4,a6,a9,a5,a3,a7,a8,aa,hi,hcl⟩ ih4;obtain⟨ρ₀,rfl⟩:=cf.ex;clear cf;refine jG ?_;refine jF ?_ ?_
       ·intro hc106
        refine El ?_;obtain⟨f3,f4,x,hx,dg,bU⟩:=hse.eo i;have hc_319_lt:=bU.lt;refine jV (AS underlying27 ty76 rfl rfl dg Zl) ?_;replace bU:=bU.ext K0;refine jG ?_;refine jR<|jA ?_;intro cg f5 ak aV aH;have f6:=Ak a1.lt ak;have f7:=Ak a2.lt ak;have f8:=Ak a0.lt ak;have f9:=Ak a4.lt ak;have fa:=Ak a6.lt ak;have fb:=Ak a9.lt ak;have fc:=Ak a5.lt ak;have fd:=Ak bU.lt ak;have dh:=An a3.oL ak;have di:=An a7.oL ak;have dj:=An a8.oL ak;have dk:=An aa.oL ak;have:=Aaa K0.size ak;clear ak;refine jR<|jS aV ?_;intro fe aV aI;replace a2:=(a2.ext aH).kp aI;refine jG ?_;replace a1:=(a1.ext aH).kp aI;replace a0:=(a0.ext aH).kp aI;replace a4:=(a4.ext aH).kp aI;replace a6:=(a6.ext aH).kp aI;replace a9:=(a9.ext aH).kp aI;replace a5:=(a5.ext aH).kp aI;replace a3:=(a3.ext aH).kO aI (Aa dh);replace a7:=(a7.ext aH).kO aI (Aa di);replace a8:=(a8.ext aH).kO aI (Aa dj);replace aa:=(aa.ext aH).kO aI (Aa dk);replace K0:=(K0.ext aH).n1 aI;refine Ai.loop (ι:=Nat) (fun q ρ' w'=>Holds ρ' [(3,jp al),(4,jp an),(11,jp ao),(17,jp cg),(103,.slice ae es.length ce),(104,.int .i64 ((es.length:Nat):Int)),(105,.int .i64 ((i:Nat):Int)),(106,.bool (decide (((i:Nat):Int)<((es.length:Nat):Int)))),(110,.slice ae2 es2.length ce2),(111,.int .i64 ((es2.length:Nat):Int)),(112,.int .i64 ((q:Nat):Int))]∧Ap w w'∧(AB w' aw [.slice ae es.length ce,.slice am ms.length cm,.slice ac cl.length cc] 33)∧(AB w' al [.slice ae2 es2.length ce2,.slice am2 ms2.length cm2,.slice ac2 cl2.length cc2] 33)∧(AB w' an [.slice none 0 0,.slice none 0 0,.slice none 0 0] 33)∧(AB w' b0 [.slice ae es.length ce,.slice am ms.length cm,.slice ac cl.length cc] 33)∧(AB w' b1 [.slice ae2 es2.length ce2,.slice am2 ms2.length cm2,.slice ac2 cl2.length cc2] 33)∧(AB w' b2 [.slice ab ((AU ms cl ms2 cl2).2.1.length) af,.slice ad ((AU ms cl ms2 cl2).2.2.length) ag] 31)∧(AB w' ao [.slice a' ((B2 ms cl es ms2 cl2 es2).length) c',.slice ab ((AU ms cl ms2 cl2).2.1.length) af,.slice ad ((AU ms cl ms2 cl2).2.2.length) ag] 33)∧(AB w' cg [.string x.item,.int .i64 x.dot.node,.int .i64 x.dot.life,.int .i64 x.dot.count,.int .i64 x.qty,.int .u64 x.price] 76)∧(Af w' 33 (some ⟨b6,0,none⟩) (([(⟨⟨ae,es.length,ce⟩,⟨⟨am,ms.length,cm⟩,⟨ac,cl.length,cc⟩⟩⟩:Ba),(⟨⟨ae2,es2.length,ce2⟩,⟨⟨am2,ms2.length,cm2⟩,⟨ac2,cl2.length,cc2⟩⟩⟩:Ba)]:List Ba).length) ([(⟨⟨ae,es.length,ce⟩,⟨⟨am,ms.length,cm⟩,⟨ac,cl.length,cc⟩⟩⟩:Ba),(⟨⟨ae2,es2.length,ce2⟩,⟨⟨am2,ms2.length,cm2⟩,⟨ac2,cl2.length,cc2⟩⟩⟩:Ba)]:List Ba))∧(Af w' 46 ab af ((AU ms cl ms2 cl2).2.1))∧(Af w' 73 ad ag ((AU ms cl ms2 cl2).2.2))∧(Af w' 76 a' c' (B2 ms cl es ms2 cl2 es2))∧(q<=es2.length)∧(∀j,j<q->∀y,es2[j]? =some y->¬(x.dot=y.dot∧x≠y))) (fun q=>es2.length-q) 0 ?_ ?_
        ·refine⟨⟨rfl,rfl,rfl,rfl,rfl,rfl,rfl,rfl,rfl,rfl,rfl,trivial⟩,K0,a1,a2,a0,a4,a6,a9,a5,aV,a3,a7,a8,aa,?_,?_⟩
         ·omega
         ·exact fun j hj=>absurd hj (Abg j)
        clear a1 a2 a0 a4 a6 a9 a5 a3 a7 a8 aa aV;clear K0;rintro q ff fg ⟨ch,K0,a1,a2,a0,a4,a6,a9,a5,aV,a3,a7,a8,aa,hq,hcl2⟩ ih5;obtain⟨ρ₀,rfl⟩:=ch.ex;clear ch;refine jG ?_;refine jF ?_ ?_
        ·intro hc113
         refine El ?_;obtain⟨fh,fi,y,hy,dl,bV⟩:=hse2.eo q;have hc_347_lt:=bV.lt;refine jV (AS underlying27 ty76 rfl rfl dl Zl) ?_;replace bV:=bV.ext K0;refine jG ?_;refine jR<|jA ?_;intro fj fk ah ci au;have fl:=Ak a1.lt ah;have fm:=Ak a2.lt ah;have fn:=Ak a0.lt ah;have fo:=Ak a4.lt ah;have fp:=Ak a6.lt ah;have fq:=Ak a9.lt ah;have fr:=Ak a5.lt ah;have fs:=Ak aV.lt ah;have ft:=Ak bV.lt ah;have dm:=An a3.oL ah;have dn:=An a7.oL ah;have dp:=An a8.oL ah;have dq:=An aa.oL ah;have:=Aaa K0.size ah;clear ah;refine jR<|jS ci ?_;intro fu ci av;replace aV:=(aV.ext au).kp av;refine jG ?_;refine jV (GJ Zk rfl rfl (Gz x.dot y.dot)) ?_;refine jG ?_;refine jW ?_ (hx:=by exact fun hg=>(Jg Zk (BR hg) (BR hg) (I0 x y)));refine jV (Be rfl rfl rfl) ?_;refine jG ?_;replace a1:=(a1.ext au).kp av;replace a2:=(a2.ext au).kp av;replace a0:=(a0.ext au).kp av;replace a4:=(a4.ext au).kp av;replace a6:=(a6.ext au).kp av;replace a9:=(a9.ext au).kp av;replace a5:=(a5.ext au).kp av;replace a3:=(a3.ext au).kO av (Aa dm);replace a7:=(a7.ext au).kO av (Aa dn);replace a8:=(a8.ext au).kO av (Aa dp);replace aa:=(aa.ext au).kO av (Aa dq);replace K0:=(K0.ext au).n1 av;refine jF ?_ ?_
         ·intro hc125
          refine jG ?_;refine jV (AI (cells:=#[.slice none 0 0,.slice none 0 0,.slice none 0 0]) Zk) ?_;refine jR<|jS a0 ?_;intro fv a0 aJ;refine jG ?_;refine Ai.retCT (x:= .int .i64 50) (cs:=#[.slice none 0 0,.slice none 0 0,.slice none 0 0]) func83 rfl ty33 rfl rfl a0.cl rfl ?_;rw[J1 hca hcb hc44 hF (U7 hx hy hc125.1 hc125.2)];replace a1:=a1.kp aJ;replace a2:=a2.kp aJ;replace a4:=a4.kp aJ;replace a6:=a6.kp aJ;replace a9:=a9.kp aJ;replace a5:=a5.kp aJ;replace aV:=aV.kp aJ;replace a3:=a3.kO aJ (Aa bk);replace a7:=a7.kO aJ (Aa bx);replace a8:=a8.kO aJ (Aa bz);replace aa:=aa.kO aJ (Aa bb);replace K0:=K0.n1 aJ;exact⟨_,rfl,none,0,none,0,none,0,rfl,Af.nil _ _,Af.nil _ _,Af.nil _ _,fun _ h_=>absurd h_ (Ae _),fun _ h_=>absurd h_ (Ae _),fun _ h_=>absurd h_ (Ae _),fun _ h_=>absurd h_ (Ae _),fun _ h_=>absurd h_ (Ae _),fun _ h_=>absurd h_ (Ae _),K0⟩
         ·intro hc125
          refine jG ?_;refine jV (Az (c:=((q+1:Nat):Int)) (Au rfl rfl Zo Zo) rfl) ?_;refine jG ?_;refine ih5 (q+1) _ _ ?_ Zo;refine⟨⟨rfl,rfl,rfl,rfl,rfl,rfl,rfl,rfl,rfl,rfl,rfl,trivial⟩,K0,a1,a2,a0,a4,a6,a9,a5,aV,a3,a7,a8,aa,?_,?_⟩
          ·omega
          ·exact D3 hcl2 (M9 hy (fun h_=>hc125.elim (fun h2=>h2 h_.1) (fun h2=>h_.2 h2)))
        ·intro hc113
         refine jG ?_;refine jV (Az (c:=((i+1:Nat):Int)) (Au rfl rfl Zo Zo) rfl) ?_;refine jG ?_;refine ih4 (i+1) _ _ ?_ Zo;refine⟨⟨rfl,rfl,rfl,rfl,rfl,rfl,trivial⟩,K0,a1,a2,a0,a4,a6,a9,a5,a3,a7,a8,aa,?_,?_⟩
         ·omega
         ·exact D3 hcl (M9 hx (M8 hcl2 Zo))
       ·intro hc106
        refine jG ?_;refine jR<|jS a0 ?_;intro fw a0 bW;refine jG ?_;refine Ai.retCT (x:= .int .i64 0) (cs:=#[.slice a' ((B2 ms cl es ms2 cl2 es2).length) c',.slice ab ((AU ms cl ms2 cl2).2.1.length) af,.slice ad ((AU ms cl ms2 cl2).2.2.length) ag]) func83 rfl ty33 rfl rfl a0.cl rfl ?_;rw[Ix hca hcb hc44 hF (U6 hcl Zo)];replace a7:=a7.kO bW (Aa bx);replace a8:=a8.kO bW (Aa bz);replace aa:=aa.kO bW (Aa bb);replace K0:=K0.n1 bW;exact⟨_,rfl,a',c',ab,af,ad,ag,rfl,aa,a7,a8,bs,bt,cw,bu,cx,cy,K0⟩
end
section
open Wa
structure Mg where
 v:MV
 s:Ge
def Mg.c (m:Mg):Ys:=CN m.v m.s
def WY (ts:List Mg):Nat->Prop:=fun q=>∃t∈ts,Og t.s q
structure SI (w:World)(t:Mg):Prop where
 own:I2 w t.s t.v
 apart:Ut t.s
 ok:JT t.v
structure DI (w:World)(ts:List Mg):Prop where
 all:∀t∈ts,SI w t
 apart:ts.Pairwise (fun f g=>∀q,Og f.s q->¬Og g.s q)
def En (s:Ge):Nat->Prop:=fun q=>own s.ea q∨(own s.ma q∨own s.ca q)
def BE (s:Ge)(v:MV):Nat->Prop:=fun q=>(v.ent≠ []∧own s.ea q)∨(v.mrk≠ []∧own s.ma q)∨(v.cl≠ []∧own s.ca q)
structure Bf (w:World)(s:Ge)(v:MV):Prop where
 ent:Av w s.ea v.ent
 mrk:Av w s.ma v.mrk
 cl:Av w s.ca v.cl
structure Dr (w:World)(s:Ge)(v:MV):Prop where
 ent:Af w 76 s.ea s.ec v.ent
 mrk:Af w 46 s.ma s.mc v.mrk
 cl:Af w 73 s.ca s.cc v.cl
structure Iy (s:Ge):Prop where
 em:∀q,own s.ea q->¬own s.ma q
 ec:∀q,own s.ea q->¬own s.ca q
 mc:∀q,own s.ma q->¬own s.ca q
section
variable {w w':World}{S:Nat->Prop}{t p:Mg}{ts ks l1 l2:List Mg}{s:Ge}{v:MV}{i:Nat}{a:Option Addr}
theorem Dr.oL (h:Dr w s v):∀q,En s q->q<w.heap.size:=by
 rintro q (hq|hq|hq)
 ·exact h.ent.oL q hq
 ·exact h.mrk.oL q hq
 ·exact h.cl.oL q hq
theorem Dr.kO (h:Dr w s v)(k:Ad S w w')(hn:∀q,En s q->¬S q):Dr w' s v:=
 ⟨h.ent.kO k fun q hq=>hn q (.inl hq),h.mrk.kO k fun q hq=>hn q (.inr (.inl hq)),h.cl.kO k fun q hq=>hn q (.inr (.inr hq))⟩
theorem Dr.ext (h:Dr w s v)(k:Ap w w'):Dr w' s v:=h.kO k fun _ _=>id
theorem Dr.r (h:Dr w s v):Bf w s v:=⟨h.ent.sl,h.mrk.sl,h.cl.sl⟩
theorem Bf.oL (h:Bf w s v):∀q,BE s v q->q<w.heap.size:=by
 rintro q (⟨h1,h2⟩|⟨h1,h2⟩|⟨h1,h2⟩)
 ·exact EG h.ent h1 h2
 ·exact EG h.mrk h1 h2
 ·exact EG h.cl h1 h2
theorem Bf.kO (h:Bf w s v)(k:Ad S w w')(hn:∀q,BE s v q->¬S q):Bf w' s v:=
 ⟨h.ent.keepN k fun x hx he=>hn x.block (.inl ⟨he,x,hx,rfl⟩),h.mrk.keepN k fun x hx he=>hn x.block (.inr (.inl ⟨he,x,hx,rfl⟩)),h.cl.keepN k fun x hx he=>hn x.block (.inr (.inr ⟨he,x,hx,rfl⟩))⟩
theorem cart_d :∀q,BE s v q->En s q:=by
 rintro q (h|h|h)
 ·exact .inl h.2
 ·exact .inr (.inl h.2)
 ·exact .inr (.inr h.2)
theorem Bf.ext (h:Bf w s v)(k:Ap w w'):Bf w' s v:=⟨h.ent.ext k,h.mrk.ext k,h.cl.ext k⟩
theorem I1.cart (h:I1 w s v):Bf w s v:=⟨h.ent,h.mrk,h.cl⟩
theorem I2.cart (h:I2 w s v):Dr w s v:=⟨h.ent,h.mrk,h.cl⟩
theorem Ut.pairs (h:Ut s):(∀q,own s.ea q->¬own s.ma q)∧(∀q,own s.ea q->¬own s.ca q)∧(∀q,own s.ea q->¬own s.ba q)∧(∀q,own s.ea q->¬own s.pa q)∧(∀q,own s.ea q->¬own s.sa q)∧(∀q,own s.ma q->¬own s.ca q)∧(∀q,own s.ma q->¬own s.ba q)∧(∀q,own s.ma q->¬own s.pa q)∧(∀q,own s.ma q->¬own s.sa q)∧(∀q,own s.ca q->¬own s.ba q)∧(∀q,own s.ca q->¬own s.pa q)∧(∀q,own s.ca q->¬own s.sa q)∧(∀q,own s.ba q->¬own s.pa q)∧(∀q,own s.ba q->¬own s.sa q)∧(∀q,own s.pa q->¬own s.sa q):=
 ⟨List.pairwise_iff_getElem.1 h 0 1 Zs Zs Zd,List.pairwise_iff_getElem.1 h 0 2 Zs Zs Zd,List.pairwise_iff_getElem.1 h 0 3 Zs Zs Zd,List.pairwise_iff_getElem.1 h 0 4 Zs Zs Zd,List.pairwise_iff_getElem.1 h 0 5 Zs Zs Zd,List.pairwise_iff_getElem.1 h 1 2 Zs Zs Zd,List.pairwise_iff_getElem.1 h 1 3 Zs Zs Zd,List.pairwise_iff_getElem.1 h 1 4 Zs Zs Zd,List.pairwise_iff_getElem.1 h 1 5 Zs Zs Zd,List.pairwise_iff_getElem.1 h 2 3 Zs Zs Zd,List.pairwise_iff_getElem.1 h 2 4 Zs Zs Zd,List.pairwise_iff_getElem.1 h 2 5 Zs Zs Zd,List.pairwise_iff_getElem.1 h 3 4 Zs Zs Zd,List.pairwise_iff_getElem.1 h 3 5 Zs Zs Zd,List.pairwise_iff_getElem.1 h 4 5 Zs Zs Zd⟩
theorem Ut.cart (h:Ut s):Iy s:=by obtain⟨h1,h2,-,-,-,h3,-⟩:=h.pairs;exact⟨h1,h2,h3⟩
theorem SI.kO (h:SI w t)(k:Ad S w w')(hn:∀q,Og t.s q->¬S q):SI w' t:=⟨h.own.kO k hn,h.apart,h.ok⟩
theorem DI.oL (h:DI w ts):∀q,WY ts q->q<w.heap.size:=fun q ⟨f,hf,hq⟩=>(h.all f hf).own.oL q hq
theorem DI.kO (h:DI w ts)(k:Ad S w w')(hn:∀q,WY ts q->¬S q):DI w' ts:=⟨fun f hf=>(h.all f hf).kO k (fun q hq=>hn q ⟨f,hf,hq⟩),h.apart⟩
theorem DI.ext (h:DI w ts)(k:Ap w w'):DI w' ts:=h.kO k fun _ _=>id
theorem DI.nil (w:World):DI w []:=⟨fun _ h=>absurd h Zs,List.Pairwise.nil⟩
theorem DI.sub (h:DI w ts)(hs:l1.Sublist ts):DI w l1:=⟨fun f hf=>h.all f (hs.subset hf),h.apart.sublist hs⟩
theorem DI.snoc (h:DI w ts)(ht:SI w t)(hn:∀q,WY ts q->¬Og t.s q):DI w (ts++[t]):=by
 refine⟨fun f hf=> ?_,List.pairwise_append.2 ⟨h.apart,List.pairwise_singleton _ _,fun a ha c hc q h1 h2=> ?_⟩⟩
 ·rcases List.mem_append.1 hf with hf|hf
  ·exact h.all f hf
  ·simp only[Aah]at hf;subst hf;exact ht
 ·simp only[Aah]at hc;subst hc;exact hn q ⟨a,ha,h1⟩ h2
theorem mid_sub :(l1++l2).Sublist (l1++t::l2):=List.Sublist.append_left (Acp t l2) l1
theorem DI.open (h:DI w ts)(e:ts=l1++p::l2):SI w p∧DI w (l1++l2)∧∀q,WY (l1++l2) q->¬Og p.s q:=by
 subst e
 refine⟨h.all p Zs,h.sub mid_sub,fun q ⟨f,hf,hq⟩ h2=> ?_⟩
 have hp:=h.apart
 rcases List.mem_append.1 hf with hf|hf
 ·exact(List.pairwise_append.1 hp).2.2 f hf p Zs q hq h2
 ·exact(List.pairwise_cons.1 (List.pairwise_append.1 hp).2.1).1 f hf q h2 hq
def WZ (w:World)(ks:List Mg):Prop:=∀m∈ks,I1 w m.s m.v∧JT m.v
theorem DI.r (h:DI w ks):WZ w ks:=fun m hm=>⟨(h.all m hm).own.r,(h.all m hm).ok⟩
theorem WZ.ext (h:WZ w ks)(k:Ap w w'):WZ w' ks:=fun m hm=>⟨(h m hm).1.ext k,(h m hm).2⟩
end
attribute [local irreducible] X
theorem Vc (v:MV)(s:Ge)(w:World)(hR:Bf w s v)(hv:JT v):
  Calls prog 42 #[.agg #[.slice s.ma v.mrk.length s.mc,.slice s.ca v.cl.length s.cc]] w (AN (fun r w'=>∃a0 c0 a1 c1,r= .agg #[.slice a0 v.mrk.length c0,.slice a1 v.cl.length c1]∧Af w' 46 a0 c0 v.mrk∧Af w' 73 a1 c1 v.cl∧(∀q,own a0 q->¬own a1 q)∧(∀q,own a0 q->w.heap.size<=q)∧(∀q,own a1 q->w.heap.size<=q)∧Ap w w')):=by
 have hv0:=hv;obtain⟨hv1,hv2,hv3,hv4,hv5,hv6⟩:=hv;refine Ac (n:=10) func42 rfl rfl rfl ?_;refine jG ?_;refine jR<|jB ?_;intro ak aq ai a3 aj;have:w.heap.size<=ak:=ai;clear ai;have K0:=(aj:Ap w _);refine jR<|jA ?_;intro ar au a4 a2 aa;have av:=Ak a3.lt a4;replace hR:=hR.ext aj;have aw:=An hR.oL a4;have:=Aaa K0.size a4;clear a4;refine jG ?_;refine Ai.drawS [7] [0,1001,3,1004,2002,2005,6,2007] ?_;intro ax a5;replace a3:=(a3.ext aa).ext a5;refine jM (jb a3 Jn) ?_;refine jG ?_;replace hR:=(hR.ext aa).ext a5;refine jU rfl<|jC (Hm _ _ _ _ hR.mrk Zo) ?_;rintro _ ay ⟨ab,ac,rfl,a6,ad,a7⟩;replace a2:=a2.ext a5;have al:=Aw ad a2.lt;replace K0:=(K0.ext aa).ext a5;have am:=Bd K0.size ad;clear ad;replace a3:=a3.ext a7;refine jG ?_;replace hR:=hR.ext a7;refine jU rfl<|jC (M4 _ _ _ _ hR.cl Zo) ?_;rintro _ az ⟨ae,af,rfl,ag,a8,a9⟩;replace a2:=a2.ext a7;have an:=Aw a8 a2.lt;have ao:=Ah a8 a6.oL;replace K0:=K0.ext a7;have ap:=Bd K0.size a8;clear a8;replace a3:=a3.ext a9;refine jG ?_;refine jP ?_ (hx:=by exact fun _=>(AI (cells:=#[.slice ab v.mrk.length ac,.slice ae v.cl.length af]) Zk));replace a2:=a2.ext a9;refine jU rfl<|jS a2 ?_;intro aA a2 ah;refine jG ?_;refine Ai.retC (cs:=#[.slice ab v.mrk.length ac,.slice ae v.cl.length af]) func42 rfl ty31 rfl rfl a2.cl ?_;replace a6:=(a6.ext a9).kO ah (Aa al);replace K0:=(K0.ext a9).n1 ah;replace ag:=ag.kO ah (Aa an);exact⟨_,rfl,ab,ac,ae,af,rfl,a6,ag,(Zf ao),am,ap,K0⟩
theorem Vd (v:MV)(s:Ge)(w:World)(hR:Bf w s v)(hv:JT v):
  Calls prog 10 #[.agg #[.slice s.ea v.ent.length s.ec,.slice s.ma v.mrk.length s.mc,.slice s.ca v.cl.length s.cc]] w (AN (fun r w'=>∃s',r= .agg #[.slice s'.ea v.ent.length s'.ec,.slice s'.ma v.mrk.length s'.mc,.slice s'.ca v.cl.length s'.cc]∧Dr w' s' v∧Iy s'∧(∀q,En s' q->w.heap.size<=q)∧Ap w w')):=by
 have hv0:=hv;obtain⟨hv1,hv2,hv3,hv4,hv5,hv6⟩:=hv;refine Ac (n:=10) func10 rfl rfl rfl ?_;refine jG ?_;refine jR<|jB ?_;intro am az ak a1 al;have:w.heap.size<=am:=ak;clear ak;have K0:=(al:Ap w _);refine jR<|jA ?_;intro aA aB a5 a0 aa;have aC:=Ak a1.lt a5;replace hR:=hR.ext al;have an:=An hR.oL a5;have:=Aaa K0.size a5;clear a5;refine jG ?_;refine Ai.drawS [7] [0,1001,3,1004,2002,2005,6,2007] ?_;intro aD a6;replace a1:=(a1.ext aa).ext a6;refine jM (jb a1 Jn) ?_;refine jG ?_;replace hR:=(hR.ext aa).ext a6;refine jU rfl<|jC (Mc _ _ _ _ hR.ent Zo) ?_;rintro _ aE ⟨ab,ac,rfl,a2,ad,a7⟩;replace a0:=a0.ext a6;have ao:=Aw ad a0.lt;replace K0:=(K0.ext aa).ext a6;have ap:=Bd K0.size ad;clear ad;replace a1:=a1.ext a7;refine jG ?_;replace hR:=hR.ext a7;refine jU rfl<|jC (Vc v s _ hR Za) ?_;rintro _ aF ⟨ae,af,ag,ah,rfl,ai,aj,aq,a8,a9,a3⟩;replace a0:=a0.ext a7;have ar:=Aw a8 a0.lt;have au:=Ah a8 a2.oL;replace K0:=K0.ext a7;have av:=Bd K0.size a8;have aw:=Aw a9 a0.lt;have ax:=Ah a9 a2.oL;have ay:=Bd K0.size a9;clear a8 a9;replace a1:=a1.ext a3;refine jG ?_;refine jP ?_ (hx:=by exact fun _=>(AI (cells:=#[.slice ab v.ent.length ac,.slice ae v.mrk.length af,.slice ag v.cl.length ah]) Zk));replace a0:=a0.ext a3;refine jU rfl<|jS a0 ?_;intro aG a0 a4;refine jG ?_;refine Ai.retC (cs:=#[.slice ab v.ent.length ac,.slice ae v.mrk.length af,.slice ag v.cl.length ah]) func10 rfl ty33 rfl rfl a0.cl ?_;replace hR:=(hR.ext a3).kO a4 (Aa an);replace a2:=(a2.ext a3).kO a4 (Aa ao);replace K0:=(K0.ext a3).n1 a4;replace ai:=ai.kO a4 (Aa ar);replace aj:=aj.kO a4 (Aa aw)
 exact⟨_,rfl,⟨ab,ac,ae,af,ag,ah,none,0,none,0,none,0⟩,rfl,⟨a2,ai,aj⟩,⟨(Zf au),(Zf ax),aq⟩,fun q hq=>by
  rcases hq with hq|hq|hq
  ·exact ap q hq
  ·exact av q hq
  ·exact ay q hq,K0⟩
end
end Go.Proofs.YtjkaicjmfgekjaaGreatDoor
