/-
  Cq, Cr
-/
import Derived.Test.YtjkaicjmfgekjaaGreatDoorRows
import Derived.Test.YtjkaicjmfgekjaaGreatDoorPkCp
import Derived.Test.YtjkaicjmfgekjaaGreatDoorPkI
set_option linter.all false
set_option maxRecDepth 100000
set_option maxHeartbeats 4000000
namespace Go.Proofs.YtjkaicjmfgekjaaGreatDoor
open Go.Proofs.Tryz
attribute [local irreducible] RD RS Av RL RA RT CJ Aj
def MG (a b:Ag):Bool:= !decide (DQ b a)
theorem KD (a b c:Ag)(h1:MG a b=true)(h2:MG b c=true):MG a c=true:=by
 simp only[MG,Bool.not_eq_true',decide_eq_false_iff_not]at*
 intro h
 by_cases h3:DQ a b
 ·exact h2 (DN _ _ _ h h3)
 ·obtain⟨e1,e2⟩:=Is h3 h1
  refine h2 ?_
  unfold DQ at*
  rw[e1,e2]at h;exact h
theorem P5 (a b:Ag):(MG a b||MG b a)=true:=by
 simp only[MG,Bool.or_eq_true,Bool.not_eq_true',decide_eq_false_iff_not]
 by_cases h:DQ b a
 ·exact .inr fun h2=>Hb _ (DN _ _ _ h h2)
 ·exact .inl h
def Gq (l:List Ag):List Ag:=l.mergeSort MG
theorem HJ {l:List Ag}{x:Ag}:x∈Gq l↔x∈l:=List.mem_mergeSort
theorem KE (l:List Ag):(Gq l).length=l.length:=List.length_mergeSort _
def Jq (l:List Ag):Prop:=l.Pairwise fun a b=>a.dot≠b.dot
theorem He {l:List Ag}(h:Jq l):(Gq l).Pairwise DQ:=by
 have h1:(Gq l).Pairwise (fun a b=>MG a b=true):=List.pairwise_mergeSort KD P5 l
 have h2:Jq (Gq l):=(List.Perm.pairwise_iff (R:=fun(a b:Ag)=>a.dot≠b.dot) (fun h=>h.symm) (List.mergeSort_perm l MG)).2 h
 refine(h1.and h2).imp ?_
 intro a b ⟨h3,h4⟩
 simp only[MG,Bool.not_eq_true',decide_eq_false_iff_not]at h3
 exact Decidable.byContradiction fun h5=>h4 (Is h5 h3).2
def EH (e:Ag)(s:List Ag×Bool)(x:Ag):List Ag×Bool:=if s.2=false∧DQ e x then(s.1++[e]++[x],true)else(s.1++[x],s.2)
def CS (l:List Ag)(e:Ag)(i:Nat):List Ag×Bool:=(l.take i).foldl (EH e) ([],false)
def EB (l:List Ag)(e:Ag):List Ag:=if (CS l e l.length).2 then(CS l e l.length).1 else(CS l e l.length).1++[e]
def Hf (e:Ag):List Ag→List Ag
 |[]=>[e]
 |x::t=>if DQ e x then e::x::t else x::Hf e t
theorem Sb (e:Ag)(l out:List Ag):l.foldl (EH e) (out,true)=(out++l,true):=by
 induction l generalizing out with
 |nil=>simp
 |cons x l ih=>rw[List.foldl_cons,EH,if_neg Zs,ih];simp
theorem P6 (e : Ag) (l out : List Ag) : (if (l.foldl (EH e) (out, false)).2 then (l.foldl (EH e) (out, false)).1 else (l.foldl (EH e) (out, false)).1 ++ [e]) = out ++ Hf e l := by
  induction l generalizing out with
  | nil => simp [Hf]
  | cons x l ih =>
    rw [List.foldl_cons, Hf]
    by_cases h : DQ e x
    · have q : EH e (out, false) x = (out ++ [e] ++ [x], true) := by rw [EH, if_pos ⟨rfl, h⟩]
      rw [q, Sb, if_pos h]; simp
    · have q : EH e (out, false) x = (out ++ [x], false) := by rw [EH, if_neg (by simp [h])]
      rw [q, if_neg h, ih]; simp
theorem O1 (l:List Ag)(e:Ag):EB l e=Hf e l:=by
 have:=P6 e l []
 rw[EB,CS,List.take_length];simpa using this
theorem Hg {e x : Ag} : ∀ {l : List Ag}, x ∈ Hf e l ↔ x = e ∨ x ∈ l
  | [] => by simp [Hf]
  | y :: l => by
    rw [Hf]
    split
    · simp
    · rw [List.mem_cons, Hg, List.mem_cons]
      constructor
      · rintro (h | h | h) <;> simp [h]
      · rintro (h | h | h) <;> simp [h]
theorem MH (e:Ag):∀l:List Ag,(Hf e l).length=l.length+1
 |[]=>rfl
 |y::l=>by rw[Hf];split<;>simp[MH e l]
theorem H3 {e : Ag} : ∀ {l : List Ag}, l.Pairwise DQ → (∀ x ∈ l, x.dot ≠ e.dot) → (Hf e l).Pairwise DQ
  | [], _, _ => by simp [Hf]
  | y :: l, h, hd => by
    rw [List.pairwise_cons] at h
    rw [Hf]
    split
    · rename_i hl
      refine List.pairwise_cons.2 ⟨fun z hz => ?_, List.pairwise_cons.2 h⟩
      rcases List.mem_cons.1 hz with rfl | hz
      · exact hl
      · exact DN _ _ _ hl (h.1 z hz)
    · rename_i hl
      refine List.pairwise_cons.2 ⟨fun z hz => ?_, H3 h.2 fun x hx => hd x (by simp [hx])⟩
      rcases Hg.1 hz with rfl | hz
      · exact Decidable.byContradiction fun h2 => hd y Zs (Is h2 hl).2
      · exact h.1 z hz
theorem WE {ks l : List Ag} (hl : l.Pairwise DQ) (hk : Jq ks) (hd : ∀ x ∈ l, ∀ y ∈ ks, x.dot ≠ y.dot) : (ks.foldl EB l).Pairwise DQ ∧ ∀ x, x ∈ ks.foldl EB l ↔ x ∈ l ∨ x ∈ ks := by
  induction ks generalizing l with
  | nil => exact ⟨hl, fun x => by simp⟩
  | cons k ks ih =>
    obtain ⟨h1, h2⟩ := List.pairwise_cons.1 hk
    rw [List.foldl_cons, O1]
    have h := ih (l := Hf k l) (H3 hl fun x hx => hd x hx k Zs) h2 (fun x hx y hy => by
      rcases Hg.1 hx with rfl | hx
      · exact h1 y hy
      · exact hd x hx y (by simp [hy]))
    refine ⟨h.1, fun x => (h.2 x).trans ?_⟩
    rw [Hg, List.mem_cons]
    constructor
    · rintro ((h | h) | h) <;> simp [h]
    · rintro (h | h | h) <;> simp [h]
def kA (es:List Ag)(ms2:List Aa)(cl2:List Ad)(es2:List Ag):List Ag:=es.filter fun x=>decide (x∈es2)|| !decide (B0 ms2 cl2 x.dot)
def kB (ms:List Aa)(cl:List Ad)(es2:List Ag):List Ag:=es2.filter fun x=> !decide (B0 ms cl x.dot)
def AR (ms:List Aa)(cl:List Ad)(es:List Ag)(ms2:List Aa)(cl2:List Ad)(es2:List Ag):List Ag:=Gq (kA es ms2 cl2 es2++kB ms cl es2)
section
variable {ms ms2:List Aa}{cl cl2:List Ad}{es es2:List Ag}{x y:Ag}{i:Nat}
theorem Fa.dotU (h:Fa ms cl es):Jq es:=by
 refine(h.sorted).imp_of_mem ?_
 intro a b ha hb hlt e
 exact Hb _ (h.dots ha hb e▸hlt)
theorem Lq (hx:x∈kA es ms2 cl2 es2):x∈es:=(List.mem_filter.1 hx).1
theorem kB_mem :x∈kB ms cl es2↔x∈es2∧¬B0 ms cl x.dot:=by simp[kB]
theorem W4 (h:Fa ms cl es)(hx:x∈kA es ms2 cl2 es2)(hy:y∈kB ms cl es2):x.dot≠y.dot:=fun e=>(kB_mem.1 hy).2 (e▸(h.mem (Lq hx)).2.2.2)
theorem Lr (h:Fa ms cl es)(h2:Fa ms2 cl2 es2):Jq (kA es ms2 cl2 es2++kB ms cl es2):=
 List.pairwise_append.2 ⟨h.dotU.filter _,h2.dotU.filter _,fun _ hx _ hy=>W4 h hx hy⟩
theorem MI (h:Fa ms cl es)(h2:Fa ms2 cl2 es2):(kB ms cl es2).foldl EB (kA es ms2 cl2 es2)=AR ms cl es ms2 cl2 es2:=by
 have hf:=WE (h.sorted.filter _) (h2.dotU.filter _) (fun x (hx:x∈kA es ms2 cl2 es2) y (hy:y∈kB ms cl es2)=>W4 h hx hy)
 refine Fo Hb DN hf.1 (He (Lr h h2)) fun x=> ?_
 rw[AR,HJ,List.mem_append]
 exact hf.2 x
theorem Sc (h:Fa ms cl es)(h2:Fa ms2 cl2 es2)(hx:es2[i]? =some x):
  ((x∈es∨¬B0 ms cl x.dot)∧x∉kA es ms2 cl2 es2++kB ms cl (es2.take i))↔¬B0 ms cl x.dot:=by
 constructor
 ·rintro⟨h3|h3,h4⟩
  ·exact absurd (List.mem_append_left _ (List.mem_filter.2 ⟨h3,by simp[Bc hx]⟩)) h4
  ·exact h3
 ·intro h3
  refine⟨.inr h3,fun h4=> ?_⟩
  rcases List.mem_append.1 h4 with h4|h4
  ·exact h3 (h.mem (Lq h4)).2.2.2
  ·exact(h2.ent i x hx).dots x (kB_mem.1 h4).1 rfl
theorem Iv (hx:es2[i]? =some x):kB ms cl (es2.take (i+1))=kB ms cl (es2.take i)++(if B0 ms cl x.dot then[]else[x]):=by
 unfold kB
 rw[CP hx,List.filter_append]
 congr 1
 split<;>rename_i h<;>simp[h]
theorem Iw (hx:es[i]? =some x):kA (es.take (i+1)) ms2 cl2 es2=kA (es.take i) ms2 cl2 es2++(if x∈es2∨¬B0 ms2 cl2 x.dot then[x]else[]):=by
 unfold kA
 rw[CP hx,List.filter_append]
 congr 1
 by_cases h1:x∈es2<;>by_cases h2:B0 ms2 cl2 x.dot<;>simp[h1,h2]
theorem kA_len :(kA es ms2 cl2 es2).length≤es.length:=List.length_filter_le _ _
theorem kB_len :(kB ms cl es2).length≤es2.length:=List.length_filter_le _ _
theorem kept_len :(AR ms cl es ms2 cl2 es2).length≤es.length+es2.length:=by
 have h1:=kA_len (es:=es) (ms2:=ms2) (cl2:=cl2) (es2:=es2)
 have h2:=kB_len (ms:=ms) (cl:=cl) (es2:=es2)
 rw[AR,KE,List.length_append];omega
theorem MJ (hx:x∈AR ms cl es ms2 cl2 es2):x∈es∨x∈es2:=by
 rw[AR,HJ,List.mem_append]at hx
 exact hx.elim (fun h=> .inl (Lq h)) (fun h=> .inr (kB_mem.1 h).1)
def Fc (es es2:List Ag):Prop:=∃x∈es,∃y∈es2,x.dot=y.dot∧x≠y
open Classical in
noncomputable def A7 (ms:List Aa)(cl:List Ad)(es:List Ag)(ms2:List Aa)(cl2:List Ad)(es2:List Ag):Int×(List Aa×List Ad)×List Ag:=
 if Bj ms cl es≠0 then(Bj ms cl es,([],[]),[])else if Bj ms2 cl2 es2≠0 then(Bj ms2 cl2 es2,([],[]),[])
 else if (Ar ms cl ms2 cl2).1≠0 then((Ar ms cl ms2 cl2).1,([],[]),[])
 else if 64<(AR ms cl es ms2 cl2 es2).length∨32<itemsN (AR ms cl es ms2 cl2 es2)then(51,([],[]),[])
 else if Fc es es2 then(50,([],[]),[])else(0,(Ar ms cl ms2 cl2).2,AR ms cl es ms2 cl2 es2)
theorem Hh (h:Bj ms cl es≠0):A7 ms cl es ms2 cl2 es2=(Bj ms cl es,([],[]),[]):=by rw[A7,if_pos h]
theorem Fw (h:Bj ms cl es=0)(h2:Bj ms2 cl2 es2≠0):A7 ms cl es ms2 cl2 es2=(Bj ms2 cl2 es2,([],[]),[]):=by rw[A7,if_neg (not_not_intro h),if_pos h2]
theorem Hi (h:Bj ms cl es=0)(h2:Bj ms2 cl2 es2=0)(h3:(Ar ms cl ms2 cl2).1≠0):A7 ms cl es ms2 cl2 es2=((Ar ms cl ms2 cl2).1,([],[]),[]):=by rw[A7,if_neg (not_not_intro h),if_neg (not_not_intro h2),if_pos h3]
theorem Gg (h:Bj ms cl es=0)(h2:Bj ms2 cl2 es2=0)(h3:(Ar ms cl ms2 cl2).1=0)(h4:64<(AR ms cl es ms2 cl2 es2).length∨32<itemsN (AR ms cl es ms2 cl2 es2)):A7 ms cl es ms2 cl2 es2=(51,([],[]),[]):=by
 rw[A7,if_neg (not_not_intro h),if_neg (not_not_intro h2),if_neg (not_not_intro h3),if_pos h4]
theorem Hj (h:Bj ms cl es=0)(h2:Bj ms2 cl2 es2=0)(h3:(Ar ms cl ms2 cl2).1=0)(h4:¬(64<(AR ms cl es ms2 cl2 es2).length∨32<itemsN (AR ms cl es ms2 cl2 es2)))(h5:Fc es es2):A7 ms cl es ms2 cl2 es2=(50,([],[]),[]):=by
 rw[A7,if_neg (not_not_intro h),if_neg (not_not_intro h2),if_neg (not_not_intro h3),if_neg h4,if_pos h5]
theorem Eu (h:Bj ms cl es=0)(h2:Bj ms2 cl2 es2=0)(h3:(Ar ms cl ms2 cl2).1=0)(h4:¬(64<(AR ms cl es ms2 cl2 es2).length∨32<itemsN (AR ms cl es ms2 cl2 es2)))(h5:¬Fc es es2):A7 ms cl es ms2 cl2 es2=(0,(Ar ms cl ms2 cl2).2,AR ms cl es ms2 cl2 es2):=by
 rw[A7,if_neg (not_not_intro h),if_neg (not_not_intro h2),if_neg (not_not_intro h3),if_neg h4,if_neg h5]
theorem joinC_len :(A7 ms cl es ms2 cl2 es2).2.2.length≤64:=by
 unfold A7
 split
 ·simp
 ·split
  ·simp
  ·split
   ·simp
   ·split
    ·simp
    ·split
     ·simp
     ·simp only;omega
theorem NS (hx:x∈(A7 ms cl es ms2 cl2 es2).2.2):x∈es∨x∈es2:=by
 unfold A7 at hx
 split at hx
 ·simp at hx
 ·split at hx
  ·simp at hx
  ·split at hx
   ·simp at hx
   ·split at hx
    ·simp at hx
    ·split at hx
     ·simp at hx
     ·exact MJ hx
end
theorem Vh {l:List Ag}{x:Ag}{i:Nat}(hno:EF (fun y=>decide (y=x)) l i)(hi:l.length≤i):¬x∈l:=fun h=>by
 obtain⟨j,hj,rfl⟩:=List.getElem_of_mem h
 have h:=hno j _ Zo (List.getElem?_eq_getElem hj)
 simp at h
theorem Jr (l:List Ag)(e:Ag):CS l e 0=([],false):=rfl
theorem GH {l:List Ag}{e x:Ag}{i:Nat}(hx:l[i]? =some x):CS l e (i+1)=EH e (CS l e i) x:=Gb hx
theorem Gh (l : List Ag) (e : Ag) (i : Nat) (hi : i ≤ l.length) : (CS l e i).1.length ≤ 2 * i := by
  induction i with
  | zero => rw [Jr]; simp
  | succ i ih =>
    have := ih Zo
    rw [GH (List.getElem?_eq_getElem (show i < l.length by omega)), EH]
    split <;> simp <;> omega
theorem Sd {l:List Ag}{e:Ag}{i:Nat}(hi:i≤l.length)(h:l.length≤i)(hp:(CS l e i).2=true):EB l e=(CS l e i).1:=by
 have q:i=l.length:=by omega
 subst q;rw[EB,if_pos hp]
theorem TT {l:List Ag}{e:Ag}{i:Nat}(hi:i≤l.length)(h:l.length≤i)(hp:(CS l e i).2=false):EB l e=(CS l e i).1++[e]:=by
 have q:i=l.length:=by omega
 subst q;rw[EB,if_neg (by rw[hp];simp)]
theorem Se (l:List Ag)(e:Ag):(EB l e).length=l.length+1:=by rw[O1,MH]
theorem O2 (es:List Ag)(ms2:List Aa)(cl2:List Ad)(es2:List Ag):kA (es.take 0) ms2 cl2 es2=[]:=rfl
theorem O3 (ms:List Aa)(cl:List Ad)(es2:List Ag):kB ms cl (es2.take 0)=[]:=rfl
theorem O4 {es es2:List Ag}{ms2:List Aa}{cl2:List Ad}{i:Nat}:(kA (es.take i) ms2 cl2 es2).length≤i:=Nat.le_trans kA_len Zt
theorem O5 {es2:List Ag}{ms:List Aa}{cl:List Ad}{i:Nat}:(kB ms cl (es2.take i)).length≤i:=Nat.le_trans kB_len Zt
theorem P7 (ks:List Ag):∀l:List Ag,(ks.foldl EB l).length=l.length+ks.length:=by
 induction ks with
 |nil=>intro l;rfl
 |cons k ks ih=>intro l;rw[List.foldl_cons,ih,Se,List.length_cons];omega
theorem MK {es es2:List Ag}{i:Nat}(h:∀j,j<i→∀x,es[j]? =some x→∀y∈es2,¬(x.dot=y.dot∧x≠y))(hi:es.length≤i):¬Fc es es2:=by
 rintro⟨x,hx,y,hy,h2⟩
 exact GF h hi x hx y hy h2
theorem ML {es es2:List Ag}{i j:Nat}{x y:Ag}(hx:es[i]? =some x)(hy:es2[j]? =some y)(h1:x.dot=y.dot)(h2:¬x=y):Fc es es2:=⟨x,Bc hx,y,Bc hy,h1,h2⟩
theorem Fd {ms ms2:List Aa}{cl cl2:List Ad}:(Ar ms cl ms2 cl2).2.1.length≤64∧(Ar ms cl ms2 cl2).2.2.length≤64:=by
 unfold Ar
 split
 ·unfold A5
  split
  ·simp
  ·split
   ·simp
   ·simp only;omega
 ·simp
attribute [local irreducible] AE FC CC BS BL B2 B0 Du
attribute [local irreducible] DQ D5 itemsN CQ A0 Bj B4 Gr A6 Bw
attribute [local irreducible] CS EB AR A7 Ar Fc
attribute [local irreducible] X
theorem Vi (a:Option Addr)(l:List Ag)(c:Nat)(e:Ag)(w:World)(hs:As w a l)(hl:l.length≤1000000):
  Calls prog 30 #[.slice a l.length c,.agg #[.string ((e).item),.int .i64 (((e).dot).node),.int .i64 (((e).dot).life),.int .i64 (((e).dot).count),.int .i64 ((e).qty),.int .u64 ((e).price)]] w (AS (fun v w'=>∃a' c',v= .slice a' (EB l e).length c'∧Af w' 76 a' c' (EB l e)∧(∀b,own a' b→w.heap.size≤b)∧Aq w w')):=by
 refine Ae (n:=38) func30 rfl rfl rfl ?_;refine jG ?_;refine jR<|jB ?_;intro a3 ay am a0 az;have:w.heap.size≤a3:=am;clear am;have K0:=(az:Aq w _);refine jG ?_;refine Aj.loop (ι:=Nat) (fun i ρ' w'=>∃a':Option Addr,∃c':Nat,Holds ρ' [(3,jp a3),(5,.slice a' (((CS l e i).1).length) c'),(6,.bool ((CS l e i).2)),(9,.slice a l.length c),(10,.int .i64 ((l.length:Nat):Int)),(11,.int .i64 ((i:Nat):Int))]∧Aq w w'∧(AA w' a3 [.string ((e).item),.int .i64 (((e).dot).node),.int .i64 (((e).dot).life),.int .i64 (((e).dot).count),.int .i64 ((e).qty),.int .u64 ((e).price)] 76)∧(Af w' 76 a' c' ((CS l e i).1))∧(¬own a' a3)∧(∀q_,own a' q_→w.heap.size≤q_)∧(i≤l.length)) (fun i=>l.length-i) 0 ?_ ?_
 ·rw[Jr]
  have aA:=Af.nil (α:=Ag) ay 76;refine⟨_,_,⟨rfl,rfl,rfl,rfl,rfl,rfl,trivial⟩,K0,a0,aA,(Ac a3),(fun q_ h1=>absurd h1 (Ac q_)),?_⟩
  ·omega
 clear a0;clear K0;rintro i aZ b0 ⟨a',c',an,K0,a0,a1,a6,a4,hi⟩ ih1;obtain⟨ρ₀,rfl⟩:=an.ex;clear an;refine jG ?_;refine jF ?_ ?_
 ·intro hc12
  obtain⟨b1,b2,x,hx,b3,a7⟩:=hs.eo i;have hc_16_lt:=a7.lt;replace a7:=a7.ext K0;refine jG ?_;refine jR<|jA ?_;intro aB b4 a5 a2 ac;have b5:=Ai a0.lt a5;have b6:=Ai a7.lt a5;have ad:=Al a1.own_lt a5;have:=Nat.le_trans K0.size a5;clear a5;refine jR<|jS a2 ?_;intro b7 a2 ae;replace a0:=(a0.ext ac).kp ae;refine jG ?_;refine RL.gcall (vals:=[.agg #[.string ((x).item),.int .i64 (((x).dot).node),.int .i64 (((x).dot).life),.int .i64 (((x).dot).count),.int .i64 ((x).qty),.int .u64 ((x).price)],.agg #[.string ((e).item),.int .i64 (((e).dot).node),.int .i64 (((e).dot).life),.int .i64 (((e).dot).count),.int .i64 ((e).qty),.int .u64 ((e).price)]]) (Bg rfl rfl rfl rfl) en73.h (fun hg=>(BM (Bf hg) (BM (Bf hg) EJ))) (fun hg=>(R7 x e _)) ?_;intro b8 a8;refine jV (AJ rfl rfl rfl) ?_;refine jG ?_;replace a1:=((a1.ext ac).keepO ae (Ab ad)).ext a8;replace K0:=((K0.ext ac).n1 ae).ext a8;replace a0:=a0.ext a8;replace a2:=a2.ext a8;refine jF ?_ ?_
  ·intro hc21
   have hsl:=Gh l e i hi;refine jG ?_;refine jR<|Av.buildSlice ([e]:List Ag) underlying27 ty76 rfl rfl Ze ?_;intro b9 ba aC aD a9;clear aC;replace a1:=a1.ext a9;refine jR<|Av.append (xs:=(CS l e i).1) (ys:=([e]:List Ag)) underlying27 ty76 rfl rfl rfl a1 aD.sl Zr Zd ?_;intro af bb bc ag ah aa aE;replace a0:=a0.ext a9;have ao:¬own af a3:=aa.not a6 a0.lt;replace a2:=a2.ext a9;have aF:¬own af aB:=aa.not ad a2.lt;replace K0:=K0.ext a9;have ap:∀q_,own af q_→w.heap.size≤q_:=aa.ge a4 K0.size;clear aa;clear aE;have hsl:=Gh l e i hi;replace a2:=a2.keep ah ad;refine jG ?_;refine jR<|Av.buildSlice ([x]:List Ag) underlying27 ty76 rfl rfl Ze ?_;intro be bg aG aH ab;clear aG;replace ag:=ag.ext ab;refine jR<|Av.append (xs:=((CS l e i).1)++([e]:List Ag)) (ys:=([x]:List Ag)) underlying27 ty76 rfl rfl rfl ag aH.sl Zr Zd ?_;intro aq bh bi aI ai aj aJ;replace a0:=(a0.keep ah a6).ext ab;have aK:¬own aq a3:=aj.not ao a0.lt;replace K0:=(K0.new ah a4).ext ab;have aL:∀q_,own aq q_→w.heap.size≤q_:=aj.ge ap K0.size;clear aj;clear aJ;refine jG ?_;refine jV (At (c:=((i+1:Nat):Int)) (An rfl rfl Zo Zo) rfl) ?_;refine jG ?_;have q:=GH (e:=e) hx;rw[EH,if_pos ⟨hc21.1,hc21.2⟩]at q;refine ih1 (i+1) _ _ ?_ Zo;rw[q];replace a2:=(a2.ext ab).keep ai aF;replace a0:=a0.keep ai ao;replace K0:=K0.new ai ap;refine⟨_,_,⟨rfl,rfl,rfl,rfl,rfl,rfl,trivial⟩,K0,a0,aI,aK,aL,?_⟩
   ·omega
  ·intro hc21
   have hsl:=Gh l e i hi;refine jG ?_;refine jR<|Av.buildSlice ([x]:List Ag) underlying27 ty76 rfl rfl Ze ?_;intro bj bk aM aN ak;clear aM;replace a1:=a1.ext ak;refine jR<|Av.append (xs:=(CS l e i).1) (ys:=([x]:List Ag)) underlying27 ty76 rfl rfl rfl a1 aN.sl Zr Zd ?_;intro ar bl bm aO au al aP;replace a0:=a0.ext ak;have aQ:¬own ar a3:=al.not a6 a0.lt;replace K0:=K0.ext ak;have aR:∀q_,own ar q_→w.heap.size≤q_:=al.ge a4 K0.size;clear al;clear aP;refine jG ?_;refine jV (At (c:=((i+1:Nat):Int)) (An rfl rfl Zo Zo) rfl) ?_;refine jG ?_;have q:=GH (e:=e) hx;rw[EH,if_neg (fun h_=>hc21.elim (fun h2=>by rw[h_.1]at h2;cases h2) (fun h2=>h2 h_.2))]at q;refine ih1 (i+1) _ _ ?_ Zo;rw[q];replace a0:=a0.keep au a6;replace K0:=K0.new au a4;refine⟨_,_,⟨rfl,rfl,rfl,rfl,rfl,rfl,trivial⟩,K0,a0,aO,aQ,aR,?_⟩
   ·omega
 ·intro hc12
  refine jG ?_;refine jF ?_ ?_
  ·intro hc32
   have hsl:=Gh l e i hi;refine jG ?_;refine jR<|Av.buildSlice ([e]:List Ag) underlying27 ty76 rfl rfl Ze ?_;intro bn bo aS aT av;clear aS;replace a1:=a1.ext av;refine jR<|Av.append (xs:=(CS l e i).1) (ys:=([e]:List Ag)) underlying27 ty76 rfl rfl rfl a1 aT.sl Zr Zd ?_;intro aw aU bp aV aW ax aX;replace K0:=K0.ext av;have aY:∀q_,own aw q_→w.heap.size≤q_:=ax.ge a4 K0.size;clear ax;clear aX;refine jG ?_;refine jJ func30 ?_;rw[TT hi Zo hc32];replace K0:=K0.new aW a4;exact⟨_,rfl,aw,aU,rfl,aV,aY,K0⟩
  ·intro hc32
   refine jG ?_;refine jJ func30 ?_;rw[Sd hi Zo hc32];exact⟨_,rfl,a',c',rfl,a1,a4,K0⟩
theorem Wb (am:Option Addr)(ms:List Aa)(cm:Nat)(ac:Option Addr)(cl:List Ad)(cc:Nat)(ae:Option Addr)(es:List Ag)(ce:Nat)(x:Ag)(w:World)(hs:As w am ms)(ht:As w ac cl)(hse:As w ae es)(hl:ms.length≤4294967295)(hl2:cl.length≤4294967295)(hl3:es.length≤4294967295):
  Calls prog 28 #[.agg #[.slice ae es.length ce,.slice am ms.length cm,.slice ac cl.length cc],.agg #[.string ((x).item),.int .i64 (((x).dot).node),.int .i64 (((x).dot).life),.int .i64 (((x).dot).count),.int .i64 ((x).qty),.int .u64 ((x).price)]] w (AS (fun v w'=>v= .bool (decide (x∈es))∧Aq w w')):=by
 refine Ae (n:=18) func28 rfl rfl rfl ?_;refine jG ?_;refine jR<|jB ?_;intro a7 ag a8 a0 af;have:w.heap.size≤a7:=a8;clear a8;have K0:=(af:Aq w _);refine jR<|jB ?_;intro a9 ah a4 a1 aa;have ai:=Ai a0.lt a4;have:=Nat.le_trans K0.size a4;clear a4;replace a0:=a0.ext aa;refine jG ?_;replace K0:=K0.ext aa;refine Aj.loop (ι:=Nat) (fun i ρ' w'=>Holds ρ' [(3,jp a9),(8,.slice ae es.length ce),(9,.int .i64 ((es.length:Nat):Int)),(10,.int .i64 ((i:Nat):Int))]∧Aq w w'∧(AA w' a7 [.slice ae es.length ce,.slice am ms.length cm,.slice ac cl.length cc] 33)∧(AA w' a9 [.string ((x).item),.int .i64 (((x).dot).node),.int .i64 (((x).dot).life),.int .i64 (((x).dot).count),.int .i64 ((x).qty),.int .u64 ((x).price)] 76)∧(i≤es.length)∧(EF (fun y=>decide (y=x)) es i)) (fun i=>es.length-i) 0 ?_ ?_
 ·refine⟨⟨rfl,rfl,rfl,rfl,trivial⟩,K0,a0,a1,?_,?_⟩
  ·omega
  ·exact EF.zero _ _
 clear a0 a1;clear K0;rintro i aj ak ⟨ab,K0,a0,a1,hi,hno⟩ ih1;obtain⟨ρ₀,rfl⟩:=ab.ex;clear ab;refine jG ?_;refine jF ?_ ?_
 ·intro hc11
  obtain⟨al,an,y,hy,ao,a3⟩:=hse.eo i;have hc_18_lt:=a3.lt;replace a3:=a3.ext K0;refine jG ?_;refine jR<|jA ?_;intro ap aq a2 ad a5;have ar:=Ai a0.lt a2;have au:=Ai a1.lt a2;have av:=Ai a3.lt a2;have:=Nat.le_trans K0.size a2;clear a2;refine jR<|jS ad ?_;intro aw ad a6;replace a1:=(a1.ext a5).kp a6;refine jG ?_;refine jV (EC Zk rfl rfl (E3 y x)) ?_;refine jG ?_;replace a0:=(a0.ext a5).kp a6;replace K0:=(K0.ext a5).n1 a6;refine jF ?_ ?_
  ·intro hc16
   refine jG ?_;refine jJ func28 ?_;exact⟨_,rfl,by rw[decide_eq_true (hc16▸Bc hy)],K0⟩
  ·intro hc16
   refine jG ?_;refine jV (At (c:=((i+1:Nat):Int)) (An rfl rfl Zo Zo) rfl) ?_;refine jG ?_;refine ih1 (i+1) _ _ ?_ Zo;refine⟨⟨rfl,rfl,rfl,rfl,trivial⟩,K0,a0,a1,?_,?_⟩
   ·omega
   ·exact hno.step hy (decide_eq_false hc16)
 ·intro hc11
  refine jG ?_;refine jJ func28 ?_;exact⟨_,rfl,by rw[decide_eq_false (Vh hno Zo)],K0⟩
theorem Sf (am:Option Addr)(ms:List Aa)(cm:Nat)(ac:Option Addr)(cl:List Ad)(cc:Nat)(ae:Option Addr)(es:List Ag)(ce:Nat)(w:World)(hs:As w am ms)(ht:As w ac cl)(hse:As w ae es)(hl:ms.length≤4294967295)(hl2:cl.length≤4294967295)(hl3:es.length≤4294967295)(hbad:64<es.length∨32<itemsN es):
  Calls prog 31 #[.agg #[.slice ae es.length ce,.slice am ms.length cm,.slice ac cl.length cc]] w (AS (fun v w'=>v= .tuple #[.agg #[.slice none 0 0,.slice none 0 0,.slice none 0 0],.int .i64 51]∧Aq w w')):=by
 refine Ae (n:=16) func31 rfl rfl rfl ?_;refine jG ?_;refine jR<|jB ?_;intro a6 a9 a3 a1 a7;have:w.heap.size≤a6:=a3;clear a3;have K0:=(a7:Aq w _);refine jR<|jA ?_;intro aa ab a2 a0 a4;have ad:=Ai a1.lt a2;have:=Nat.le_trans K0.size a2;clear a2;replace a1:=a1.ext a4;refine jG ?_;replace K0:=K0.ext a4;refine RL.gcall (vals:=[.slice ae es.length ce]) (Bl rfl rfl rfl rfl) en74.h (fun hg=>(BM (Bf hg) EJ)) (fun hg=>(Ln _ es _ _ (hse.ext K0) Zo)) ?_;intro af a5;refine jG ?_;refine jV (CI rfl rfl rfl) ?_;refine jG ?_;replace a0:=a0.ext a5;replace K0:=K0.ext a5;refine jF ?_ ?_
 ·intro hc13
  refine jG ?_;refine jV (AC (cells:=#[.slice none 0 0,.slice none 0 0,.slice none 0 0]) Zk) ?_;refine jR<|jS a0 ?_;intro ag a0 a8;refine jG ?_;refine Aj.retCT (x:= .int .i64 51) (cs:=#[.slice none 0 0,.slice none 0 0,.slice none 0 0]) func31 rfl ty33 rfl rfl a0.cl rfl ?_;replace K0:=K0.n1 a8;exact⟨_,rfl,rfl,K0⟩
 ·intro hc13
  exact absurd hbad Zo
theorem Sg (am:Option Addr)(ms:List Aa)(cm:Nat)(ac:Option Addr)(cl:List Ad)(cc:Nat)(ae:Option Addr)(es:List Ag)(ce:Nat)(w:World)(hs:As w am ms)(ht:As w ac cl)(hse:As w ae es)(hl:ms.length≤4294967295)(hl2:cl.length≤4294967295)(hl3:es.length≤4294967295)(hbad:¬(64<es.length∨32<itemsN es)):
  Calls prog 31 #[.agg #[.slice ae es.length ce,.slice am ms.length cm,.slice ac cl.length cc]] w (AS (fun v w'=>v= .tuple #[.agg #[.slice ae es.length ce,.slice am ms.length cm,.slice ac cl.length cc],.int .i64 0]∧Aq w w')):=by
 refine Ae (n:=16) func31 rfl rfl rfl ?_;refine jG ?_;refine jR<|jB ?_;intro a6 a9 a4 a0 a7;have:w.heap.size≤a6:=a4;clear a4;have K0:=(a7:Aq w _);refine jR<|jA ?_;intro aa ab a2 a1 a5;have ad:=Ai a0.lt a2;have:=Nat.le_trans K0.size a2;clear a2;replace a0:=a0.ext a5;refine jG ?_;replace K0:=K0.ext a5;refine RL.gcall (vals:=[.slice ae es.length ce]) (Bl rfl rfl rfl rfl) en74.h (fun hg=>(BM (Bf hg) EJ)) (fun hg=>(Ln _ es _ _ (hse.ext K0) Zo)) ?_;intro af a3;refine jG ?_;refine jV (CI rfl rfl rfl) ?_;refine jG ?_;replace a0:=a0.ext a3;replace a1:=a1.ext a3;replace K0:=K0.ext a3;refine jF ?_ ?_
 ·intro hc13
  exact absurd hc13 Zo
 ·intro hc13
  refine jG ?_;refine jR<|jS a1 ?_;intro ag a1 a8;refine jG ?_;refine Aj.retCT (x:= .int .i64 0) (cs:=#[.slice ae es.length ce,.slice am ms.length cm,.slice ac cl.length cc]) func31 rfl ty33 rfl rfl a1.cl rfl ?_;replace K0:=K0.n1 a8;exact⟨_,rfl,rfl,K0⟩
end Go.Proofs.YtjkaicjmfgekjaaGreatDoor
namespace Go.Proofs.YtjkaicjmfgekjaaGreatDoor
open Go.Proofs.Tryz
attribute [local irreducible] RD RS Av RL RA RT CJ Aj
theorem EN.kept {ms ms2:List Aa}{cl cl2:List Ad}{es es2:List Ag}(h:EN es)(h2:EN es2):EN (A7 ms cl es ms2 cl2 es2).2.2:=fun x hx=>(NS hx).elim (h x) (h2 x)
attribute [local irreducible] AE FC CC BS BL B2 B0 Du
attribute [local irreducible] DQ D5 itemsN CQ A0 Bj B4 Gr A6 Bw
attribute [local irreducible] CS EB AR A7 Ar Fc
theorem Sh (am:Option Addr)(ms:List Aa)(cm:Nat)(ac:Option Addr)(cl:List Ad)(cc:Nat)(d:Ad)(w:World)(hs:As w am ms)(ht:As w ac cl)(hl:ms.length≤4294967295)(hl2:cl.length≤4294967295)(hc:DF ms cl):Calls prog 29 #[.agg #[.slice am ms.length cm,.slice ac cl.length cc],.agg #[.int .i64 ((d).node),.int .i64 ((d).life),.int .i64 ((d).count)]] w (AS fun v w'=>v= .bool (decide (B0 ms cl d))∧Aq w w'):=(G3 am ms cm ac cl cc d w hs ht hl hl2).mono fun e_ w_ ⟨v_,h1_,h2_,h3_⟩=>⟨v_,h1_,h2_.trans (congrArg Value.bool (decide_eq_decide.2 hc.covR)),h3_⟩
attribute [local irreducible] X
theorem Vj (am:Option Addr)(ms:List Aa)(cm:Nat)(ac:Option Addr)(cl:List Ad)(cc:Nat)(ae:Option Addr)(es:List Ag)(ce:Nat)(am2:Option Addr)(ms2:List Aa)(cm2:Nat)(ac2:Option Addr)(cl2:List Ad)(cc2:Nat)(ae2:Option Addr)(es2:List Ag)(ce2:Nat)(w:World)(hcap:es.length≤ce)(hcap2:es2.length≤ce2)(hs:As w am ms)(ht:As w ac cl)(hse:As w ae es)(hs2:As w am2 ms2)(ht2:As w ac2 cl2)(hse2:As w ae2 es2)(hl:ms.length≤4294967295)(hl2:cl.length≤4294967295)(hl3:es.length≤4294967295)(hl4:ms2.length≤4294967295)(hl5:cl2.length≤4294967295)(hl6:es2.length≤4294967295)(hb:EN es)(hb2:EN es2):
  Calls prog 7 #[.agg #[.slice ae es.length ce,.slice am ms.length cm,.slice ac cl.length cc],.agg #[.slice ae2 es2.length ce2,.slice am2 ms2.length cm2,.slice ac2 cl2.length cc2]] w (AS (fun v w'=>∃ae ce am cm ac cc,v= .tuple #[.agg #[.slice ae (A7 ms cl es ms2 cl2 es2).2.2.length ce,.slice am (A7 ms cl es ms2 cl2 es2).2.1.1.length cm,.slice ac (A7 ms cl es ms2 cl2 es2).2.1.2.length cc],.int .i64 (A7 ms cl es ms2 cl2 es2).1]∧Af w' 76 ae ce (A7 ms cl es ms2 cl2 es2).2.2∧Af w' 46 am cm (A7 ms cl es ms2 cl2 es2).2.1.1∧Af w' 73 ac cc (A7 ms cl es ms2 cl2 es2).2.1.2∧(∀q,own ae q→¬own am q)∧(∀q,own ae q→¬own ac q)∧(∀q,own am q→¬own ac q)∧(∀q,own ae q→w.heap.size≤q)∧(∀q,own am q→w.heap.size≤q)∧(∀q,own ac q→w.heap.size≤q)∧Aq w w')):=by
 refine Ae (n:=128) func7 rfl rfl rfl ?_;refine jG ?_;refine jR<|jB ?_;intro ak cP bD a1 bT;have:w.heap.size≤ak:=bD;clear bD;have K0:=(bT:Aq w _);refine jR<|jB ?_;intro ag cQ bs a2 bE;have cR:=Ai a1.lt bs;have:=Nat.le_trans K0.size bs;clear bs;refine jR<|jA ?_;intro ah cS b4 a0 bt;replace a1:=a1.ext bE;have cT:=Ai a1.lt b4;have cU:=Ai a2.lt b4;replace K0:=K0.ext bE;have:=Nat.le_trans K0.size b4;clear b4;replace a1:=a1.ext bt;refine jG ?_;replace K0:=K0.ext bt;refine jR<|jC (Um am ms cm ac cl cc ae es ce _ hcap (hs.ext K0) (ht.ext K0) (hse.ext K0) Zo Zo Zo hb) ?_;rintro _ cV ⟨rfl,b5⟩;refine jG ?_;replace a2:=(a2.ext bt).ext b5;replace a1:=a1.ext b5;replace a0:=a0.ext b5;replace K0:=K0.ext b5;refine jF ?_ ?_
 ·intro hc24
  refine jG ?_;refine jV (AC (cells:=#[.slice none 0 0,.slice none 0 0,.slice none 0 0]) Zk) ?_;refine jG ?_;refine jR<|jS a0 ?_;intro cW a0 bu;refine jG ?_;refine Aj.retCT (x:= .int .i64 (Bj ms cl es)) (cs:=#[.slice none 0 0,.slice none 0 0,.slice none 0 0]) func7 rfl ty33 rfl rfl a0.cl rfl ?_;rw[Hh hc24];replace a1:=a1.kp bu;replace a2:=a2.kp bu;replace K0:=K0.n1 bu;exact⟨_,rfl,none,0,none,0,none,0,rfl,Af.nil _ _,Af.nil _ _,Af.nil _ _,fun _ h_=>absurd h_ (Ac _),fun _ h_=>absurd h_ (Ac _),fun _ h_=>absurd h_ (Ac _),fun _ h_=>absurd h_ (Ac _),fun _ h_=>absurd h_ (Ac _),fun _ h_=>absurd h_ (Ac _),K0⟩
 ·intro hc24
  refine jG ?_;refine jR<|jC (Um am2 ms2 cm2 ac2 cl2 cc2 ae2 es2 ce2 _ hcap2 (hs2.ext K0) (ht2.ext K0) (hse2.ext K0) Zo Zo Zo hb2) ?_;rintro _ cX ⟨rfl,b6⟩;refine jG ?_;replace a1:=a1.ext b6;replace a2:=a2.ext b6;replace a0:=a0.ext b6;replace K0:=K0.ext b6;refine jF ?_ ?_
  ·intro hc30
   refine jG ?_;refine jV (AC (cells:=#[.slice none 0 0,.slice none 0 0,.slice none 0 0]) Zk) ?_;refine jG ?_;refine jR<|jS a0 ?_;intro cY a0 bv;refine jG ?_;refine Aj.retCT (x:= .int .i64 (Bj ms2 cl2 es2)) (cs:=#[.slice none 0 0,.slice none 0 0,.slice none 0 0]) func7 rfl ty33 rfl rfl a0.cl rfl ?_;rw[Fw hc24 hc30];replace a1:=a1.kp bv;replace a2:=a2.kp bv;replace K0:=K0.n1 bv;exact⟨_,rfl,none,0,none,0,none,0,rfl,Af.nil _ _,Af.nil _ _,Af.nil _ _,fun _ h_=>absurd h_ (Ac _),fun _ h_=>absurd h_ (Ac _),fun _ h_=>absurd h_ (Ac _),fun _ h_=>absurd h_ (Ac _),fun _ h_=>absurd h_ (Ac _),fun _ h_=>absurd h_ (Ac _),K0⟩
  ·intro hc30
   have hcA:=Co hc24;have hcB:=Co hc30;have hln1:=hcA.len;have hln2:=hcB.len;have hmn1:=hcA.ctx.1;have hmn2:=hcA.ctx.2.1;have hmn3:=hcB.ctx.1;have hmn4:=hcB.ctx.2.1;refine jG ?_;refine jR<|jC (TG am ms cm ac cl cc am2 ms2 cm2 ac2 cl2 cc2 _ (hs.ext K0) (ht.ext K0) (hs2.ext K0) (ht2.ext K0) Zo Zo Zo Zo) ?_;rintro _ cZ ⟨a8,aa,a9,ab,rfl,a3,a4,bU,bw,bx,b7⟩;have b8:=Ap bw a0.lt;have bV:=A1 K0.size bw;have b9:=Ap bx a0.lt;have bW:=A1 K0.size bx;clear bw bx;refine jG ?_;refine jR<|jA ?_;intro aR d0 aX a6 b0;replace a1:=a1.ext b7;have d1:=Ai a1.lt aX;replace a2:=a2.ext b7;have d2:=Ai a2.lt aX;replace a0:=a0.ext b7;have d3:=Ai a0.lt aX;have bX:=Al a3.own_lt aX;have bY:=Al a4.own_lt aX;replace K0:=K0.ext b7;have:=Nat.le_trans K0.size aX;clear aX;refine jR<|jS a6 ?_;intro d4 a6 b1;refine jG ?_;replace a1:=(a1.ext b0).kp b1;replace a2:=(a2.ext b0).kp b1;replace a0:=(a0.ext b0).kp b1;replace a3:=(a3.ext b0).keepO b1 (Ab bX);replace a4:=(a4.ext b0).keepO b1 (Ab bY);replace K0:=(K0.ext b0).n1 b1;refine jF ?_ ?_
   ·intro hc42
    refine jG ?_;refine jV (AC (cells:=#[.slice none 0 0,.slice none 0 0,.slice none 0 0]) Zk) ?_;refine jG ?_;refine jR<|jS a0 ?_;intro d5 a0 b2;refine jG ?_;refine Aj.retCT (x:= .int .i64 ((Ar ms cl ms2 cl2).1)) (cs:=#[.slice none 0 0,.slice none 0 0,.slice none 0 0]) func7 rfl ty33 rfl rfl a0.cl rfl ?_;rw[Hi hc24 hc30 hc42];replace a1:=a1.kp b2;replace a2:=a2.kp b2;replace a3:=a3.keepO b2 (Ab b8);replace a4:=a4.keepO b2 (Ab b9);replace a6:=a6.kp b2;replace K0:=K0.n1 b2;exact⟨_,rfl,none,0,none,0,none,0,rfl,Af.nil _ _,Af.nil _ _,Af.nil _ _,fun _ h_=>absurd h_ (Ac _),fun _ h_=>absurd h_ (Ac _),fun _ h_=>absurd h_ (Ac _),fun _ h_=>absurd h_ (Ac _),fun _ h_=>absurd h_ (Ac _),fun _ h_=>absurd h_ (Ac _),K0⟩
   ·intro hc42
    refine jG ?_;refine jV (AC (cells:=#[.slice none 0 0,.slice a8 ((Ar ms cl ms2 cl2).2.1.length) aa,.slice a9 ((Ar ms cl ms2 cl2).2.2.length) ab]) Zk) ?_;refine jR<|jA ?_;intro ai d6 aS a5 aY;have d7:=Ai a1.lt aS;have d8:=Ai a2.lt aS;have d9:=Ai a0.lt aS;have da:=Ai a6.lt aS;have bz:=Al a3.own_lt aS;have bA:=Al a4.own_lt aS;have:=Nat.le_trans K0.size aS;clear aS;refine jR<|jS a5 ?_;intro bZ a5 aZ;replace a1:=(a1.ext aY).kp aZ;refine jG ?_;replace a2:=(a2.ext aY).kp aZ;replace a0:=(a0.ext aY).kp aZ;replace a3:=(a3.ext aY).keepO aZ (Ab bz);replace a4:=(a4.ext aY).keepO aZ (Ab bA);replace a6:=(a6.ext aY).kp aZ;replace K0:=(K0.ext aY).n1 aZ;refine Aj.loop (ι:=Nat) (fun i ρ' w'=>∃a':Option Addr,∃c':Nat,Holds ρ' [(2,jp ak),(3,jp ag),(4,jp ah),(10,jp ai),(48,.slice ae es.length ce),(49,.int .i64 ((es.length:Nat):Int)),(50,.int .i64 ((i:Nat):Int))]∧Aq w w'∧(AA w' ak [.slice ae es.length ce,.slice am ms.length cm,.slice ac cl.length cc] 33)∧(AA w' ag [.slice ae2 es2.length ce2,.slice am2 ms2.length cm2,.slice ac2 cl2.length cc2] 33)∧(AA w' ah [.slice none 0 0,.slice none 0 0,.slice none 0 0] 33)∧(AA w' aR [.slice a8 ((Ar ms cl ms2 cl2).2.1.length) aa,.slice a9 ((Ar ms cl ms2 cl2).2.2.length) ab] 31)∧(AA w' ai [.slice a' ((kA (es.take i) ms2 cl2 es2).length) c',.slice a8 ((Ar ms cl ms2 cl2).2.1.length) aa,.slice a9 ((Ar ms cl ms2 cl2).2.2.length) ab] 33)∧(Af w' 46 a8 aa ((Ar ms cl ms2 cl2).2.1))∧(Af w' 73 a9 ab ((Ar ms cl ms2 cl2).2.2))∧(Af w' 76 a' c' (kA (es.take i) ms2 cl2 es2))∧(¬own a' ak)∧(¬own a' ag)∧(¬own a' ah)∧(¬own a' aR)∧(¬own a' ai)∧(∀q_,own a' q_→¬own a8 q_)∧(∀q_,own a' q_→¬own a9 q_)∧(∀q_,own a' q_→w.heap.size≤q_)∧(i≤es.length)) (fun i=>es.length-i) 0 ?_ ?_
    ·rw[O2]
     have c0:=Af.nil (α:=Ag) bZ 76;refine⟨_,_,⟨rfl,rfl,rfl,rfl,rfl,rfl,rfl,trivial⟩,K0,a1,a2,a0,a6,a5,a3,a4,c0,(Ac ak),(Ac ag),(Ac ah),(Ac aR),(Ac ai),(fun q_ h1 _=>Ac q_ h1),(fun q_ h1 _=>Ac q_ h1),(fun q_ h1=>absurd h1 (Ac q_)),?_⟩
     ·omega
    clear a1 a2 a0 a3 a4 a6 a5;clear K0;rintro i db dc ⟨a',c',bF,K0,a1,a2,a0,a6,a5,a3,a4,ar,ba,bb,bc,be,bg,bh,bi,bj,hi⟩ ih1;obtain⟨ρ₀,rfl⟩:=bF.ex;clear bF;refine jG ?_;refine jF ?_ ?_
    ·intro hc51
     refine Ds ?_;obtain⟨dd,de,x,hx,c1,bk⟩:=hse.eo i;have hc_89_lt:=bk.lt;refine jV (AI underlying27 ty76 rfl rfl c1 Zl) ?_;replace bk:=bk.ext K0;refine jG ?_;refine jR<|jA ?_;intro df dg al b3 aC;have dh:=Ai a1.lt al;have di:=Ai a2.lt al;have dj:=Ai a0.lt al;have dk:=Ai a6.lt al;have dl:=Ai a5.lt al;have dm:=Ai bk.lt al;have c2:=Al a3.own_lt al;have c3:=Al a4.own_lt al;have c4:=Al ar.own_lt al;have:=Nat.le_trans K0.size al;clear al;refine jR<|jS b3 ?_;intro dn b3 aD;replace a2:=(a2.ext aC).kp aD;refine jG ?_;replace K0:=(K0.ext aC).n1 aD;refine jR<|jC (Wb am2 ms2 cm2 ac2 cl2 cc2 ae2 es2 ce2 x _ (hs2.ext K0) (ht2.ext K0) (hse2.ext K0) Zo Zo Zo) ?_;rintro _ dp ⟨rfl,au⟩;replace a2:=a2.ext au;replace b3:=b3.ext au;refine jG ?_;replace K0:=K0.ext au;refine RL.gcall (vals:=[.agg #[.slice am2 ms2.length cm2,.slice ac2 cl2.length cc2],.agg #[.int .i64 (((x).dot).node),.int .i64 (((x).dot).life),.int .i64 (((x).dot).count)]]) (Bl rfl rfl rfl rfl) en29.h (fun hg=>(BM (Bf hg) (BM (Bf hg) EJ))) (fun hg=>(Sh am2 ms2 cm2 ac2 cl2 cc2 ((x).dot) _ (hs2.ext K0) (ht2.ext K0) Zo Zo hcB.ctx)) ?_;intro dq av;refine jG ?_;refine jV (CI rfl rfl rfl) ?_;refine jG ?_;replace a1:=(((a1.ext aC).kp aD).ext au).ext av;replace a0:=(((a0.ext aC).kp aD).ext au).ext av;replace a6:=(((a6.ext aC).kp aD).ext au).ext av;replace a5:=(((a5.ext aC).kp aD).ext au).ext av;replace a3:=(((a3.ext aC).keepO aD (Ab c2)).ext au).ext av;replace a4:=(((a4.ext aC).keepO aD (Ab c3)).ext au).ext av;replace ar:=(((ar.ext aC).keepO aD (Ab c4)).ext au).ext av;replace a2:=a2.ext av;replace b3:=b3.ext av;replace K0:=K0.ext av;refine jF ?_ ?_
     ·intro hc64
      have hkl:=O4 (es:=es) (ms2:=ms2) (cl2:=cl2) (es2:=es2) (i:=i);refine jG ?_;refine jR<|Av.buildSlice ([x]:List Ag) underlying27 ty76 rfl rfl Ze ?_;intro dr ds c5 c6 aE;clear c5;replace ar:=ar.ext aE;refine jR<|Av.append (xs:=kA (es.take i) ms2 cl2 es2) (ys:=([x]:List Ag)) underlying27 ty76 rfl rfl rfl ar c6.sl Zr Zd ?_;intro aT dt du bB aU aF c7;replace a1:=a1.ext aE;have c8:¬own aT ak:=aF.not ba a1.lt;replace a2:=a2.ext aE;have c9:¬own aT ag:=aF.not bb a2.lt;replace a0:=a0.ext aE;have ca:¬own aT ah:=aF.not bc a0.lt;replace a6:=a6.ext aE;have cb:¬own aT aR:=aF.not be a6.lt;replace a5:=a5.ext aE;have bG:¬own aT ai:=aF.not bg a5.lt;replace a3:=a3.ext aE;have cd:∀q_,own aT q_→¬own a8 q_:=aF.apart bh a3.own_lt;replace a4:=a4.ext aE;have cf:∀q_,own aT q_→¬own a9 q_:=aF.apart bi a4.own_lt;replace K0:=K0.ext aE;have cg:∀q_,own aT q_→w.heap.size≤q_:=aF.ge bj K0.size;clear aF;clear c7;refine jG ?_;replace a5:=a5.keep aU bg;refine jR<|jS a5 ?_;intro dv a5 aV;refine jG ?_;refine jV (At (c:=((i+1:Nat):Int)) (An rfl rfl Zo Zo) rfl) ?_;refine jG ?_;have e:=Iw (ms2:=ms2) (cl2:=cl2) (es2:=es2) hx;rw[if_pos hc64]at e;refine ih1 (i+1) _ _ ?_ Zo;rw[e];replace a1:=(a1.keep aU ba).kp aV;replace a2:=(a2.keep aU bb).kp aV;replace a0:=(a0.keep aU bc).kp aV;replace a6:=(a6.keep aU be).kp aV;replace a3:=(a3.keepO aU (Zf bh)).keepO aV (Ab bz);replace a4:=(a4.keepO aU (Zf bi)).keepO aV (Ab bA);replace K0:=(K0.new aU bj).n1 aV;replace bB:=bB.keepO aV (Ab bG);refine⟨_,_,⟨rfl,rfl,rfl,rfl,rfl,rfl,rfl,trivial⟩,K0,a1,a2,a0,a6,a5,a3,a4,bB,c8,c9,ca,cb,bG,cd,cf,cg,?_⟩
      ·omega
     ·intro hc64
      refine jG ?_;refine jV (At (c:=((i+1:Nat):Int)) (An rfl rfl Zo Zo) rfl) ?_;refine jG ?_;have e:=Iw (ms2:=ms2) (cl2:=cl2) (es2:=es2) hx;rw[if_neg (fun h_=>h_.elim (fun h2=>hc64.1 h2) (fun h2=>h2 hc64.2)),List.append_nil]at e;refine ih1 (i+1) _ _ ?_ Zo;rw[e];refine⟨_,_,⟨rfl,rfl,rfl,rfl,rfl,rfl,rfl,trivial⟩,K0,a1,a2,a0,a6,a5,a3,a4,ar,ba,bb,bc,be,bg,bh,bi,bj,?_⟩
      ·omega
    ·intro hc51
     have ch:kA (es.take i) ms2 cl2 es2=kA es ms2 cl2 es2:=by rw[List.take_of_length_le Zo]
     rw[ch]at ar a5;refine jG ?_;refine Aj.loop (ι:=Nat) (fun i ρ' w'=>∃a':Option Addr,∃c':Nat,Holds ρ' [(2,jp ak),(3,jp ag),(4,jp ah),(10,jp ai),(73,.slice ae2 es2.length ce2),(74,.int .i64 ((es2.length:Nat):Int)),(75,.int .i64 ((i:Nat):Int))]∧Aq w w'∧(AA w' ak [.slice ae es.length ce,.slice am ms.length cm,.slice ac cl.length cc] 33)∧(AA w' ag [.slice ae2 es2.length ce2,.slice am2 ms2.length cm2,.slice ac2 cl2.length cc2] 33)∧(AA w' ah [.slice none 0 0,.slice none 0 0,.slice none 0 0] 33)∧(AA w' aR [.slice a8 ((Ar ms cl ms2 cl2).2.1.length) aa,.slice a9 ((Ar ms cl ms2 cl2).2.2.length) ab] 31)∧(AA w' ai [.slice a' (((kB ms cl (es2.take i)).foldl EB (kA es ms2 cl2 es2)).length) c',.slice a8 ((Ar ms cl ms2 cl2).2.1.length) aa,.slice a9 ((Ar ms cl ms2 cl2).2.2.length) ab] 33)∧(Af w' 46 a8 aa ((Ar ms cl ms2 cl2).2.1))∧(Af w' 73 a9 ab ((Ar ms cl ms2 cl2).2.2))∧(Af w' 76 a' c' ((kB ms cl (es2.take i)).foldl EB (kA es ms2 cl2 es2)))∧(¬own a' ak)∧(¬own a' ag)∧(¬own a' ah)∧(¬own a' aR)∧(¬own a' ai)∧(∀q_,own a' q_→¬own a8 q_)∧(∀q_,own a' q_→¬own a9 q_)∧(∀q_,own a' q_→w.heap.size≤q_)∧(i≤es2.length)) (fun i=>es2.length-i) 0 ?_ ?_
     ·rw[O3,List.foldl_nil]
      refine⟨_,_,⟨rfl,rfl,rfl,rfl,rfl,rfl,rfl,trivial⟩,K0,a1,a2,a0,a6,a5,a3,a4,ar,ba,bb,bc,be,bg,bh,bi,bj,?_⟩
      ·omega
     clear a1 a2 a0 a6 a5 a3 a4 ar;clear K0;rintro i dw dx ⟨a',c',bH,K0,a1,a2,a0,a6,a5,a3,a4,a7,ci,cj,bl,ck,bI,bJ,bK,bL,hi⟩ ih2;obtain⟨ρ₀,rfl⟩:=bH.ex;clear bH;refine jG ?_;refine jF ?_ ?_
     ·intro hc76
      refine Ds ?_;obtain⟨dy,dz,y,hy,cn,bm⟩:=hse2.eo i;have hc_162_lt:=bm.lt;refine jV (AI underlying27 ty76 rfl rfl cn Zl) ?_;replace bm:=bm.ext K0;refine jG ?_;refine jR<|jA ?_;intro dA dB an bn aG;have dC:=Ai a1.lt an;have dD:=Ai a2.lt an;have dE:=Ai a0.lt an;have dF:=Ai a6.lt an;have dG:=Ai a5.lt an;have dH:=Ai bm.lt an;have co:=Al a3.own_lt an;have cp:=Al a4.own_lt an;have cq:=Al a7.own_lt an;have:=Nat.le_trans K0.size an;clear an;refine jR<|jS bn ?_;intro dI bn aH;replace a1:=(a1.ext aG).kp aH;refine jG ?_;replace K0:=(K0.ext aG).n1 aH;refine jR<|jC (Sh am ms cm ac cl cc ((y).dot) _ (hs.ext K0) (ht.ext K0) Zo Zo hcA.ctx) ?_;rintro _ dJ ⟨rfl,aw⟩;refine jG ?_;replace a2:=((a2.ext aG).kp aH).ext aw;replace a0:=((a0.ext aG).kp aH).ext aw;replace a6:=((a6.ext aG).kp aH).ext aw;replace a5:=((a5.ext aG).kp aH).ext aw;replace a3:=((a3.ext aG).keepO aH (Ab co)).ext aw;replace a4:=((a4.ext aG).keepO aH (Ab cp)).ext aw;replace a7:=((a7.ext aG).keepO aH (Ab cq)).ext aw;replace a1:=a1.ext aw;replace bn:=bn.ext aw;replace K0:=K0.ext aw;refine jF ?_ ?_
      ·intro hc84
       have hkl:=kA_len (es:=es) (ms2:=ms2) (cl2:=cl2) (es2:=es2);have hkl2:=O5 (ms:=ms) (cl:=cl) (es2:=es2) (i:=i);have hkl3:=P7 (kB ms cl (es2.take i)) (kA es ms2 cl2 es2);refine jG ?_;refine jR<|jC (Vi _ ((kB ms cl (es2.take i)).foldl EB (kA es ms2 cl2 es2)) _ y _ a7.sl Zo) ?_;rintro _ dK ⟨dL,dM,rfl,bC,aI,aJ⟩;have cr:=Ap aI a1.lt;have ct:=Ap aI a2.lt;have cu:=Ap aI a0.lt;have cv:=Ap aI a6.lt;have bM:=Ap aI a5.lt;have cw:=Ao aI a3.own_lt;have cx:=Ao aI a4.own_lt;have cy:=A1 K0.size aI;clear aI;refine jG ?_;replace a5:=a5.ext aJ;refine jR<|jS a5 ?_;intro dN a5 aK;refine jG ?_;refine jV (At (c:=((i+1:Nat):Int)) (An rfl rfl Zo Zo) rfl) ?_;refine jG ?_;have e:=Iv (ms:=ms) (cl:=cl) hy;rw[if_neg hc84]at e;refine ih2 (i+1) _ _ ?_ Zo;rw[e,List.foldl_append];replace a1:=(a1.ext aJ).kp aK;replace a2:=(a2.ext aJ).kp aK;replace a0:=(a0.ext aJ).kp aK;replace a6:=(a6.ext aJ).kp aK;replace a3:=(a3.ext aJ).keepO aK (Ab bz);replace a4:=(a4.ext aJ).keepO aK (Ab bA);replace a7:=(a7.ext aJ).keepO aK (Ab bI);replace K0:=(K0.ext aJ).n1 aK;replace bC:=bC.keepO aK (Ab bM);refine⟨_,_,⟨rfl,rfl,rfl,rfl,rfl,rfl,rfl,trivial⟩,K0,a1,a2,a0,a6,a5,a3,a4,bC,cr,ct,cu,cv,bM,cw,cx,cy,?_⟩
       ·omega
      ·intro hc84
       refine jG ?_;refine jV (At (c:=((i+1:Nat):Int)) (An rfl rfl Zo Zo) rfl) ?_;refine jG ?_;have e:=Iv (ms:=ms) (cl:=cl) hy;rw[if_pos hc84,List.append_nil]at e;refine ih2 (i+1) _ _ ?_ Zo;rw[e];refine⟨_,_,⟨rfl,rfl,rfl,rfl,rfl,rfl,rfl,trivial⟩,K0,a1,a2,a0,a6,a5,a3,a4,a7,ci,cj,bl,ck,bI,bJ,bK,bL,?_⟩
       ·omega
     ·intro hc76
      refine Ds ?_;by_cases hF:64<(AR ms cl es ms2 cl2 es2).length∨32<itemsN (AR ms cl es ms2 cl2 es2)
      ·have hje:=Fd (ms:=ms) (cl:=cl) (ms2:=ms2) (cl2:=cl2)
       have hkp:=kept_len (ms:=ms) (cl:=cl) (es:=es) (ms2:=ms2) (cl2:=cl2) (es2:=es2);have cz:(kB ms cl (es2.take i)).foldl EB (kA es ms2 cl2 es2)=(AR ms cl es ms2 cl2 es2):=by rw[List.take_of_length_le Zo];exact MI hcA hcB
       rw[cz]at a7 a5;refine jG ?_;refine jR<|jC (Sf a8 ((Ar ms cl ms2 cl2).2.1) aa a9 ((Ar ms cl ms2 cl2).2.2) ab a' (AR ms cl es ms2 cl2 es2) c' _ a3.sl a4.sl a7.sl Zo Zo Zo hF) ?_;rintro _ dO ⟨rfl,aL⟩;refine jG ?_;refine jR<|jA ?_;intro dP dQ ax bN aM;replace a1:=a1.ext aL;have dR:=Ai a1.lt ax;replace a2:=a2.ext aL;have dS:=Ai a2.lt ax;replace a0:=a0.ext aL;have dT:=Ai a0.lt ax;replace a6:=a6.ext aL;have dU:=Ai a6.lt ax;replace a5:=a5.ext aL;have dV:=Ai a5.lt ax;replace a3:=a3.ext aL;have cA:=Al a3.own_lt ax;replace a4:=a4.ext aL;have cB:=Al a4.own_lt ax;replace a7:=a7.ext aL;have cC:=Al a7.own_lt ax;replace K0:=K0.ext aL;have:=Nat.le_trans K0.size ax;clear ax;refine jR<|jS bN ?_;intro dW bN aN;refine jG ?_;refine Ed ?_;refine jG ?_;refine jV (AC (cells:=#[.slice none 0 0,.slice none 0 0,.slice none 0 0]) Zk) ?_;refine jG ?_;replace a0:=(a0.ext aM).kp aN;refine jR<|jS a0 ?_;intro dX a0 aW;refine jG ?_;refine Aj.retCT (x:= .int .i64 51) (cs:=#[.slice none 0 0,.slice none 0 0,.slice none 0 0]) func7 rfl ty33 rfl rfl a0.cl rfl ?_;rw[Gg hc24 hc30 hc42 hF];replace a1:=((a1.ext aM).kp aN).kp aW;replace a2:=((a2.ext aM).kp aN).kp aW;replace a6:=((a6.ext aM).kp aN).kp aW;replace a5:=((a5.ext aM).kp aN).kp aW;replace a3:=((a3.ext aM).keepO aN (Ab cA)).keepO aW (Ab b8);replace a4:=((a4.ext aM).keepO aN (Ab cB)).keepO aW (Ab b9);replace a7:=((a7.ext aM).keepO aN (Ab cC)).keepO aW (Ab bl);replace K0:=((K0.ext aM).n1 aN).n1 aW;exact⟨_,rfl,none,0,none,0,none,0,rfl,Af.nil _ _,Af.nil _ _,Af.nil _ _,fun _ h_=>absurd h_ (Ac _),fun _ h_=>absurd h_ (Ac _),fun _ h_=>absurd h_ (Ac _),fun _ h_=>absurd h_ (Ac _),fun _ h_=>absurd h_ (Ac _),fun _ h_=>absurd h_ (Ac _),K0⟩
      ·have hje:=Fd (ms:=ms) (cl:=cl) (ms2:=ms2) (cl2:=cl2)
       have hkp:=kept_len (ms:=ms) (cl:=cl) (es:=es) (ms2:=ms2) (cl2:=cl2) (es2:=es2);have cD:(kB ms cl (es2.take i)).foldl EB (kA es ms2 cl2 es2)=(AR ms cl es ms2 cl2 es2):=by rw[List.take_of_length_le Zo];exact MI hcA hcB
       rw[cD]at a7 a5;refine jG ?_;refine jR<|jC (Sg a8 ((Ar ms cl ms2 cl2).2.1) aa a9 ((Ar ms cl ms2 cl2).2.2) ab a' (AR ms cl es ms2 cl2 es2) c' _ a3.sl a4.sl a7.sl Zo Zo Zo hF) ?_;rintro _ dY ⟨rfl,aO⟩;refine jG ?_;refine jR<|jA ?_;intro bO dZ ay ad aP;replace a1:=a1.ext aO;have e0:=Ai a1.lt ay;replace a2:=a2.ext aO;have e1:=Ai a2.lt ay;replace a0:=a0.ext aO;have e2:=Ai a0.lt ay;replace a6:=a6.ext aO;have e3:=Ai a6.lt ay;replace a5:=a5.ext aO;have e4:=Ai a5.lt ay;replace a3:=a3.ext aO;have cE:=Al a3.own_lt ay;replace a4:=a4.ext aO;have cF:=Al a4.own_lt ay;replace a7:=a7.ext aO;have cG:=Al a7.own_lt ay;replace K0:=K0.ext aO;have:=Nat.le_trans K0.size ay;clear ay;refine jR<|jS ad ?_;intro e5 ad aQ;refine jG ?_;refine Aj.condF rfl ?_;replace a1:=(a1.ext aP).kp aQ;refine jG ?_;replace a2:=(a2.ext aP).kp aQ;replace a0:=(a0.ext aP).kp aQ;replace a6:=(a6.ext aP).kp aQ;replace a5:=(a5.ext aP).kp aQ;replace a3:=(a3.ext aP).keepO aQ (Ab cE);replace a4:=(a4.ext aP).keepO aQ (Ab cF);replace a7:=(a7.ext aP).keepO aQ (Ab cG);replace K0:=(K0.ext aP).n1 aQ;refine Aj.loop (ι:=Nat) (fun i ρ' w'=>Holds ρ' [(3,jp ag),(4,jp ah),(10,jp ai),(101,.slice ae es.length ce),(102,.int .i64 ((es.length:Nat):Int)),(103,.int .i64 ((i:Nat):Int))]∧Aq w w'∧(AA w' ak [.slice ae es.length ce,.slice am ms.length cm,.slice ac cl.length cc] 33)∧(AA w' ag [.slice ae2 es2.length ce2,.slice am2 ms2.length cm2,.slice ac2 cl2.length cc2] 33)∧(AA w' ah [.slice none 0 0,.slice none 0 0,.slice none 0 0] 33)∧(AA w' aR [.slice a8 ((Ar ms cl ms2 cl2).2.1.length) aa,.slice a9 ((Ar ms cl ms2 cl2).2.2.length) ab] 31)∧(AA w' ai [.slice a' ((AR ms cl es ms2 cl2 es2).length) c',.slice a8 ((Ar ms cl ms2 cl2).2.1.length) aa,.slice a9 ((Ar ms cl ms2 cl2).2.2.length) ab] 33)∧(AA w' bO [.slice a' ((AR ms cl es ms2 cl2 es2).length) c',.slice a8 ((Ar ms cl ms2 cl2).2.1.length) aa,.slice a9 ((Ar ms cl ms2 cl2).2.2.length) ab] 33)∧(Af w' 46 a8 aa ((Ar ms cl ms2 cl2).2.1))∧(Af w' 73 a9 ab ((Ar ms cl ms2 cl2).2.2))∧(Af w' 76 a' c' (AR ms cl es ms2 cl2 es2))∧(i≤es.length)∧(∀j,j<i→∀x,es[j]? =some x→∀y∈es2,¬(x.dot=y.dot∧x≠y))) (fun i=>es.length-i) 0 ?_ ?_
       ·refine⟨⟨rfl,rfl,rfl,rfl,rfl,rfl,trivial⟩,K0,a1,a2,a0,a6,a5,ad,a3,a4,a7,?_,?_⟩
        ·omega
        ·exact fun j hj=>absurd hj (Nat.not_lt_zero j)
       clear a1 a2 a0 a6 a5 a3 a4 a7 ad;clear K0;rintro i e6 e7 ⟨bP,K0,a1,a2,a0,a6,a5,ad,a3,a4,a7,hi,hcl⟩ ih3;obtain⟨ρ₀,rfl⟩:=bP.ex;clear bP;refine jG ?_;refine jF ?_ ?_
       ·intro hc104
        refine Ds ?_;obtain⟨e8,e9,x,hx,cH,bo⟩:=hse.eo i;have hc_245_lt:=bo.lt;refine jV (AI underlying27 ty76 rfl rfl cH Zl) ?_;replace bo:=bo.ext K0;refine jG ?_;refine jR<|jA ?_;intro bQ ea aj ao az;have eb:=Ai a1.lt aj;have ec:=Ai a2.lt aj;have ed:=Ai a0.lt aj;have ee:=Ai a6.lt aj;have ef:=Ai a5.lt aj;have eg:=Ai ad.lt aj;have eh:=Ai bo.lt aj;have cI:=Al a3.own_lt aj;have cJ:=Al a4.own_lt aj;have cK:=Al a7.own_lt aj;have:=Nat.le_trans K0.size aj;clear aj;refine jR<|jS ao ?_;intro ei ao aA;replace a2:=(a2.ext az).kp aA;refine jG ?_;replace a1:=(a1.ext az).kp aA;replace a0:=(a0.ext az).kp aA;replace a6:=(a6.ext az).kp aA;replace a5:=(a5.ext az).kp aA;replace ad:=(ad.ext az).kp aA;replace a3:=(a3.ext az).keepO aA (Ab cI);replace a4:=(a4.ext az).keepO aA (Ab cJ);replace a7:=(a7.ext az).keepO aA (Ab cK);replace K0:=(K0.ext az).n1 aA;refine Aj.loop (ι:=Nat) (fun q ρ' w'=>Holds ρ' [(3,jp ag),(4,jp ah),(10,jp ai),(18,jp bQ),(101,.slice ae es.length ce),(102,.int .i64 ((es.length:Nat):Int)),(103,.int .i64 ((i:Nat):Int)),(104,.bool (decide (((i:Nat):Int)<((es.length:Nat):Int)))),(108,.slice ae2 es2.length ce2),(109,.int .i64 ((es2.length:Nat):Int)),(110,.int .i64 ((q:Nat):Int))]∧Aq w w'∧(AA w' ak [.slice ae es.length ce,.slice am ms.length cm,.slice ac cl.length cc] 33)∧(AA w' ag [.slice ae2 es2.length ce2,.slice am2 ms2.length cm2,.slice ac2 cl2.length cc2] 33)∧(AA w' ah [.slice none 0 0,.slice none 0 0,.slice none 0 0] 33)∧(AA w' aR [.slice a8 ((Ar ms cl ms2 cl2).2.1.length) aa,.slice a9 ((Ar ms cl ms2 cl2).2.2.length) ab] 31)∧(AA w' ai [.slice a' ((AR ms cl es ms2 cl2 es2).length) c',.slice a8 ((Ar ms cl ms2 cl2).2.1.length) aa,.slice a9 ((Ar ms cl ms2 cl2).2.2.length) ab] 33)∧(AA w' bO [.slice a' ((AR ms cl es ms2 cl2 es2).length) c',.slice a8 ((Ar ms cl ms2 cl2).2.1.length) aa,.slice a9 ((Ar ms cl ms2 cl2).2.2.length) ab] 33)∧(AA w' bQ [.string ((x).item),.int .i64 (((x).dot).node),.int .i64 (((x).dot).life),.int .i64 (((x).dot).count),.int .i64 ((x).qty),.int .u64 ((x).price)] 76)∧(Af w' 46 a8 aa ((Ar ms cl ms2 cl2).2.1))∧(Af w' 73 a9 ab ((Ar ms cl ms2 cl2).2.2))∧(Af w' 76 a' c' (AR ms cl es ms2 cl2 es2))∧(q≤es2.length)∧(∀j,j<q→∀y,es2[j]? =some y→¬(x.dot=y.dot∧x≠y))) (fun q=>es2.length-q) 0 ?_ ?_
        ·refine⟨⟨rfl,rfl,rfl,rfl,rfl,rfl,rfl,rfl,rfl,rfl,rfl,trivial⟩,K0,a1,a2,a0,a6,a5,ad,ao,a3,a4,a7,?_,?_⟩
         ·omega
         ·exact fun j hj=>absurd hj (Nat.not_lt_zero j)
        clear a1 a2 a0 a6 a5 ad a3 a4 a7 ao;clear K0;rintro q ej ek ⟨bR,K0,a1,a2,a0,a6,a5,ad,ao,a3,a4,a7,hq,hcl2⟩ ih4;obtain⟨ρ₀,rfl⟩:=bR.ex;clear bR;refine jG ?_;refine jF ?_ ?_
        ·intro hc111
         refine Ds ?_;obtain⟨em,en,y,hy,cL,bp⟩:=hse2.eo q;have hc_271_lt:=bp.lt;refine jV (AI underlying27 ty76 rfl rfl cL Zl) ?_;replace bp:=bp.ext K0;refine jG ?_;refine jR<|jA ?_;intro ep er af bS ap;have et:=Ai a1.lt af;have eu:=Ai a2.lt af;have ev:=Ai a0.lt af;have ew:=Ai a6.lt af;have ey:=Ai a5.lt af;have ez:=Ai ad.lt af;have eA:=Ai ao.lt af;have eB:=Ai bp.lt af;have cM:=Al a3.own_lt af;have cN:=Al a4.own_lt af;have cO:=Al a7.own_lt af;have:=Nat.le_trans K0.size af;clear af;refine jR<|jS bS ?_;intro eC bS aq;replace ao:=(ao.ext ap).kp aq;refine jG ?_;refine jV (EC Zk rfl rfl (C9 ((x).dot) ((y).dot))) ?_;refine jG ?_;refine jW ?_ (hx:=by exact fun hg=>(JQ Zk (Bf hg) (Bf hg) (E3 x y)));refine jV (AJ rfl rfl rfl) ?_;refine jG ?_;replace a1:=(a1.ext ap).kp aq;replace a2:=(a2.ext ap).kp aq;replace a0:=(a0.ext ap).kp aq;replace a6:=(a6.ext ap).kp aq;replace a5:=(a5.ext ap).kp aq;replace ad:=(ad.ext ap).kp aq;replace a3:=(a3.ext ap).keepO aq (Ab cM);replace a4:=(a4.ext ap).keepO aq (Ab cN);replace a7:=(a7.ext ap).keepO aq (Ab cO);replace K0:=(K0.ext ap).n1 aq;refine jF ?_ ?_
         ·intro hc123
          refine jG ?_;refine jV (AC (cells:=#[.slice none 0 0,.slice none 0 0,.slice none 0 0]) Zk) ?_;refine jR<|jS a0 ?_;intro eD a0 aB;refine jG ?_;refine Aj.retCT (x:= .int .i64 50) (cs:=#[.slice none 0 0,.slice none 0 0,.slice none 0 0]) func7 rfl ty33 rfl rfl a0.cl rfl ?_;rw[Hj hc24 hc30 hc42 hF (ML hx hy hc123.1 hc123.2)];replace a1:=a1.kp aB;replace a2:=a2.kp aB;replace a6:=a6.kp aB;replace a5:=a5.kp aB;replace ad:=ad.kp aB;replace ao:=ao.kp aB;replace a3:=a3.keepO aB (Ab b8);replace a4:=a4.keepO aB (Ab b9);replace a7:=a7.keepO aB (Ab bl);replace K0:=K0.n1 aB;exact⟨_,rfl,none,0,none,0,none,0,rfl,Af.nil _ _,Af.nil _ _,Af.nil _ _,fun _ h_=>absurd h_ (Ac _),fun _ h_=>absurd h_ (Ac _),fun _ h_=>absurd h_ (Ac _),fun _ h_=>absurd h_ (Ac _),fun _ h_=>absurd h_ (Ac _),fun _ h_=>absurd h_ (Ac _),K0⟩
         ·intro hc123
          refine jG ?_;refine jV (At (c:=((q+1:Nat):Int)) (An rfl rfl Zo Zo) rfl) ?_;refine jG ?_;refine ih4 (q+1) _ _ ?_ Zo;refine⟨⟨rfl,rfl,rfl,rfl,rfl,rfl,rfl,rfl,rfl,rfl,rfl,trivial⟩,K0,a1,a2,a0,a6,a5,ad,ao,a3,a4,a7,?_,?_⟩
          ·omega
          ·exact BA hcl2 (FO hy (fun h_=>hc123.elim (fun h2=>h2 h_.1) (fun h2=>h_.2 h2)))
        ·intro hc111
         refine jG ?_;refine jV (At (c:=((i+1:Nat):Int)) (An rfl rfl Zo Zo) rfl) ?_;refine jG ?_;refine ih3 (i+1) _ _ ?_ Zo;refine⟨⟨rfl,rfl,rfl,rfl,rfl,rfl,trivial⟩,K0,a1,a2,a0,a6,a5,ad,a3,a4,a7,?_,?_⟩
         ·omega
         ·exact BA hcl (FO hx (GF hcl2 Zo))
       ·intro hc104
        refine jG ?_;refine jR<|jS a0 ?_;intro eE a0 bq;refine jG ?_;refine Aj.retCT (x:= .int .i64 0) (cs:=#[.slice a' ((AR ms cl es ms2 cl2 es2).length) c',.slice a8 ((Ar ms cl ms2 cl2).2.1.length) aa,.slice a9 ((Ar ms cl ms2 cl2).2.2.length) ab]) func7 rfl ty33 rfl rfl a0.cl rfl ?_;rw[Eu hc24 hc30 hc42 hF (MK hcl Zo)];replace a3:=a3.keepO bq (Ab b8);replace a4:=a4.keepO bq (Ab b9);replace a7:=a7.keepO bq (Ab bl);replace K0:=K0.n1 bq;exact⟨_,rfl,a',c',a8,aa,a9,ab,rfl,a7,a3,a4,bJ,bK,bU,bL,bV,bW,K0⟩
end Go.Proofs.YtjkaicjmfgekjaaGreatDoor
