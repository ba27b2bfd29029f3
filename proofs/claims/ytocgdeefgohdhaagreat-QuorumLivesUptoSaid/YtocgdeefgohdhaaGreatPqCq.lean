/-
  Cq, Cr
-/
import Derived.Test.YtocgdeefgohdhaaGreatRows
import Derived.Test.YtocgdeefgohdhaaGreatPqCo
import Derived.Test.YtocgdeefgohdhaaGreatPqI
set_option linter.all false
set_option maxRecDepth 100000
set_option maxHeartbeats 4000000
namespace Go.Proofs.YtocgdeefgohdhaaGreat
open Go.Proofs.Tryz
attribute [local irreducible] RD RS AD RL RA RT BH Al
def Lw (a b:Ai):Bool:= !decide (Es b a)
theorem Jm (a b c:Ai)(h1:Lw a b=true)(h2:Lw b c=true):Lw a c=true:=by
 simp only[Lw,Bool.not_eq_true',decide_eq_false_iff_not]at*
 intro h
 by_cases h3:Es a b
 ·exact h2 (Ed _ _ _ h h3)
 ·obtain⟨e1,e2⟩:=HE h3 h1
  refine h2 ?_
  unfold Es at*
  rw[e1,e2]at h;exact h
theorem NR (a b:Ai):(Lw a b||Lw b a)=true:=by
 simp only[Lw,Bool.or_eq_true,Bool.not_eq_true',decide_eq_false_iff_not]
 by_cases h:Es b a
 ·exact .inr fun h2=>HD _ (Ed _ _ _ h h2)
 ·exact .inl h
def GG (l:List Ai):List Ai:=l.mergeSort Lw
theorem Jo {l:List Ai}{x:Ai}:x∈GG l↔x∈l:=List.mem_mergeSort
theorem Jp (l:List Ai):(GG l).length=l.length:=List.length_mergeSort _
def IU (l:List Ai):Prop:=l.Pairwise fun a b=>a.dot≠b.dot
theorem J0 {l:List Ai}(h:IU l):(GG l).Pairwise Es:=by
 have h1:(GG l).Pairwise (fun a b=>Lw a b=true):=List.pairwise_mergeSort Jm NR l
 have h2:IU (GG l):=(List.Perm.pairwise_iff (R:=fun(a b:Ai)=>a.dot≠b.dot) (fun h=>h.symm) (List.mergeSort_perm l Lw)).2 h
 refine(h1.and h2).imp ?_
 intro a b ⟨h3,h4⟩
 simp only[Lw,Bool.not_eq_true',decide_eq_false_iff_not]at h3
 exact Decidable.byContradiction fun h5=>h4 (HE h5 h3).2
def Ez (e:Ai)(s:List Ai×Bool)(x:Ai):List Ai×Bool:=if s.2=false∧Es e x then(s.1++[e]++[x],true)else(s.1++[x],s.2)
def CM (l:List Ai)(e:Ai)(i:Nat):List Ai×Bool:=(l.take i).foldl (Ez e) ([],false)
def Et (l:List Ai)(e:Ai):List Ai:=if (CM l e l.length).2 then(CM l e l.length).1 else(CM l e l.length).1++[e]
def GH (e:Ai):List Ai→List Ai
 |[]=>[e]
 |x::t=>if Es e x then e::x::t else x::GH e t
theorem Pj (e:Ai)(l out:List Ai):l.foldl (Ez e) (out,true)=(out++l,true):=by
 induction l generalizing out with
 |nil=>simp
 |cons x l ih=>rw[List.foldl_cons,Ez,if_neg Zs,ih];simp
theorem NS (e : Ai) (l out : List Ai) : (if (l.foldl (Ez e) (out, false)).2 then (l.foldl (Ez e) (out, false)).1 else (l.foldl (Ez e) (out, false)).1 ++ [e]) = out ++ GH e l := by
  induction l generalizing out with
  | nil => simp [GH]
  | cons x l ih =>
    rw [List.foldl_cons, GH]
    by_cases h : Es e x
    · have q : Ez e (out, false) x = (out ++ [e] ++ [x], true) := by rw [Ez, if_pos ⟨rfl, h⟩]
      rw [q, Pj, if_pos h]; simp
    · have q : Ez e (out, false) x = (out ++ [x], false) := by rw [Ez, if_neg (by simp [h])]
      rw [q, if_neg h, ih]; simp
theorem MZ (l:List Ai)(e:Ai):Et l e=GH e l:=by
 have:=NS e l []
 rw[Et,CM,List.take_length];simpa using this
theorem GI {e x : Ai} : ∀ {l : List Ai}, x ∈ GH e l ↔ x = e ∨ x ∈ l
  | [] => by simp [GH]
  | y :: l => by
    rw [GH]
    split
    · simp
    · rw [List.mem_cons, GI, List.mem_cons]
      constructor
      · rintro (h | h | h) <;> simp [h]
      · rintro (h | h | h) <;> simp [h]
theorem KX (e:Ai):∀l:List Ai,(GH e l).length=l.length+1
 |[]=>rfl
 |y::l=>by rw[GH];split<;>simp[KX e l]
theorem Hq {e : Ai} : ∀ {l : List Ai}, l.Pairwise Es → (∀ x ∈ l, x.dot ≠ e.dot) → (GH e l).Pairwise Es
  | [], _, _ => by simp [GH]
  | y :: l, h, hd => by
    rw [List.pairwise_cons] at h
    rw [GH]
    split
    · rename_i hl
      refine List.pairwise_cons.2 ⟨fun z hz => ?_, List.pairwise_cons.2 h⟩
      rcases List.mem_cons.1 hz with rfl | hz
      · exact hl
      · exact Ed _ _ _ hl (h.1 z hz)
    · rename_i hl
      refine List.pairwise_cons.2 ⟨fun z hz => ?_, Hq h.2 fun x hx => hd x (by simp [hx])⟩
      rcases GI.1 hz with rfl | hz
      · exact Decidable.byContradiction fun h2 => hd y Zs (HE h2 hl).2
      · exact h.1 z hz
theorem Tc {ks l : List Ai} (hl : l.Pairwise Es) (hk : IU ks) (hd : ∀ x ∈ l, ∀ y ∈ ks, x.dot ≠ y.dot) : (ks.foldl Et l).Pairwise Es ∧ ∀ x, x ∈ ks.foldl Et l ↔ x ∈ l ∨ x ∈ ks := by
  induction ks generalizing l with
  | nil => exact ⟨hl, fun x => by simp⟩
  | cons k ks ih =>
    obtain ⟨h1, h2⟩ := List.pairwise_cons.1 hk
    rw [List.foldl_cons, MZ]
    have h := ih (l := GH k l) (Hq hl fun x hx => hd x hx k Zs) h2 (fun x hx y hy => by
      rcases GI.1 hx with rfl | hx
      · exact h1 y hy
      · exact hd x hx y (by simp [hy]))
    refine ⟨h.1, fun x => (h.2 x).trans ?_⟩
    rw [GI, List.mem_cons]
    constructor
    · rintro ((h | h) | h) <;> simp [h]
    · rintro (h | h | h) <;> simp [h]
def kA (es:List Ai)(ms2:List Ac)(cl2:List Ah)(es2:List Ai):List Ai:=es.filter fun x=>decide (x∈es2)|| !decide (CP ms2 cl2 x.dot)
def kB (ms:List Ac)(cl:List Ah)(es2:List Ai):List Ai:=es2.filter fun x=> !decide (CP ms cl x.dot)
def Br (ms:List Ac)(cl:List Ah)(es:List Ai)(ms2:List Ac)(cl2:List Ah)(es2:List Ai):List Ai:=GG (kA es ms2 cl2 es2++kB ms cl es2)
section
variable {ms ms2:List Ac}{cl cl2:List Ah}{es es2:List Ai}{x y:Ai}{i:Nat}
theorem Fr.dotU (h:Fr ms cl es):IU es:=by
 refine(h.sorted).imp_of_mem ?_
 intro a b ha hb hlt e
 exact HD _ (h.dots ha hb e▸hlt)
theorem J1 (hx:x∈kA es ms2 cl2 es2):x∈es:=(List.mem_filter.1 hx).1
theorem kB_mem :x∈kB ms cl es2↔x∈es2∧¬CP ms cl x.dot:=by simp[kB]
theorem TI (h:Fr ms cl es)(hx:x∈kA es ms2 cl2 es2)(hy:y∈kB ms cl es2):x.dot≠y.dot:=fun e=>(kB_mem.1 hy).2 (e▸(h.mem (J1 hx)).2.2.2)
theorem M0 (h:Fr ms cl es)(h2:Fr ms2 cl2 es2):IU (kA es ms2 cl2 es2++kB ms cl es2):=
 List.pairwise_append.2 ⟨h.dotU.filter _,h2.dotU.filter _,fun _ hx _ hy=>TI h hx hy⟩
theorem KY (h:Fr ms cl es)(h2:Fr ms2 cl2 es2):(kB ms cl es2).foldl Et (kA es ms2 cl2 es2)=Br ms cl es ms2 cl2 es2:=by
 have hf:=Tc (h.sorted.filter _) (h2.dotU.filter _) (fun x (hx:x∈kA es ms2 cl2 es2) y (hy:y∈kB ms cl es2)=>TI h hx hy)
 refine E5 HD Ed hf.1 (J0 (M0 h h2)) fun x=> ?_
 rw[Br,Jo,List.mem_append]
 exact hf.2 x
theorem Pk (h:Fr ms cl es)(h2:Fr ms2 cl2 es2)(hx:es2[i]? =some x):
  ((x∈es∨¬CP ms cl x.dot)∧x∉kA es ms2 cl2 es2++kB ms cl (es2.take i))↔¬CP ms cl x.dot:=by
 constructor
 ·rintro⟨h3|h3,h4⟩
  ·exact absurd (List.mem_append_left _ (List.mem_filter.2 ⟨h3,by simp[AT hx]⟩)) h4
  ·exact h3
 ·intro h3
  refine⟨.inr h3,fun h4=> ?_⟩
  rcases List.mem_append.1 h4 with h4|h4
  ·exact h3 (h.mem (J1 h4)).2.2.2
  ·exact(h2.ent i x hx).dots x (kB_mem.1 h4).1 rfl
theorem HG (hx:es2[i]? =some x):kB ms cl (es2.take (i+1))=kB ms cl (es2.take i)++(if CP ms cl x.dot then[]else[x]):=by
 unfold kB
 rw[BG hx,List.filter_append]
 congr 1
 split<;>rename_i h<;>simp[h]
theorem HH (hx:es[i]? =some x):kA (es.take (i+1)) ms2 cl2 es2=kA (es.take i) ms2 cl2 es2++(if x∈es2∨¬CP ms2 cl2 x.dot then[x]else[]):=by
 unfold kA
 rw[BG hx,List.filter_append]
 congr 1
 by_cases h1:x∈es2<;>by_cases h2:CP ms2 cl2 x.dot<;>simp[h1,h2]
theorem kA_len :(kA es ms2 cl2 es2).length≤es.length:=List.length_filter_le _ _
theorem kB_len :(kB ms cl es2).length≤es2.length:=List.length_filter_le _ _
theorem kept_len :(Br ms cl es ms2 cl2 es2).length≤es.length+es2.length:=by
 have h1:=kA_len (es:=es) (ms2:=ms2) (cl2:=cl2) (es2:=es2)
 have h2:=kB_len (ms:=ms) (cl:=cl) (es2:=es2)
 rw[Br,Jp,List.length_append];omega
theorem Pl (hx:x∈Br ms cl es ms2 cl2 es2):x∈es∨x∈es2:=by
 rw[Br,Jo,List.mem_append]at hx
 exact hx.elim (fun h=> .inl (J1 h)) (fun h=> .inr (kB_mem.1 h).1)
def FA (es es2:List Ai):Prop:=∃x∈es,∃y∈es2,x.dot=y.dot∧x≠y
open Classical in
noncomputable def Bz (ms:List Ac)(cl:List Ah)(es:List Ai)(ms2:List Ac)(cl2:List Ah)(es2:List Ai):Int×(List Ac×List Ah)×List Ai:=
 if Bk ms cl es≠0 then(Bk ms cl es,([],[]),[])else if Bk ms2 cl2 es2≠0 then(Bk ms2 cl2 es2,([],[]),[])
 else if (AC ms cl ms2 cl2).1≠0 then((AC ms cl ms2 cl2).1,([],[]),[])
 else if 64<(Br ms cl es ms2 cl2 es2).length∨32<itemsN (Br ms cl es ms2 cl2 es2)then(51,([],[]),[])
 else if FA es es2 then(50,([],[]),[])else(0,(AC ms cl ms2 cl2).2,Br ms cl es ms2 cl2 es2)
theorem HI (h:Bk ms cl es≠0):Bz ms cl es ms2 cl2 es2=(Bk ms cl es,([],[]),[]):=by rw[Bz,if_pos h]
theorem HJ (h:Bk ms cl es=0)(h2:Bk ms2 cl2 es2≠0):Bz ms cl es ms2 cl2 es2=(Bk ms2 cl2 es2,([],[]),[]):=by rw[Bz,if_neg (not_not_intro h),if_pos h2]
theorem HK (h:Bk ms cl es=0)(h2:Bk ms2 cl2 es2=0)(h3:(AC ms cl ms2 cl2).1≠0):Bz ms cl es ms2 cl2 es2=((AC ms cl ms2 cl2).1,([],[]),[]):=by rw[Bz,if_neg (not_not_intro h),if_neg (not_not_intro h2),if_pos h3]
theorem HL (h:Bk ms cl es=0)(h2:Bk ms2 cl2 es2=0)(h3:(AC ms cl ms2 cl2).1=0)(h4:64<(Br ms cl es ms2 cl2 es2).length∨32<itemsN (Br ms cl es ms2 cl2 es2)):Bz ms cl es ms2 cl2 es2=(51,([],[]),[]):=by
 rw[Bz,if_neg (not_not_intro h),if_neg (not_not_intro h2),if_neg (not_not_intro h3),if_pos h4]
theorem HM (h:Bk ms cl es=0)(h2:Bk ms2 cl2 es2=0)(h3:(AC ms cl ms2 cl2).1=0)(h4:¬(64<(Br ms cl es ms2 cl2 es2).length∨32<itemsN (Br ms cl es ms2 cl2 es2)))(h5:FA es es2):Bz ms cl es ms2 cl2 es2=(50,([],[]),[]):=by
 rw[Bz,if_neg (not_not_intro h),if_neg (not_not_intro h2),if_neg (not_not_intro h3),if_neg h4,if_pos h5]
theorem GJ (h:Bk ms cl es=0)(h2:Bk ms2 cl2 es2=0)(h3:(AC ms cl ms2 cl2).1=0)(h4:¬(64<(Br ms cl es ms2 cl2 es2).length∨32<itemsN (Br ms cl es ms2 cl2 es2)))(h5:¬FA es es2):Bz ms cl es ms2 cl2 es2=(0,(AC ms cl ms2 cl2).2,Br ms cl es ms2 cl2 es2):=by
 rw[Bz,if_neg (not_not_intro h),if_neg (not_not_intro h2),if_neg (not_not_intro h3),if_neg h4,if_neg h5]
theorem joinC_len :(Bz ms cl es ms2 cl2 es2).2.2.length≤64:=by
 unfold Bz
 split
 ·simp
 ·split
  ·simp
  ·split
   ·simp
   ·split
    ·simp
    ·split
     ·simp
     ·simp only;omega
theorem LY (hx:x∈(Bz ms cl es ms2 cl2 es2).2.2):x∈es∨x∈es2:=by
 unfold Bz at hx
 split at hx
 ·simp at hx
 ·split at hx
  ·simp at hx
  ·split at hx
   ·simp at hx
   ·split at hx
    ·simp at hx
    ·split at hx
     ·simp at hx
     ·exact Pl hx
end
theorem RY {l:List Ai}{x:Ai}{i:Nat}(hno:Ep (fun y=>decide (y=x)) l i)(hi:l.length≤i):¬x∈l:=fun h=>by
 obtain⟨j,hj,rfl⟩:=List.getElem_of_mem h
 have h:=hno j _ Zo (List.getElem?_eq_getElem hj)
 simp at h
theorem Ir (l:List Ai)(e:Ai):CM l e 0=([],false):=rfl
theorem F9 {l:List Ai}{e x:Ai}{i:Nat}(hx:l[i]? =some x):CM l e (i+1)=Ez e (CM l e i) x:=FL hx
theorem FR (l : List Ai) (e : Ai) (i : Nat) (hi : i ≤ l.length) : (CM l e i).1.length ≤ 2 * i := by
  induction i with
  | zero => rw [Ir]; simp
  | succ i ih =>
    have := ih Zo
    rw [F9 (List.getElem?_eq_getElem (show i < l.length by omega)), Ez]
    split <;> simp <;> omega
theorem Pm {l:List Ai}{e:Ai}{i:Nat}(hi:i≤l.length)(h:l.length≤i)(hp:(CM l e i).2=true):Et l e=(CM l e i).1:=by
 have q:i=l.length:=by omega
 subst q;rw[Et,if_pos hp]
theorem QH {l:List Ai}{e:Ai}{i:Nat}(hi:i≤l.length)(h:l.length≤i)(hp:(CM l e i).2=false):Et l e=(CM l e i).1++[e]:=by
 have q:i=l.length:=by omega
 subst q;rw[Et,if_neg (by rw[hp];simp)]
theorem Pn (l:List Ai)(e:Ai):(Et l e).length=l.length+1:=by rw[MZ,KX]
theorem M1 (es:List Ai)(ms2:List Ac)(cl2:List Ah)(es2:List Ai):kA (es.take 0) ms2 cl2 es2=[]:=rfl
theorem M2 (ms:List Ac)(cl:List Ah)(es2:List Ai):kB ms cl (es2.take 0)=[]:=rfl
theorem M3 {es es2:List Ai}{ms2:List Ac}{cl2:List Ah}{i:Nat}:(kA (es.take i) ms2 cl2 es2).length≤i:=Nat.le_trans kA_len Zt
theorem M4 {es2:List Ai}{ms:List Ac}{cl:List Ah}{i:Nat}:(kB ms cl (es2.take i)).length≤i:=Nat.le_trans kB_len Zt
theorem NT (ks:List Ai):∀l:List Ai,(ks.foldl Et l).length=l.length+ks.length:=by
 induction ks with
 |nil=>intro l;rfl
 |cons k ks ih=>intro l;rw[List.foldl_cons,ih,Pn,List.length_cons];omega
theorem KZ {es es2:List Ai}{i:Nat}(h:∀j,j<i→∀x,es[j]? =some x→∀y∈es2,¬(x.dot=y.dot∧x≠y))(hi:es.length≤i):¬FA es es2:=by
 rintro⟨x,hx,y,hy,h2⟩
 exact Ei h hi x hx y hy h2
theorem K1 {es es2:List Ai}{i j:Nat}{x y:Ai}(hx:es[i]? =some x)(hy:es2[j]? =some y)(h1:x.dot=y.dot)(h2:¬x=y):FA es es2:=⟨x,AT hx,y,AT hy,h1,h2⟩
theorem EX {ms ms2:List Ac}{cl cl2:List Ah}:(AC ms cl ms2 cl2).2.1.length≤64∧(AC ms cl ms2 cl2).2.2.length≤64:=by
 unfold AC
 split
 ·unfold Bj
  split
  ·simp
  ·split
   ·simp
   ·simp only;omega
 ·simp
attribute [local irreducible] AO FW CK Ca B9 B1 CP D6
attribute [local irreducible] Es Fb itemsN Do By Bk Cr Gr Cp B2
attribute [local irreducible] CM Et Br Bz AC FA
attribute [local irreducible] X
theorem RZ (a:Option Addr)(l:List Ai)(c:Nat)(e:Ai)(w:World)(hs:At w a l)(hl:l.length≤1000000):
  Calls prog 107 #[.slice a l.length c,.agg #[.string ((e).item),.int .i64 (((e).dot).node),.int .i64 (((e).dot).life),.int .i64 (((e).dot).count),.int .i64 ((e).qty),.int .u64 ((e).price)]] w (AU (fun v w'=>∃a' c',v= .slice a' (Et l e).length c'∧Ag w' 89 a' c' (Et l e)∧(∀b,own a' b→w.heap.size≤b)∧As w w')):=by
 refine Af (n:=38) func107 rfl rfl rfl ?_;refine jG ?_;refine jR<|jB ?_;intro a3 ay am a0 az;have:w.heap.size≤a3:=am;clear am;have K0:=(az:As w _);refine jG ?_;refine Al.loop (ι:=Nat) (fun i ρ' w'=>∃a':Option Addr,∃c':Nat,AG ρ' [(3,jp a3),(5,.slice a' (((CM l e i).1).length) c'),(6,.bool ((CM l e i).2)),(9,.slice a l.length c),(10,.int .i64 ((l.length:Nat):Int)),(11,.int .i64 ((i:Nat):Int))]∧As w w'∧(AI w' a3 [.string ((e).item),.int .i64 (((e).dot).node),.int .i64 (((e).dot).life),.int .i64 (((e).dot).count),.int .i64 ((e).qty),.int .u64 ((e).price)] 89)∧(Ag w' 89 a' c' ((CM l e i).1))∧(¬own a' a3)∧(∀q_,own a' q_→w.heap.size≤q_)∧(i≤l.length)) (fun i=>l.length-i) 0 ?_ ?_
 ·rw[Ir]
  have aA:=Ag.nil (α:=Ai) ay 89;refine⟨_,_,⟨rfl,rfl,rfl,rfl,rfl,rfl,trivial⟩,K0,a0,aA,(Ad a3),(fun q_ h1=>absurd h1 (Ad q_)),?_⟩
  ·omega
 clear a0;clear K0;rintro i aZ b0 ⟨a',c',an,K0,a0,a1,a6,a4,hi⟩ ih1;obtain⟨ρ₀,rfl⟩:=an.ex;clear an;refine jG ?_;refine jF ?_ ?_
 ·intro hc12
  obtain⟨b1,b2,x,hx,b3,a7⟩:=hs.eo i;have hc_16_lt:=a7.lt;replace a7:=a7.ext K0;refine jG ?_;refine jR<|jA ?_;intro aB b4 a5 a2 ac;have b5:=Aj a0.lt a5;have b6:=Aj a7.lt a5;have ad:=Ak a1.own_lt a5;have:=Nat.le_trans K0.size a5;clear a5;refine jR<|jS a2 ?_;intro b7 a2 ae;replace a0:=(a0.ext ac).kp ae;refine jG ?_;refine RL.gcall (vals:=[.agg #[.string ((x).item),.int .i64 (((x).dot).node),.int .i64 (((x).dot).life),.int .i64 (((x).dot).count),.int .i64 ((x).qty),.int .u64 ((x).price)],.agg #[.string ((e).item),.int .i64 (((e).dot).node),.int .i64 (((e).dot).life),.int .i64 (((e).dot).count),.int .i64 ((e).qty),.int .u64 ((e).price)]]) (A8 rfl rfl rfl rfl) en41.h (fun hg=>(Bm (Bh hg) (Bm (Bh hg) Di))) (fun hg=>(Pf x e _)) ?_;intro b8 a8;refine jV (AN rfl rfl rfl) ?_;refine jG ?_;replace a1:=((a1.ext ac).keepO ae (Aa ad)).ext a8;replace K0:=((K0.ext ac).n1 ae).ext a8;replace a0:=a0.ext a8;replace a2:=a2.ext a8;refine jF ?_ ?_
  ·intro hc21
   have hsl:=FR l e i hi;refine jG ?_;refine jR<|AD.buildSlice ([e]:List Ai) underlying23 ty89 rfl rfl Ze ?_;intro b9 ba aC aD a9;clear aC;replace a1:=a1.ext a9;refine jR<|AD.append (xs:=(CM l e i).1) (ys:=([e]:List Ai)) underlying23 ty89 rfl rfl rfl a1 aD.sl Zr Zd ?_;intro af bb bc ag ah aa aE;replace a0:=a0.ext a9;have ao:¬own af a3:=aa.not a6 a0.lt;replace a2:=a2.ext a9;have aF:¬own af aB:=aa.not ad a2.lt;replace K0:=K0.ext a9;have ap:∀q_,own af q_→w.heap.size≤q_:=aa.ge a4 K0.size;clear aa;clear aE;have hsl:=FR l e i hi;replace a2:=a2.keep ah ad;refine jG ?_;refine jR<|AD.buildSlice ([x]:List Ai) underlying23 ty89 rfl rfl Ze ?_;intro be bg aG aH ab;clear aG;replace ag:=ag.ext ab;refine jR<|AD.append (xs:=((CM l e i).1)++([e]:List Ai)) (ys:=([x]:List Ai)) underlying23 ty89 rfl rfl rfl ag aH.sl Zr Zd ?_;intro aq bh bi aI ai aj aJ;replace a0:=(a0.keep ah a6).ext ab;have aK:¬own aq a3:=aj.not ao a0.lt;replace K0:=(K0.new ah a4).ext ab;have aL:∀q_,own aq q_→w.heap.size≤q_:=aj.ge ap K0.size;clear aj;clear aJ;refine jG ?_;refine jV (Ay (c:=((i+1:Nat):Int)) (Aq rfl rfl Zo Zo) rfl) ?_;refine jG ?_;have q:=F9 (e:=e) hx;rw[Ez,if_pos ⟨hc21.1,hc21.2⟩]at q;refine ih1 (i+1) _ _ ?_ Zo;rw[q];replace a2:=(a2.ext ab).keep ai aF;replace a0:=a0.keep ai ao;replace K0:=K0.new ai ap;refine⟨_,_,⟨rfl,rfl,rfl,rfl,rfl,rfl,trivial⟩,K0,a0,aI,aK,aL,?_⟩
   ·omega
  ·intro hc21
   have hsl:=FR l e i hi;refine jG ?_;refine jR<|AD.buildSlice ([x]:List Ai) underlying23 ty89 rfl rfl Ze ?_;intro bj bk aM aN ak;clear aM;replace a1:=a1.ext ak;refine jR<|AD.append (xs:=(CM l e i).1) (ys:=([x]:List Ai)) underlying23 ty89 rfl rfl rfl a1 aN.sl Zr Zd ?_;intro ar bl bm aO au al aP;replace a0:=a0.ext ak;have aQ:¬own ar a3:=al.not a6 a0.lt;replace K0:=K0.ext ak;have aR:∀q_,own ar q_→w.heap.size≤q_:=al.ge a4 K0.size;clear al;clear aP;refine jG ?_;refine jV (Ay (c:=((i+1:Nat):Int)) (Aq rfl rfl Zo Zo) rfl) ?_;refine jG ?_;have q:=F9 (e:=e) hx;rw[Ez,if_neg (fun h_=>hc21.elim (fun h2=>by rw[h_.1]at h2;cases h2) (fun h2=>h2 h_.2))]at q;refine ih1 (i+1) _ _ ?_ Zo;rw[q];replace a0:=a0.keep au a6;replace K0:=K0.new au a4;refine⟨_,_,⟨rfl,rfl,rfl,rfl,rfl,rfl,trivial⟩,K0,a0,aO,aQ,aR,?_⟩
   ·omega
 ·intro hc12
  refine jG ?_;refine jF ?_ ?_
  ·intro hc32
   have hsl:=FR l e i hi;refine jG ?_;refine jR<|AD.buildSlice ([e]:List Ai) underlying23 ty89 rfl rfl Ze ?_;intro bn bo aS aT av;clear aS;replace a1:=a1.ext av;refine jR<|AD.append (xs:=(CM l e i).1) (ys:=([e]:List Ai)) underlying23 ty89 rfl rfl rfl a1 aT.sl Zr Zd ?_;intro aw aU bp aV aW ax aX;replace K0:=K0.ext av;have aY:∀q_,own aw q_→w.heap.size≤q_:=ax.ge a4 K0.size;clear ax;clear aX;refine jG ?_;refine jJ func107 ?_;rw[QH hi Zo hc32];replace K0:=K0.new aW a4;exact⟨_,rfl,aw,aU,rfl,aV,aY,K0⟩
  ·intro hc32
   refine jG ?_;refine jJ func107 ?_;rw[Pm hi Zo hc32];exact⟨_,rfl,a',c',rfl,a1,a4,K0⟩
theorem SI (am:Option Addr)(ms:List Ac)(cm:Nat)(ac:Option Addr)(cl:List Ah)(cc:Nat)(ae:Option Addr)(es:List Ai)(ce:Nat)(x:Ai)(w:World)(hs:At w am ms)(ht:At w ac cl)(hse:At w ae es)(hl:ms.length≤4294967295)(hl2:cl.length≤4294967295)(hl3:es.length≤4294967295):
  Calls prog 50 #[.agg #[.slice ae es.length ce,.slice am ms.length cm,.slice ac cl.length cc],.agg #[.string ((x).item),.int .i64 (((x).dot).node),.int .i64 (((x).dot).life),.int .i64 (((x).dot).count),.int .i64 ((x).qty),.int .u64 ((x).price)]] w (AU (fun v w'=>v= .bool (decide (x∈es))∧As w w')):=by
 refine Af (n:=18) func50 rfl rfl rfl ?_;refine jG ?_;refine jR<|jB ?_;intro a7 ag a8 a0 af;have:w.heap.size≤a7:=a8;clear a8;have K0:=(af:As w _);refine jR<|jB ?_;intro a9 ah a4 a1 aa;have ai:=Aj a0.lt a4;have:=Nat.le_trans K0.size a4;clear a4;replace a0:=a0.ext aa;refine jG ?_;replace K0:=K0.ext aa;refine Al.loop (ι:=Nat) (fun i ρ' w'=>AG ρ' [(3,jp a9),(8,.slice ae es.length ce),(9,.int .i64 ((es.length:Nat):Int)),(10,.int .i64 ((i:Nat):Int))]∧As w w'∧(AI w' a7 [.slice ae es.length ce,.slice am ms.length cm,.slice ac cl.length cc] 29)∧(AI w' a9 [.string ((x).item),.int .i64 (((x).dot).node),.int .i64 (((x).dot).life),.int .i64 (((x).dot).count),.int .i64 ((x).qty),.int .u64 ((x).price)] 89)∧(i≤es.length)∧(Ep (fun y=>decide (y=x)) es i)) (fun i=>es.length-i) 0 ?_ ?_
 ·refine⟨⟨rfl,rfl,rfl,rfl,trivial⟩,K0,a0,a1,?_,?_⟩
  ·omega
  ·exact Ep.zero _ _
 clear a0 a1;clear K0;rintro i aj ak ⟨ab,K0,a0,a1,hi,hno⟩ ih1;obtain⟨ρ₀,rfl⟩:=ab.ex;clear ab;refine jG ?_;refine jF ?_ ?_
 ·intro hc11
  obtain⟨al,an,y,hy,ao,a3⟩:=hse.eo i;have hc_18_lt:=a3.lt;replace a3:=a3.ext K0;refine jG ?_;refine jR<|jA ?_;intro ap aq a2 ad a5;have ar:=Aj a0.lt a2;have au:=Aj a1.lt a2;have av:=Aj a3.lt a2;have:=Nat.le_trans K0.size a2;clear a2;refine jR<|jS ad ?_;intro aw ad a6;replace a1:=(a1.ext a5).kp a6;refine jG ?_;refine jV (Ev Zk rfl rfl (Eb y x)) ?_;refine jG ?_;replace a0:=(a0.ext a5).kp a6;replace K0:=(K0.ext a5).n1 a6;refine jF ?_ ?_
  ·intro hc16
   refine jG ?_;refine jJ func50 ?_;exact⟨_,rfl,by rw[decide_eq_true (hc16▸AT hy)],K0⟩
  ·intro hc16
   refine jG ?_;refine jV (Ay (c:=((i+1:Nat):Int)) (Aq rfl rfl Zo Zo) rfl) ?_;refine jG ?_;refine ih1 (i+1) _ _ ?_ Zo;refine⟨⟨rfl,rfl,rfl,rfl,trivial⟩,K0,a0,a1,?_,?_⟩
   ·omega
   ·exact hno.step hy (decide_eq_false hc16)
 ·intro hc11
  refine jG ?_;refine jJ func50 ?_;exact⟨_,rfl,by rw[decide_eq_false (RY hno Zo)],K0⟩
theorem Po (am:Option Addr)(ms:List Ac)(cm:Nat)(ac:Option Addr)(cl:List Ah)(cc:Nat)(ae:Option Addr)(es:List Ai)(ce:Nat)(w:World)(hs:At w am ms)(ht:At w ac cl)(hse:At w ae es)(hl:ms.length≤4294967295)(hl2:cl.length≤4294967295)(hl3:es.length≤4294967295)(hbad:64<es.length∨32<itemsN es):
  Calls prog 108 #[.agg #[.slice ae es.length ce,.slice am ms.length cm,.slice ac cl.length cc]] w (AU (fun v w'=>v= .tuple #[.agg #[.slice none 0 0,.slice none 0 0,.slice none 0 0],.int .i64 51]∧As w w')):=by
 refine Af (n:=16) func108 rfl rfl rfl ?_;refine jG ?_;refine jR<|jB ?_;intro a6 a9 a3 a1 a7;have:w.heap.size≤a6:=a3;clear a3;have K0:=(a7:As w _);refine jR<|jA ?_;intro aa ab a2 a0 a4;have ad:=Aj a1.lt a2;have:=Nat.le_trans K0.size a2;clear a2;replace a1:=a1.ext a4;refine jG ?_;replace K0:=K0.ext a4;refine RL.gcall (vals:=[.slice ae es.length ce]) (Bw rfl rfl rfl rfl) en42.h (fun hg=>(Bm (Bh hg) Di)) (fun hg=>(JX _ es _ _ (hse.ext K0) Zo)) ?_;intro af a5;refine jG ?_;refine jV (Ba rfl rfl rfl) ?_;refine jG ?_;replace a0:=a0.ext a5;replace K0:=K0.ext a5;refine jF ?_ ?_
 ·intro hc13
  refine jG ?_;refine jV (Ar (cells:=#[.slice none 0 0,.slice none 0 0,.slice none 0 0]) Zk) ?_;refine jR<|jS a0 ?_;intro ag a0 a8;refine jG ?_;refine Al.retCT (x:= .int .i64 51) (cs:=#[.slice none 0 0,.slice none 0 0,.slice none 0 0]) func108 rfl ty29 rfl rfl a0.cl rfl ?_;replace K0:=K0.n1 a8;exact⟨_,rfl,rfl,K0⟩
 ·intro hc13
  exact absurd hbad Zo
theorem Pp (am:Option Addr)(ms:List Ac)(cm:Nat)(ac:Option Addr)(cl:List Ah)(cc:Nat)(ae:Option Addr)(es:List Ai)(ce:Nat)(w:World)(hs:At w am ms)(ht:At w ac cl)(hse:At w ae es)(hl:ms.length≤4294967295)(hl2:cl.length≤4294967295)(hl3:es.length≤4294967295)(hbad:¬(64<es.length∨32<itemsN es)):
  Calls prog 108 #[.agg #[.slice ae es.length ce,.slice am ms.length cm,.slice ac cl.length cc]] w (AU (fun v w'=>v= .tuple #[.agg #[.slice ae es.length ce,.slice am ms.length cm,.slice ac cl.length cc],.int .i64 0]∧As w w')):=by
 refine Af (n:=16) func108 rfl rfl rfl ?_;refine jG ?_;refine jR<|jB ?_;intro a6 a9 a4 a0 a7;have:w.heap.size≤a6:=a4;clear a4;have K0:=(a7:As w _);refine jR<|jA ?_;intro aa ab a2 a1 a5;have ad:=Aj a0.lt a2;have:=Nat.le_trans K0.size a2;clear a2;replace a0:=a0.ext a5;refine jG ?_;replace K0:=K0.ext a5;refine RL.gcall (vals:=[.slice ae es.length ce]) (Bw rfl rfl rfl rfl) en42.h (fun hg=>(Bm (Bh hg) Di)) (fun hg=>(JX _ es _ _ (hse.ext K0) Zo)) ?_;intro af a3;refine jG ?_;refine jV (Ba rfl rfl rfl) ?_;refine jG ?_;replace a0:=a0.ext a3;replace a1:=a1.ext a3;replace K0:=K0.ext a3;refine jF ?_ ?_
 ·intro hc13
  exact absurd hc13 Zo
 ·intro hc13
  refine jG ?_;refine jR<|jS a1 ?_;intro ag a1 a8;refine jG ?_;refine Al.retCT (x:= .int .i64 0) (cs:=#[.slice ae es.length ce,.slice am ms.length cm,.slice ac cl.length cc]) func108 rfl ty29 rfl rfl a1.cl rfl ?_;replace K0:=K0.n1 a8;exact⟨_,rfl,rfl,K0⟩
end Go.Proofs.YtocgdeefgohdhaaGreat
namespace Go.Proofs.YtocgdeefgohdhaaGreat
open Go.Proofs.Tryz
attribute [local irreducible] RD RS AD RL RA RT BH Al
theorem EE.kept {ms ms2:List Ac}{cl cl2:List Ah}{es es2:List Ai}(h:EE es)(h2:EE es2):EE (Bz ms cl es ms2 cl2 es2).2.2:=fun x hx=>(LY hx).elim (h x) (h2 x)
attribute [local irreducible] AO FW CK Ca B9 B1 CP D6
attribute [local irreducible] Es Fb itemsN Do By Bk Cr Gr Cp B2
attribute [local irreducible] CM Et Br Bz AC FA
theorem Pq (am:Option Addr)(ms:List Ac)(cm:Nat)(ac:Option Addr)(cl:List Ah)(cc:Nat)(d:Ah)(w:World)(hs:At w am ms)(ht:At w ac cl)(hl:ms.length≤4294967295)(hl2:cl.length≤4294967295)(hc:EC ms cl):Calls prog 40 #[.agg #[.slice am ms.length cm,.slice ac cl.length cc],.agg #[.int .i64 ((d).node),.int .i64 ((d).life),.int .i64 ((d).count)]] w (AU fun v w'=>v= .bool (decide (CP ms cl d))∧As w w'):=(Fx am ms cm ac cl cc d w hs ht hl hl2).mono fun e_ w_ ⟨v_,h1_,h2_,h3_⟩=>⟨v_,h1_,h2_.trans (congrArg Value.bool (decide_eq_decide.2 hc.covR)),h3_⟩
attribute [local irreducible] X
theorem R1 (am:Option Addr)(ms:List Ac)(cm:Nat)(ac:Option Addr)(cl:List Ah)(cc:Nat)(ae:Option Addr)(es:List Ai)(ce:Nat)(am2:Option Addr)(ms2:List Ac)(cm2:Nat)(ac2:Option Addr)(cl2:List Ah)(cc2:Nat)(ae2:Option Addr)(es2:List Ai)(ce2:Nat)(w:World)(hcap:es.length≤ce)(hcap2:es2.length≤ce2)(hs:At w am ms)(ht:At w ac cl)(hse:At w ae es)(hs2:At w am2 ms2)(ht2:At w ac2 cl2)(hse2:At w ae2 es2)(hl:ms.length≤4294967295)(hl2:cl.length≤4294967295)(hl3:es.length≤4294967295)(hl4:ms2.length≤4294967295)(hl5:cl2.length≤4294967295)(hl6:es2.length≤4294967295)(hb:EE es)(hb2:EE es2):
  Calls prog 94 #[.agg #[.slice ae es.length ce,.slice am ms.length cm,.slice ac cl.length cc],.agg #[.slice ae2 es2.length ce2,.slice am2 ms2.length cm2,.slice ac2 cl2.length cc2]] w (AU (fun v w'=>∃ae ce am cm ac cc,v= .tuple #[.agg #[.slice ae (Bz ms cl es ms2 cl2 es2).2.2.length ce,.slice am (Bz ms cl es ms2 cl2 es2).2.1.1.length cm,.slice ac (Bz ms cl es ms2 cl2 es2).2.1.2.length cc],.int .i64 (Bz ms cl es ms2 cl2 es2).1]∧Ag w' 89 ae ce (Bz ms cl es ms2 cl2 es2).2.2∧Ag w' 112 am cm (Bz ms cl es ms2 cl2 es2).2.1.1∧Ag w' 87 ac cc (Bz ms cl es ms2 cl2 es2).2.1.2∧(∀q,own ae q→¬own am q)∧(∀q,own ae q→¬own ac q)∧(∀q,own am q→¬own ac q)∧(∀q,own ae q→w.heap.size≤q)∧(∀q,own am q→w.heap.size≤q)∧(∀q,own ac q→w.heap.size≤q)∧As w w')):=by
 refine Af (n:=128) func94 rfl rfl rfl ?_;refine jG ?_;refine jR<|jB ?_;intro ak cQ bD a1 bT;have:w.heap.size≤ak:=bD;clear bD;have K0:=(bT:As w _);refine jR<|jB ?_;intro ag cR bs a2 bE;have cS:=Aj a1.lt bs;have:=Nat.le_trans K0.size bs;clear bs;refine jR<|jA ?_;intro ah cT b4 a0 bt;replace a1:=a1.ext bE;have cU:=Aj a1.lt b4;have cV:=Aj a2.lt b4;replace K0:=K0.ext bE;have:=Nat.le_trans K0.size b4;clear b4;replace a1:=a1.ext bt;refine jG ?_;replace K0:=K0.ext bt;refine jR<|jC (KV am ms cm ac cl cc ae es ce _ hcap (hs.ext K0) (ht.ext K0) (hse.ext K0) Zo Zo Zo hb) ?_;rintro _ cW ⟨rfl,b5⟩;refine jG ?_;replace a2:=(a2.ext bt).ext b5;replace a1:=a1.ext b5;replace a0:=a0.ext b5;replace K0:=K0.ext b5;refine jF ?_ ?_
 ·intro hc24
  refine jG ?_;refine jV (Ar (cells:=#[.slice none 0 0,.slice none 0 0,.slice none 0 0]) Zk) ?_;refine jG ?_;refine jR<|jS a0 ?_;intro cX a0 bu;refine jG ?_;refine Al.retCT (x:= .int .i64 (Bk ms cl es)) (cs:=#[.slice none 0 0,.slice none 0 0,.slice none 0 0]) func94 rfl ty29 rfl rfl a0.cl rfl ?_;rw[HI hc24];replace a1:=a1.kp bu;replace a2:=a2.kp bu;replace K0:=K0.n1 bu;exact⟨_,rfl,none,0,none,0,none,0,rfl,Ag.nil _ _,Ag.nil _ _,Ag.nil _ _,fun _ h_=>absurd h_ (Ad _),fun _ h_=>absurd h_ (Ad _),fun _ h_=>absurd h_ (Ad _),fun _ h_=>absurd h_ (Ad _),fun _ h_=>absurd h_ (Ad _),fun _ h_=>absurd h_ (Ad _),K0⟩
 ·intro hc24
  refine jG ?_;refine jR<|jC (KV am2 ms2 cm2 ac2 cl2 cc2 ae2 es2 ce2 _ hcap2 (hs2.ext K0) (ht2.ext K0) (hse2.ext K0) Zo Zo Zo hb2) ?_;rintro _ cY ⟨rfl,b6⟩;refine jG ?_;replace a1:=a1.ext b6;replace a2:=a2.ext b6;replace a0:=a0.ext b6;replace K0:=K0.ext b6;refine jF ?_ ?_
  ·intro hc30
   refine jG ?_;refine jV (Ar (cells:=#[.slice none 0 0,.slice none 0 0,.slice none 0 0]) Zk) ?_;refine jG ?_;refine jR<|jS a0 ?_;intro cZ a0 bv;refine jG ?_;refine Al.retCT (x:= .int .i64 (Bk ms2 cl2 es2)) (cs:=#[.slice none 0 0,.slice none 0 0,.slice none 0 0]) func94 rfl ty29 rfl rfl a0.cl rfl ?_;rw[HJ hc24 hc30];replace a1:=a1.kp bv;replace a2:=a2.kp bv;replace K0:=K0.n1 bv;exact⟨_,rfl,none,0,none,0,none,0,rfl,Ag.nil _ _,Ag.nil _ _,Ag.nil _ _,fun _ h_=>absurd h_ (Ad _),fun _ h_=>absurd h_ (Ad _),fun _ h_=>absurd h_ (Ad _),fun _ h_=>absurd h_ (Ad _),fun _ h_=>absurd h_ (Ad _),fun _ h_=>absurd h_ (Ad _),K0⟩
  ·intro hc30
   have hcA:=GE hc24;have hcB:=GE hc30;have hln1:=hcA.len;have hln2:=hcB.len;have hmn1:=hcA.ctx.1;have hmn2:=hcA.ctx.2.1;have hmn3:=hcB.ctx.1;have hmn4:=hcB.ctx.2.1;refine jG ?_;refine jR<|jC (Qt am ms cm ac cl cc am2 ms2 cm2 ac2 cl2 cc2 _ (hs.ext K0) (ht.ext K0) (hs2.ext K0) (ht2.ext K0) Zo Zo Zo Zo) ?_;rintro _ d0 ⟨a8,aa,a9,ab,rfl,a3,a4,bU,bw,bx,b7⟩;have b8:=Ae bw a0.lt;have bV:=Az K0.size bw;have b9:=Ae bx a0.lt;have bW:=Az K0.size bx;clear bw bx;refine jG ?_;refine jR<|jA ?_;intro aR d1 aX a6 b0;replace a1:=a1.ext b7;have d2:=Aj a1.lt aX;replace a2:=a2.ext b7;have d3:=Aj a2.lt aX;replace a0:=a0.ext b7;have d4:=Aj a0.lt aX;have bX:=Ak a3.own_lt aX;have bY:=Ak a4.own_lt aX;replace K0:=K0.ext b7;have:=Nat.le_trans K0.size aX;clear aX;refine jR<|jS a6 ?_;intro d5 a6 b1;refine jG ?_;replace a1:=(a1.ext b0).kp b1;replace a2:=(a2.ext b0).kp b1;replace a0:=(a0.ext b0).kp b1;replace a3:=(a3.ext b0).keepO b1 (Aa bX);replace a4:=(a4.ext b0).keepO b1 (Aa bY);replace K0:=(K0.ext b0).n1 b1;refine jF ?_ ?_
   ·intro hc42
    refine jG ?_;refine jV (Ar (cells:=#[.slice none 0 0,.slice none 0 0,.slice none 0 0]) Zk) ?_;refine jG ?_;refine jR<|jS a0 ?_;intro d6 a0 b2;refine jG ?_;refine Al.retCT (x:= .int .i64 ((AC ms cl ms2 cl2).1)) (cs:=#[.slice none 0 0,.slice none 0 0,.slice none 0 0]) func94 rfl ty29 rfl rfl a0.cl rfl ?_;rw[HK hc24 hc30 hc42];replace a1:=a1.kp b2;replace a2:=a2.kp b2;replace a3:=a3.keepO b2 (Aa b8);replace a4:=a4.keepO b2 (Aa b9);replace a6:=a6.kp b2;replace K0:=K0.n1 b2;exact⟨_,rfl,none,0,none,0,none,0,rfl,Ag.nil _ _,Ag.nil _ _,Ag.nil _ _,fun _ h_=>absurd h_ (Ad _),fun _ h_=>absurd h_ (Ad _),fun _ h_=>absurd h_ (Ad _),fun _ h_=>absurd h_ (Ad _),fun _ h_=>absurd h_ (Ad _),fun _ h_=>absurd h_ (Ad _),K0⟩
   ·intro hc42
    refine jG ?_;refine jV (Ar (cells:=#[.slice none 0 0,.slice a8 ((AC ms cl ms2 cl2).2.1.length) aa,.slice a9 ((AC ms cl ms2 cl2).2.2.length) ab]) Zk) ?_;refine jR<|jA ?_;intro ai d7 aS a5 aY;have d8:=Aj a1.lt aS;have d9:=Aj a2.lt aS;have da:=Aj a0.lt aS;have db:=Aj a6.lt aS;have bz:=Ak a3.own_lt aS;have bA:=Ak a4.own_lt aS;have:=Nat.le_trans K0.size aS;clear aS;refine jR<|jS a5 ?_;intro bZ a5 aZ;replace a1:=(a1.ext aY).kp aZ;refine jG ?_;replace a2:=(a2.ext aY).kp aZ;replace a0:=(a0.ext aY).kp aZ;replace a3:=(a3.ext aY).keepO aZ (Aa bz);replace a4:=(a4.ext aY).keepO aZ (Aa bA);replace a6:=(a6.ext aY).kp aZ;replace K0:=(K0.ext aY).n1 aZ;refine Al.loop (ι:=Nat) (fun i ρ' w'=>∃a':Option Addr,∃c':Nat,AG ρ' [(2,jp ak),(3,jp ag),(4,jp ah),(10,jp ai),(48,.slice ae es.length ce),(49,.int .i64 ((es.length:Nat):Int)),(50,.int .i64 ((i:Nat):Int))]∧As w w'∧(AI w' ak [.slice ae es.length ce,.slice am ms.length cm,.slice ac cl.length cc] 29)∧(AI w' ag [.slice ae2 es2.length ce2,.slice am2 ms2.length cm2,.slice ac2 cl2.length cc2] 29)∧(AI w' ah [.slice none 0 0,.slice none 0 0,.slice none 0 0] 29)∧(AI w' aR [.slice a8 ((AC ms cl ms2 cl2).2.1.length) aa,.slice a9 ((AC ms cl ms2 cl2).2.2.length) ab] 27)∧(AI w' ai [.slice a' ((kA (es.take i) ms2 cl2 es2).length) c',.slice a8 ((AC ms cl ms2 cl2).2.1.length) aa,.slice a9 ((AC ms cl ms2 cl2).2.2.length) ab] 29)∧(Ag w' 112 a8 aa ((AC ms cl ms2 cl2).2.1))∧(Ag w' 87 a9 ab ((AC ms cl ms2 cl2).2.2))∧(Ag w' 89 a' c' (kA (es.take i) ms2 cl2 es2))∧(¬own a' ak)∧(¬own a' ag)∧(¬own a' ah)∧(¬own a' aR)∧(¬own a' ai)∧(∀q_,own a' q_→¬own a8 q_)∧(∀q_,own a' q_→¬own a9 q_)∧(∀q_,own a' q_→w.heap.size≤q_)∧(i≤es.length)) (fun i=>es.length-i) 0 ?_ ?_
    ·rw[M1]
     have c0:=Ag.nil (α:=Ai) bZ 89;refine⟨_,_,⟨rfl,rfl,rfl,rfl,rfl,rfl,rfl,trivial⟩,K0,a1,a2,a0,a6,a5,a3,a4,c0,(Ad ak),(Ad ag),(Ad ah),(Ad aR),(Ad ai),(fun q_ h1 _=>Ad q_ h1),(fun q_ h1 _=>Ad q_ h1),(fun q_ h1=>absurd h1 (Ad q_)),?_⟩
     ·omega
    clear a1 a2 a0 a3 a4 a6 a5;clear K0;rintro i dc dd ⟨a',c',bF,K0,a1,a2,a0,a6,a5,a3,a4,ar,ba,bb,bc,be,bg,bh,bi,bj,hi⟩ ih1;obtain⟨ρ₀,rfl⟩:=bF.ex;clear bF;refine jG ?_;refine jF ?_ ?_
    ·intro hc51
     refine BP ?_;obtain⟨de,df,x,hx,c1,bk⟩:=hse.eo i;have hc_89_lt:=bk.lt;refine jV (AQ underlying23 ty89 rfl rfl c1 Zl) ?_;replace bk:=bk.ext K0;refine jG ?_;refine jR<|jA ?_;intro dg dh al b3 aC;have di:=Aj a1.lt al;have dj:=Aj a2.lt al;have dk:=Aj a0.lt al;have dl:=Aj a6.lt al;have dm:=Aj a5.lt al;have dn:=Aj bk.lt al;have c2:=Ak a3.own_lt al;have c4:=Ak a4.own_lt al;have c5:=Ak ar.own_lt al;have:=Nat.le_trans K0.size al;clear al;refine jR<|jS b3 ?_;intro dp b3 aD;replace a2:=(a2.ext aC).kp aD;refine jG ?_;replace K0:=(K0.ext aC).n1 aD;refine jR<|jC (SI am2 ms2 cm2 ac2 cl2 cc2 ae2 es2 ce2 x _ (hs2.ext K0) (ht2.ext K0) (hse2.ext K0) Zo Zo Zo) ?_;rintro _ dq ⟨rfl,au⟩;replace a2:=a2.ext au;replace b3:=b3.ext au;refine jG ?_;replace K0:=K0.ext au;refine RL.gcall (vals:=[.agg #[.slice am2 ms2.length cm2,.slice ac2 cl2.length cc2],.agg #[.int .i64 (((x).dot).node),.int .i64 (((x).dot).life),.int .i64 (((x).dot).count)]]) (Bw rfl rfl rfl rfl) en40.h (fun hg=>(Bm (Bh hg) (Bm (Bh hg) Di))) (fun hg=>(Pq am2 ms2 cm2 ac2 cl2 cc2 ((x).dot) _ (hs2.ext K0) (ht2.ext K0) Zo Zo hcB.ctx)) ?_;intro dr av;refine jG ?_;refine jV (Ba rfl rfl rfl) ?_;refine jG ?_;replace a1:=(((a1.ext aC).kp aD).ext au).ext av;replace a0:=(((a0.ext aC).kp aD).ext au).ext av;replace a6:=(((a6.ext aC).kp aD).ext au).ext av;replace a5:=(((a5.ext aC).kp aD).ext au).ext av;replace a3:=(((a3.ext aC).keepO aD (Aa c2)).ext au).ext av;replace a4:=(((a4.ext aC).keepO aD (Aa c4)).ext au).ext av;replace ar:=(((ar.ext aC).keepO aD (Aa c5)).ext au).ext av;replace a2:=a2.ext av;replace b3:=b3.ext av;replace K0:=K0.ext av;refine jF ?_ ?_
     ·intro hc64
      have hkl:=M3 (es:=es) (ms2:=ms2) (cl2:=cl2) (es2:=es2) (i:=i);refine jG ?_;refine jR<|AD.buildSlice ([x]:List Ai) underlying23 ty89 rfl rfl Ze ?_;intro ds dt c6 c7 aE;clear c6;replace ar:=ar.ext aE;refine jR<|AD.append (xs:=kA (es.take i) ms2 cl2 es2) (ys:=([x]:List Ai)) underlying23 ty89 rfl rfl rfl ar c7.sl Zr Zd ?_;intro aT du dv bB aU aF c8;replace a1:=a1.ext aE;have c9:¬own aT ak:=aF.not ba a1.lt;replace a2:=a2.ext aE;have ca:¬own aT ag:=aF.not bb a2.lt;replace a0:=a0.ext aE;have cb:¬own aT ah:=aF.not bc a0.lt;replace a6:=a6.ext aE;have cd:¬own aT aR:=aF.not be a6.lt;replace a5:=a5.ext aE;have bG:¬own aT ai:=aF.not bg a5.lt;replace a3:=a3.ext aE;have cf:∀q_,own aT q_→¬own a8 q_:=aF.apart bh a3.own_lt;replace a4:=a4.ext aE;have cg:∀q_,own aT q_→¬own a9 q_:=aF.apart bi a4.own_lt;replace K0:=K0.ext aE;have ch:∀q_,own aT q_→w.heap.size≤q_:=aF.ge bj K0.size;clear aF;clear c8;refine jG ?_;replace a5:=a5.keep aU bg;refine jR<|jS a5 ?_;intro dw a5 aV;refine jG ?_;refine jV (Ay (c:=((i+1:Nat):Int)) (Aq rfl rfl Zo Zo) rfl) ?_;refine jG ?_;have e:=HH (ms2:=ms2) (cl2:=cl2) (es2:=es2) hx;rw[if_pos hc64]at e;refine ih1 (i+1) _ _ ?_ Zo;rw[e];replace a1:=(a1.keep aU ba).kp aV;replace a2:=(a2.keep aU bb).kp aV;replace a0:=(a0.keep aU bc).kp aV;replace a6:=(a6.keep aU be).kp aV;replace a3:=(a3.keepO aU (Zf bh)).keepO aV (Aa bz);replace a4:=(a4.keepO aU (Zf bi)).keepO aV (Aa bA);replace K0:=(K0.new aU bj).n1 aV;replace bB:=bB.keepO aV (Aa bG);refine⟨_,_,⟨rfl,rfl,rfl,rfl,rfl,rfl,rfl,trivial⟩,K0,a1,a2,a0,a6,a5,a3,a4,bB,c9,ca,cb,cd,bG,cf,cg,ch,?_⟩
      ·omega
     ·intro hc64
      refine jG ?_;refine jV (Ay (c:=((i+1:Nat):Int)) (Aq rfl rfl Zo Zo) rfl) ?_;refine jG ?_;have e:=HH (ms2:=ms2) (cl2:=cl2) (es2:=es2) hx;rw[if_neg (fun h_=>h_.elim (fun h2=>hc64.1 h2) (fun h2=>h2 hc64.2)),List.append_nil]at e;refine ih1 (i+1) _ _ ?_ Zo;rw[e];refine⟨_,_,⟨rfl,rfl,rfl,rfl,rfl,rfl,rfl,trivial⟩,K0,a1,a2,a0,a6,a5,a3,a4,ar,ba,bb,bc,be,bg,bh,bi,bj,?_⟩
      ·omega
    ·intro hc51
     have ci:kA (es.take i) ms2 cl2 es2=kA es ms2 cl2 es2:=by rw[List.take_of_length_le Zo]
     rw[ci]at ar a5;refine jG ?_;refine Al.loop (ι:=Nat) (fun i ρ' w'=>∃a':Option Addr,∃c':Nat,AG ρ' [(2,jp ak),(3,jp ag),(4,jp ah),(10,jp ai),(73,.slice ae2 es2.length ce2),(74,.int .i64 ((es2.length:Nat):Int)),(75,.int .i64 ((i:Nat):Int))]∧As w w'∧(AI w' ak [.slice ae es.length ce,.slice am ms.length cm,.slice ac cl.length cc] 29)∧(AI w' ag [.slice ae2 es2.length ce2,.slice am2 ms2.length cm2,.slice ac2 cl2.length cc2] 29)∧(AI w' ah [.slice none 0 0,.slice none 0 0,.slice none 0 0] 29)∧(AI w' aR [.slice a8 ((AC ms cl ms2 cl2).2.1.length) aa,.slice a9 ((AC ms cl ms2 cl2).2.2.length) ab] 27)∧(AI w' ai [.slice a' (((kB ms cl (es2.take i)).foldl Et (kA es ms2 cl2 es2)).length) c',.slice a8 ((AC ms cl ms2 cl2).2.1.length) aa,.slice a9 ((AC ms cl ms2 cl2).2.2.length) ab] 29)∧(Ag w' 112 a8 aa ((AC ms cl ms2 cl2).2.1))∧(Ag w' 87 a9 ab ((AC ms cl ms2 cl2).2.2))∧(Ag w' 89 a' c' ((kB ms cl (es2.take i)).foldl Et (kA es ms2 cl2 es2)))∧(¬own a' ak)∧(¬own a' ag)∧(¬own a' ah)∧(¬own a' aR)∧(¬own a' ai)∧(∀q_,own a' q_→¬own a8 q_)∧(∀q_,own a' q_→¬own a9 q_)∧(∀q_,own a' q_→w.heap.size≤q_)∧(i≤es2.length)) (fun i=>es2.length-i) 0 ?_ ?_
     ·rw[M2,List.foldl_nil]
      refine⟨_,_,⟨rfl,rfl,rfl,rfl,rfl,rfl,rfl,trivial⟩,K0,a1,a2,a0,a6,a5,a3,a4,ar,ba,bb,bc,be,bg,bh,bi,bj,?_⟩
      ·omega
     clear a1 a2 a0 a6 a5 a3 a4 ar;clear K0;rintro i dx dy ⟨a',c',bH,K0,a1,a2,a0,a6,a5,a3,a4,a7,cj,ck,bl,cn,bI,bJ,bK,bL,hi⟩ ih2;obtain⟨ρ₀,rfl⟩:=bH.ex;clear bH;refine jG ?_;refine jF ?_ ?_
     ·intro hc76
      refine BP ?_;obtain⟨dz,dA,y,hy,co,bm⟩:=hse2.eo i;have hc_162_lt:=bm.lt;refine jV (AQ underlying23 ty89 rfl rfl co Zl) ?_;replace bm:=bm.ext K0;refine jG ?_;refine jR<|jA ?_;intro dB dC an bn aG;have dD:=Aj a1.lt an;have dE:=Aj a2.lt an;have dF:=Aj a0.lt an;have dG:=Aj a6.lt an;have dH:=Aj a5.lt an;have dI:=Aj bm.lt an;have cp:=Ak a3.own_lt an;have cq:=Ak a4.own_lt an;have cr:=Ak a7.own_lt an;have:=Nat.le_trans K0.size an;clear an;refine jR<|jS bn ?_;intro dJ bn aH;replace a1:=(a1.ext aG).kp aH;refine jG ?_;replace K0:=(K0.ext aG).n1 aH;refine jR<|jC (Pq am ms cm ac cl cc ((y).dot) _ (hs.ext K0) (ht.ext K0) Zo Zo hcA.ctx) ?_;rintro _ dK ⟨rfl,aw⟩;refine jG ?_;replace a2:=((a2.ext aG).kp aH).ext aw;replace a0:=((a0.ext aG).kp aH).ext aw;replace a6:=((a6.ext aG).kp aH).ext aw;replace a5:=((a5.ext aG).kp aH).ext aw;replace a3:=((a3.ext aG).keepO aH (Aa cp)).ext aw;replace a4:=((a4.ext aG).keepO aH (Aa cq)).ext aw;replace a7:=((a7.ext aG).keepO aH (Aa cr)).ext aw;replace a1:=a1.ext aw;replace bn:=bn.ext aw;replace K0:=K0.ext aw;refine jF ?_ ?_
      ·intro hc84
       have hkl:=kA_len (es:=es) (ms2:=ms2) (cl2:=cl2) (es2:=es2);have hkl2:=M4 (ms:=ms) (cl:=cl) (es2:=es2) (i:=i);have hkl3:=NT (kB ms cl (es2.take i)) (kA es ms2 cl2 es2);refine jG ?_;refine jR<|jC (RZ _ ((kB ms cl (es2.take i)).foldl Et (kA es ms2 cl2 es2)) _ y _ a7.sl Zo) ?_;rintro _ dL ⟨dM,dN,rfl,bC,aI,aJ⟩;have ct:=Ae aI a1.lt;have cu:=Ae aI a2.lt;have cv:=Ae aI a0.lt;have cw:=Ae aI a6.lt;have bM:=Ae aI a5.lt;have cx:=Ab aI a3.own_lt;have cy:=Ab aI a4.own_lt;have cz:=Az K0.size aI;clear aI;refine jG ?_;replace a5:=a5.ext aJ;refine jR<|jS a5 ?_;intro dO a5 aK;refine jG ?_;refine jV (Ay (c:=((i+1:Nat):Int)) (Aq rfl rfl Zo Zo) rfl) ?_;refine jG ?_;have e:=HG (ms:=ms) (cl:=cl) hy;rw[if_neg hc84]at e;refine ih2 (i+1) _ _ ?_ Zo;rw[e,List.foldl_append];replace a1:=(a1.ext aJ).kp aK;replace a2:=(a2.ext aJ).kp aK;replace a0:=(a0.ext aJ).kp aK;replace a6:=(a6.ext aJ).kp aK;replace a3:=(a3.ext aJ).keepO aK (Aa bz);replace a4:=(a4.ext aJ).keepO aK (Aa bA);replace a7:=(a7.ext aJ).keepO aK (Aa bI);replace K0:=(K0.ext aJ).n1 aK;replace bC:=bC.keepO aK (Aa bM);refine⟨_,_,⟨rfl,rfl,rfl,rfl,rfl,rfl,rfl,trivial⟩,K0,a1,a2,a0,a6,a5,a3,a4,bC,ct,cu,cv,cw,bM,cx,cy,cz,?_⟩
       ·omega
      ·intro hc84
       refine jG ?_;refine jV (Ay (c:=((i+1:Nat):Int)) (Aq rfl rfl Zo Zo) rfl) ?_;refine jG ?_;have e:=HG (ms:=ms) (cl:=cl) hy;rw[if_pos hc84,List.append_nil]at e;refine ih2 (i+1) _ _ ?_ Zo;rw[e];refine⟨_,_,⟨rfl,rfl,rfl,rfl,rfl,rfl,rfl,trivial⟩,K0,a1,a2,a0,a6,a5,a3,a4,a7,cj,ck,bl,cn,bI,bJ,bK,bL,?_⟩
       ·omega
     ·intro hc76
      refine BP ?_;by_cases hF:64<(Br ms cl es ms2 cl2 es2).length∨32<itemsN (Br ms cl es ms2 cl2 es2)
      ·have hje:=EX (ms:=ms) (cl:=cl) (ms2:=ms2) (cl2:=cl2)
       have hkp:=kept_len (ms:=ms) (cl:=cl) (es:=es) (ms2:=ms2) (cl2:=cl2) (es2:=es2);have cA:(kB ms cl (es2.take i)).foldl Et (kA es ms2 cl2 es2)=(Br ms cl es ms2 cl2 es2):=by rw[List.take_of_length_le Zo];exact KY hcA hcB
       rw[cA]at a7 a5;refine jG ?_;refine jR<|jC (Po a8 ((AC ms cl ms2 cl2).2.1) aa a9 ((AC ms cl ms2 cl2).2.2) ab a' (Br ms cl es ms2 cl2 es2) c' _ a3.sl a4.sl a7.sl Zo Zo Zo hF) ?_;rintro _ dP ⟨rfl,aL⟩;refine jG ?_;refine jR<|jA ?_;intro dQ dR ax bN aM;replace a1:=a1.ext aL;have dS:=Aj a1.lt ax;replace a2:=a2.ext aL;have dT:=Aj a2.lt ax;replace a0:=a0.ext aL;have dU:=Aj a0.lt ax;replace a6:=a6.ext aL;have dV:=Aj a6.lt ax;replace a5:=a5.ext aL;have dW:=Aj a5.lt ax;replace a3:=a3.ext aL;have cB:=Ak a3.own_lt ax;replace a4:=a4.ext aL;have cC:=Ak a4.own_lt ax;replace a7:=a7.ext aL;have cD:=Ak a7.own_lt ax;replace K0:=K0.ext aL;have:=Nat.le_trans K0.size ax;clear ax;refine jR<|jS bN ?_;intro dX bN aN;refine jG ?_;refine CE ?_;refine jG ?_;refine jV (Ar (cells:=#[.slice none 0 0,.slice none 0 0,.slice none 0 0]) Zk) ?_;refine jG ?_;replace a0:=(a0.ext aM).kp aN;refine jR<|jS a0 ?_;intro dY a0 aW;refine jG ?_;refine Al.retCT (x:= .int .i64 51) (cs:=#[.slice none 0 0,.slice none 0 0,.slice none 0 0]) func94 rfl ty29 rfl rfl a0.cl rfl ?_;rw[HL hc24 hc30 hc42 hF];replace a1:=((a1.ext aM).kp aN).kp aW;replace a2:=((a2.ext aM).kp aN).kp aW;replace a6:=((a6.ext aM).kp aN).kp aW;replace a5:=((a5.ext aM).kp aN).kp aW;replace a3:=((a3.ext aM).keepO aN (Aa cB)).keepO aW (Aa b8);replace a4:=((a4.ext aM).keepO aN (Aa cC)).keepO aW (Aa b9);replace a7:=((a7.ext aM).keepO aN (Aa cD)).keepO aW (Aa bl);replace K0:=((K0.ext aM).n1 aN).n1 aW;exact⟨_,rfl,none,0,none,0,none,0,rfl,Ag.nil _ _,Ag.nil _ _,Ag.nil _ _,fun _ h_=>absurd h_ (Ad _),fun _ h_=>absurd h_ (Ad _),fun _ h_=>absurd h_ (Ad _),fun _ h_=>absurd h_ (Ad _),fun _ h_=>absurd h_ (Ad _),fun _ h_=>absurd h_ (Ad _),K0⟩
      ·have hje:=EX (ms:=ms) (cl:=cl) (ms2:=ms2) (cl2:=cl2)
       have hkp:=kept_len (ms:=ms) (cl:=cl) (es:=es) (ms2:=ms2) (cl2:=cl2) (es2:=es2);have cE:(kB ms cl (es2.take i)).foldl Et (kA es ms2 cl2 es2)=(Br ms cl es ms2 cl2 es2):=by rw[List.take_of_length_le Zo];exact KY hcA hcB
       rw[cE]at a7 a5;refine jG ?_;refine jR<|jC (Pp a8 ((AC ms cl ms2 cl2).2.1) aa a9 ((AC ms cl ms2 cl2).2.2) ab a' (Br ms cl es ms2 cl2 es2) c' _ a3.sl a4.sl a7.sl Zo Zo Zo hF) ?_;rintro _ dZ ⟨rfl,aO⟩;refine jG ?_;refine jR<|jA ?_;intro bO e0 ay ad aP;replace a1:=a1.ext aO;have e1:=Aj a1.lt ay;replace a2:=a2.ext aO;have e2:=Aj a2.lt ay;replace a0:=a0.ext aO;have e3:=Aj a0.lt ay;replace a6:=a6.ext aO;have e4:=Aj a6.lt ay;replace a5:=a5.ext aO;have e5:=Aj a5.lt ay;replace a3:=a3.ext aO;have cF:=Ak a3.own_lt ay;replace a4:=a4.ext aO;have cG:=Ak a4.own_lt ay;replace a7:=a7.ext aO;have cH:=Ak a7.own_lt ay;replace K0:=K0.ext aO;have:=Nat.le_trans K0.size ay;clear ay;refine jR<|jS ad ?_;intro e6 ad aQ;refine jG ?_;refine Al.condF rfl ?_;replace a1:=(a1.ext aP).kp aQ;refine jG ?_;replace a2:=(a2.ext aP).kp aQ;replace a0:=(a0.ext aP).kp aQ;replace a6:=(a6.ext aP).kp aQ;replace a5:=(a5.ext aP).kp aQ;replace a3:=(a3.ext aP).keepO aQ (Aa cF);replace a4:=(a4.ext aP).keepO aQ (Aa cG);replace a7:=(a7.ext aP).keepO aQ (Aa cH);replace K0:=(K0.ext aP).n1 aQ;refine Al.loop (ι:=Nat) (fun i ρ' w'=>AG ρ' [(3,jp ag),(4,jp ah),(10,jp ai),(101,.slice ae es.length ce),(102,.int .i64 ((es.length:Nat):Int)),(103,.int .i64 ((i:Nat):Int))]∧As w w'∧(AI w' ak [.slice ae es.length ce,.slice am ms.length cm,.slice ac cl.length cc] 29)∧(AI w' ag [.slice ae2 es2.length ce2,.slice am2 ms2.length cm2,.slice ac2 cl2.length cc2] 29)∧(AI w' ah [.slice none 0 0,.slice none 0 0,.slice none 0 0] 29)∧(AI w' aR [.slice a8 ((AC ms cl ms2 cl2).2.1.length) aa,.slice a9 ((AC ms cl ms2 cl2).2.2.length) ab] 27)∧(AI w' ai [.slice a' ((Br ms cl es ms2 cl2 es2).length) c',.slice a8 ((AC ms cl ms2 cl2).2.1.length) aa,.slice a9 ((AC ms cl ms2 cl2).2.2.length) ab] 29)∧(AI w' bO [.slice a' ((Br ms cl es ms2 cl2 es2).length) c',.slice a8 ((AC ms cl ms2 cl2).2.1.length) aa,.slice a9 ((AC ms cl ms2 cl2).2.2.length) ab] 29)∧(Ag w' 112 a8 aa ((AC ms cl ms2 cl2).2.1))∧(Ag w' 87 a9 ab ((AC ms cl ms2 cl2).2.2))∧(Ag w' 89 a' c' (Br ms cl es ms2 cl2 es2))∧(i≤es.length)∧(∀j,j<i→∀x,es[j]? =some x→∀y∈es2,¬(x.dot=y.dot∧x≠y))) (fun i=>es.length-i) 0 ?_ ?_
       ·refine⟨⟨rfl,rfl,rfl,rfl,rfl,rfl,trivial⟩,K0,a1,a2,a0,a6,a5,ad,a3,a4,a7,?_,?_⟩
        ·omega
        ·exact fun j hj=>absurd hj (Nat.not_lt_zero j)
       clear a1 a2 a0 a6 a5 a3 a4 a7 ad;clear K0;rintro i e7 e8 ⟨bP,K0,a1,a2,a0,a6,a5,ad,a3,a4,a7,hi,hcl⟩ ih3;obtain⟨ρ₀,rfl⟩:=bP.ex;clear bP;refine jG ?_;refine jF ?_ ?_
       ·intro hc104
        refine BP ?_;obtain⟨e9,ea,x,hx,cI,bo⟩:=hse.eo i;have hc_245_lt:=bo.lt;refine jV (AQ underlying23 ty89 rfl rfl cI Zl) ?_;replace bo:=bo.ext K0;refine jG ?_;refine jR<|jA ?_;intro bQ eb aj ao az;have ec:=Aj a1.lt aj;have ed:=Aj a2.lt aj;have ee:=Aj a0.lt aj;have ef:=Aj a6.lt aj;have eg:=Aj a5.lt aj;have eh:=Aj ad.lt aj;have ei:=Aj bo.lt aj;have cJ:=Ak a3.own_lt aj;have cK:=Ak a4.own_lt aj;have cL:=Ak a7.own_lt aj;have:=Nat.le_trans K0.size aj;clear aj;refine jR<|jS ao ?_;intro ej ao aA;replace a2:=(a2.ext az).kp aA;refine jG ?_;replace a1:=(a1.ext az).kp aA;replace a0:=(a0.ext az).kp aA;replace a6:=(a6.ext az).kp aA;replace a5:=(a5.ext az).kp aA;replace ad:=(ad.ext az).kp aA;replace a3:=(a3.ext az).keepO aA (Aa cJ);replace a4:=(a4.ext az).keepO aA (Aa cK);replace a7:=(a7.ext az).keepO aA (Aa cL);replace K0:=(K0.ext az).n1 aA;refine Al.loop (ι:=Nat) (fun q ρ' w'=>AG ρ' [(3,jp ag),(4,jp ah),(10,jp ai),(18,jp bQ),(101,.slice ae es.length ce),(102,.int .i64 ((es.length:Nat):Int)),(103,.int .i64 ((i:Nat):Int)),(104,.bool (decide (((i:Nat):Int)<((es.length:Nat):Int)))),(108,.slice ae2 es2.length ce2),(109,.int .i64 ((es2.length:Nat):Int)),(110,.int .i64 ((q:Nat):Int))]∧As w w'∧(AI w' ak [.slice ae es.length ce,.slice am ms.length cm,.slice ac cl.length cc] 29)∧(AI w' ag [.slice ae2 es2.length ce2,.slice am2 ms2.length cm2,.slice ac2 cl2.length cc2] 29)∧(AI w' ah [.slice none 0 0,.slice none 0 0,.slice none 0 0] 29)∧(AI w' aR [.slice a8 ((AC ms cl ms2 cl2).2.1.length) aa,.slice a9 ((AC ms cl ms2 cl2).2.2.length) ab] 27)∧(AI w' ai [.slice a' ((Br ms cl es ms2 cl2 es2).length) c',.slice a8 ((AC ms cl ms2 cl2).2.1.length) aa,.slice a9 ((AC ms cl ms2 cl2).2.2.length) ab] 29)∧(AI w' bO [.slice a' ((Br ms cl es ms2 cl2 es2).length) c',.slice a8 ((AC ms cl ms2 cl2).2.1.length) aa,.slice a9 ((AC ms cl ms2 cl2).2.2.length) ab] 29)∧(AI w' bQ [.string ((x).item),.int .i64 (((x).dot).node),.int .i64 (((x).dot).life),.int .i64 (((x).dot).count),.int .i64 ((x).qty),.int .u64 ((x).price)] 89)∧(Ag w' 112 a8 aa ((AC ms cl ms2 cl2).2.1))∧(Ag w' 87 a9 ab ((AC ms cl ms2 cl2).2.2))∧(Ag w' 89 a' c' (Br ms cl es ms2 cl2 es2))∧(q≤es2.length)∧(∀j,j<q→∀y,es2[j]? =some y→¬(x.dot=y.dot∧x≠y))) (fun q=>es2.length-q) 0 ?_ ?_
        ·refine⟨⟨rfl,rfl,rfl,rfl,rfl,rfl,rfl,rfl,rfl,rfl,rfl,trivial⟩,K0,a1,a2,a0,a6,a5,ad,ao,a3,a4,a7,?_,?_⟩
         ·omega
         ·exact fun j hj=>absurd hj (Nat.not_lt_zero j)
        clear a1 a2 a0 a6 a5 ad a3 a4 a7 ao;clear K0;rintro q ek em ⟨bR,K0,a1,a2,a0,a6,a5,ad,ao,a3,a4,a7,hq,hcl2⟩ ih4;obtain⟨ρ₀,rfl⟩:=bR.ex;clear bR;refine jG ?_;refine jF ?_ ?_
        ·intro hc111
         refine BP ?_;obtain⟨en,ep,y,hy,cM,bp⟩:=hse2.eo q;have hc_271_lt:=bp.lt;refine jV (AQ underlying23 ty89 rfl rfl cM Zl) ?_;replace bp:=bp.ext K0;refine jG ?_;refine jR<|jA ?_;intro er et af bS ap;have eu:=Aj a1.lt af;have ev:=Aj a2.lt af;have ew:=Aj a0.lt af;have ey:=Aj a6.lt af;have ez:=Aj a5.lt af;have eA:=Aj ad.lt af;have eB:=Aj ao.lt af;have eC:=Aj bp.lt af;have cN:=Ak a3.own_lt af;have cO:=Ak a4.own_lt af;have cP:=Ak a7.own_lt af;have:=Nat.le_trans K0.size af;clear af;refine jR<|jS bS ?_;intro eD bS aq;replace ao:=(ao.ext ap).kp aq;refine jG ?_;refine jV (Ev Zk rfl rfl (CF ((x).dot) ((y).dot))) ?_;refine jG ?_;refine jW ?_ (hx:=by exact fun hg=>(Ew Zk (Bh hg) (Bh hg) (Eb x y)));refine jV (AN rfl rfl rfl) ?_;refine jG ?_;replace a1:=(a1.ext ap).kp aq;replace a2:=(a2.ext ap).kp aq;replace a0:=(a0.ext ap).kp aq;replace a6:=(a6.ext ap).kp aq;replace a5:=(a5.ext ap).kp aq;replace ad:=(ad.ext ap).kp aq;replace a3:=(a3.ext ap).keepO aq (Aa cN);replace a4:=(a4.ext ap).keepO aq (Aa cO);replace a7:=(a7.ext ap).keepO aq (Aa cP);replace K0:=(K0.ext ap).n1 aq;refine jF ?_ ?_
         ·intro hc123
          refine jG ?_;refine jV (Ar (cells:=#[.slice none 0 0,.slice none 0 0,.slice none 0 0]) Zk) ?_;refine jR<|jS a0 ?_;intro eE a0 aB;refine jG ?_;refine Al.retCT (x:= .int .i64 50) (cs:=#[.slice none 0 0,.slice none 0 0,.slice none 0 0]) func94 rfl ty29 rfl rfl a0.cl rfl ?_;rw[HM hc24 hc30 hc42 hF (K1 hx hy hc123.1 hc123.2)];replace a1:=a1.kp aB;replace a2:=a2.kp aB;replace a6:=a6.kp aB;replace a5:=a5.kp aB;replace ad:=ad.kp aB;replace ao:=ao.kp aB;replace a3:=a3.keepO aB (Aa b8);replace a4:=a4.keepO aB (Aa b9);replace a7:=a7.keepO aB (Aa bl);replace K0:=K0.n1 aB;exact⟨_,rfl,none,0,none,0,none,0,rfl,Ag.nil _ _,Ag.nil _ _,Ag.nil _ _,fun _ h_=>absurd h_ (Ad _),fun _ h_=>absurd h_ (Ad _),fun _ h_=>absurd h_ (Ad _),fun _ h_=>absurd h_ (Ad _),fun _ h_=>absurd h_ (Ad _),fun _ h_=>absurd h_ (Ad _),K0⟩
         ·intro hc123
          refine jG ?_;refine jV (Ay (c:=((q+1:Nat):Int)) (Aq rfl rfl Zo Zo) rfl) ?_;refine jG ?_;refine ih4 (q+1) _ _ ?_ Zo;refine⟨⟨rfl,rfl,rfl,rfl,rfl,rfl,rfl,rfl,rfl,rfl,rfl,trivial⟩,K0,a1,a2,a0,a6,a5,ad,ao,a3,a4,a7,?_,?_⟩
          ·omega
          ·exact Bq hcl2 (DW hy (fun h_=>hc123.elim (fun h2=>h2 h_.1) (fun h2=>h_.2 h2)))
        ·intro hc111
         refine jG ?_;refine jV (Ay (c:=((i+1:Nat):Int)) (Aq rfl rfl Zo Zo) rfl) ?_;refine jG ?_;refine ih3 (i+1) _ _ ?_ Zo;refine⟨⟨rfl,rfl,rfl,rfl,rfl,rfl,trivial⟩,K0,a1,a2,a0,a6,a5,ad,a3,a4,a7,?_,?_⟩
         ·omega
         ·exact Bq hcl (DW hx (Ei hcl2 Zo))
       ·intro hc104
        refine jG ?_;refine jR<|jS a0 ?_;intro eF a0 bq;refine jG ?_;refine Al.retCT (x:= .int .i64 0) (cs:=#[.slice a' ((Br ms cl es ms2 cl2 es2).length) c',.slice a8 ((AC ms cl ms2 cl2).2.1.length) aa,.slice a9 ((AC ms cl ms2 cl2).2.2.length) ab]) func94 rfl ty29 rfl rfl a0.cl rfl ?_;rw[GJ hc24 hc30 hc42 hF (KZ hcl Zo)];replace a3:=a3.keepO bq (Aa b8);replace a4:=a4.keepO bq (Aa b9);replace a7:=a7.keepO bq (Aa bl);replace K0:=K0.n1 bq;exact⟨_,rfl,a',c',a8,aa,a9,ab,rfl,a7,a3,a4,bJ,bK,bU,bL,bV,bW,K0⟩
end Go.Proofs.YtocgdeefgohdhaaGreat
