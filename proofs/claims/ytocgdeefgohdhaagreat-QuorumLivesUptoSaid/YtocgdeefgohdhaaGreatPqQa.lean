/-
  Qa, Qb
-/
import Derived.Test.YtocgdeefgohdhaaGreatRows
import Derived.Test.YtocgdeefgohdhaaGreatPqCs
import Derived.Test.YtocgdeefgohdhaaGreatPqI
set_option linter.all false
set_option maxRecDepth 100000
set_option maxHeartbeats 4000000
namespace Go.Proofs.YtocgdeefgohdhaaGreat
open Go.Proofs.Tryz
attribute [local irreducible] RD RS AD RL RA RT BH Al
open Wa
structure Mg where
 v:MV
 s:A6
def Mg.c (m:Mg):Cd:=An m.v m.s
def AA (ts:List Mg):Nat→Prop:=fun q=>∃t∈ts,DK t.s q
structure NW (w:World)(t:Mg):Prop where
 own:F7 w t.s t.v
 apart:IR t.s
 ok:Fl t.v
structure Be (w:World)(ts:List Mg):Prop where
 all:∀t∈ts,NW w t
 apart:ts.Pairwise (fun f g=>∀q,DK f.s q→¬DK g.s q)
def Aw (s:A6):Nat→Prop:=fun q=>own s.ea q∨(own s.ma q∨own s.ca q)
def AP (s:A6)(v:MV):Nat→Prop:=fun q=>(v.ent≠ []∧own s.ea q)∨(v.mrk≠ []∧own s.ma q)∨(v.cl≠ []∧own s.ca q)
structure AE (w:World)(s:A6)(v:MV):Prop where
 ent:At w s.ea v.ent
 mrk:At w s.ma v.mrk
 cl:At w s.ca v.cl
structure BF (w:World)(s:A6)(v:MV):Prop where
 ent:Ag w 89 s.ea s.ec v.ent
 mrk:Ag w 112 s.ma s.mc v.mrk
 cl:Ag w 87 s.ca s.cc v.cl
structure CN (s:A6):Prop where
 em:∀q,own s.ea q→¬own s.ma q
 ec:∀q,own s.ea q→¬own s.ca q
 mc:∀q,own s.ma q→¬own s.ca q
section
variable {w w':World}{S:Nat→Prop}{t p:Mg}{ts ks l1 l2:List Mg}{s:A6}{v:MV}{i:Nat}{a:Option Addr}
theorem cart_case :∀q,Aw s q→own s.ea q∨(own s.ma q∨own s.ca q):=fun _ h=>h
theorem BF.own_lt (h:BF w s v):∀q,Aw s q→q<w.heap.size:=by
 rintro q (hq|hq|hq)
 ·exact h.ent.own_lt q hq
 ·exact h.mrk.own_lt q hq
 ·exact h.cl.own_lt q hq
theorem BF.keepO (h:BF w s v)(k:Ao S w w')(hn:∀q,Aw s q→¬S q):BF w' s v:=
 ⟨h.ent.keepO k fun q hq=>hn q (.inl hq),h.mrk.keepO k fun q hq=>hn q (.inr (.inl hq)),h.cl.keepO k fun q hq=>hn q (.inr (.inr hq))⟩
theorem BF.ext (h:BF w s v)(k:As w w'):BF w' s v:=h.keepO k fun _ _=>id
theorem BF.r (h:BF w s v):AE w s v:=⟨h.ent.sl,h.mrk.sl,h.cl.sl⟩
theorem AE.own_lt (h:AE w s v):∀q,AP s v q→q<w.heap.size:=by
 rintro q (⟨h1,h2⟩|⟨h1,h2⟩|⟨h1,h2⟩)
 ·exact Fv h.ent h1 h2
 ·exact Fv h.mrk h1 h2
 ·exact Fv h.cl h1 h2
theorem AE.keepO (h:AE w s v)(k:Ao S w w')(hn:∀q,AP s v q→¬S q):AE w' s v:=
 ⟨h.ent.keepN k fun x hx he=>hn x.block (.inl ⟨he,x,hx,rfl⟩),h.mrk.keepN k fun x hx he=>hn x.block (.inr (.inl ⟨he,x,hx,rfl⟩)),h.cl.keepN k fun x hx he=>hn x.block (.inr (.inr ⟨he,x,hx,rfl⟩))⟩
theorem cart_d :∀q,AP s v q→Aw s q:=by
 rintro q (h|h|h)
 ·exact .inl h.2
 ·exact .inr (.inl h.2)
 ·exact .inr (.inr h.2)
theorem AE.ext (h:AE w s v)(k:As w w'):AE w' s v:=⟨h.ent.ext k,h.mrk.ext k,h.cl.ext k⟩
theorem Dj.cart (h:Dj w s v):AE w s v:=⟨h.ent,h.mrk,h.cl⟩
theorem F7.cart (h:F7 w s v):BF w s v:=⟨h.ent,h.mrk,h.cl⟩
theorem cart_six :∀q,Aw s q→DK s q:=by
 rintro q (h|h|h)
 ·exact .inl h
 ·exact .inr (.inl h)
 ·exact .inr (.inr (.inl h))
theorem IR.pairs (h:IR s):(∀q,own s.ea q→¬own s.ma q)∧(∀q,own s.ea q→¬own s.ca q)∧(∀q,own s.ea q→¬own s.ba q)∧(∀q,own s.ea q→¬own s.pa q)∧(∀q,own s.ea q→¬own s.sa q)∧(∀q,own s.ma q→¬own s.ca q)∧(∀q,own s.ma q→¬own s.ba q)∧(∀q,own s.ma q→¬own s.pa q)∧(∀q,own s.ma q→¬own s.sa q)∧(∀q,own s.ca q→¬own s.ba q)∧(∀q,own s.ca q→¬own s.pa q)∧(∀q,own s.ca q→¬own s.sa q)∧(∀q,own s.ba q→¬own s.pa q)∧(∀q,own s.ba q→¬own s.sa q)∧(∀q,own s.pa q→¬own s.sa q):=
 ⟨List.pairwise_iff_getElem.1 h 0 1 Zs Zs Zd,List.pairwise_iff_getElem.1 h 0 2 Zs Zs Zd,List.pairwise_iff_getElem.1 h 0 3 Zs Zs Zd,List.pairwise_iff_getElem.1 h 0 4 Zs Zs Zd,List.pairwise_iff_getElem.1 h 0 5 Zs Zs Zd,List.pairwise_iff_getElem.1 h 1 2 Zs Zs Zd,List.pairwise_iff_getElem.1 h 1 3 Zs Zs Zd,List.pairwise_iff_getElem.1 h 1 4 Zs Zs Zd,List.pairwise_iff_getElem.1 h 1 5 Zs Zs Zd,List.pairwise_iff_getElem.1 h 2 3 Zs Zs Zd,List.pairwise_iff_getElem.1 h 2 4 Zs Zs Zd,List.pairwise_iff_getElem.1 h 2 5 Zs Zs Zd,List.pairwise_iff_getElem.1 h 3 4 Zs Zs Zd,List.pairwise_iff_getElem.1 h 3 5 Zs Zs Zd,List.pairwise_iff_getElem.1 h 4 5 Zs Zs Zd⟩
theorem IR.cart (h:IR s):CN s:=by obtain⟨h1,h2,-,-,-,h3,-⟩:=h.pairs;exact⟨h1,h2,h3⟩
theorem NW.keepO (h:NW w t)(k:Ao S w w')(hn:∀q,DK t.s q→¬S q):NW w' t:=⟨h.own.keepO k hn,h.apart,h.ok⟩
theorem Be.own_lt (h:Be w ts):∀q,AA ts q→q<w.heap.size:=fun q ⟨f,hf,hq⟩=>(h.all f hf).own.own_lt q hq
theorem Be.keepO (h:Be w ts)(k:Ao S w w')(hn:∀q,AA ts q→¬S q):Be w' ts:=⟨fun f hf=>(h.all f hf).keepO k (fun q hq=>hn q ⟨f,hf,hq⟩),h.apart⟩
theorem Be.ext (h:Be w ts)(k:As w w'):Be w' ts:=h.keepO k fun _ _=>id
theorem Be.nil (w:World):Be w []:=⟨fun _ h=>absurd h Zs,List.Pairwise.nil⟩
theorem mgs_nil :∀q,¬AA [] q:=fun _ ⟨_,h,_⟩=>absurd h Zs
theorem Be.sub (h:Be w ts)(hs:l1.Sublist ts):Be w l1:=⟨fun f hf=>h.all f (hs.subset hf),h.apart.sublist hs⟩
theorem Be.snoc (h:Be w ts)(ht:NW w t)(hn:∀q,AA ts q→¬DK t.s q):Be w (ts++[t]):=by
 refine⟨fun f hf=> ?_,List.pairwise_append.2 ⟨h.apart,List.pairwise_singleton _ _,fun a ha c hc q h1 h2=> ?_⟩⟩
 ·rcases List.mem_append.1 hf with hf|hf
  ·exact h.all f hf
  ·simp only[List.mem_singleton]at hf;subst hf;exact ht
 ·simp only[List.mem_singleton]at hc;subst hc;exact hn q ⟨a,ha,h1⟩ h2
theorem Is {q:Nat}:AA (ts++[t]) q↔AA ts q∨DK t.s q:=by
 simp only[AA,List.mem_append,List.mem_singleton]
 constructor
 ·rintro⟨f,h|rfl,hq⟩
  ·exact .inl ⟨f,h,hq⟩
  ·exact .inr hq
 ·rintro(⟨f,h,hq⟩|h)
  ·exact⟨f,.inl h,hq⟩
  ·exact⟨t,.inr rfl,h⟩
theorem QI (hs:l1.Sublist ts):∀q,AA l1 q→AA ts q:=fun q ⟨f,hf,hq⟩=>⟨f,hs.subset hf,hq⟩
theorem mid_sub :(l1++l2).Sublist (l1++t::l2):=List.Sublist.append_left (List.sublist_cons_self t l2) l1
theorem Be.open (h:Be w ts)(e:ts=l1++p::l2):NW w p∧Be w (l1++l2)∧∀q,AA (l1++l2) q→¬DK p.s q:=by
 subst e
 refine⟨h.all p Zs,h.sub mid_sub,fun q ⟨f,hf,hq⟩ h2=> ?_⟩
 have hp:=h.apart
 rcases List.mem_append.1 hf with hf|hf
 ·exact(List.pairwise_append.1 hp).2.2 f hf p Zs q hq h2
 ·exact(List.pairwise_cons.1 (List.pairwise_append.1 hp).2.1).1 f hf q h2 hq
theorem Fm (e:ts=l1++p::l2):∀q,DK p.s q→AA ts q:=by subst e;exact fun q h=>⟨p,by simp,h⟩
theorem Rj (e:ts=l1++p::l2):∀q,AA (l1++l2) q→AA ts q:=by subst e;exact QI mid_sub
theorem K7 {x:Cd}(h:(ks.map Mg.c)[i]? =some x):∃p,ks[i]? =some p∧x=An p.v p.s∧(ks.map Mg.v)[i]? =some p.v:=by
 rw[List.getElem?_map,Option.map_eq_some_iff]at h
 obtain⟨p,hp,rfl⟩:=h
 exact⟨p,hp,rfl,by rw[List.getElem?_map,hp];rfl⟩
theorem QJ (hp:ks[i]? =some p):ks.drop i=[]++p::ks.drop (i+1):=by
 obtain⟨hi,rfl⟩:=List.getElem?_eq_some_iff.1 hp
 rw[List.nil_append,List.getElem_cons_drop]
def G9 (w:World)(ks:List Mg):Prop:=∀m∈ks,Dj w m.s m.v∧Fl m.v
theorem Be.r (h:Be w ks):G9 w ks:=fun m hm=>⟨(h.all m hm).own.r,(h.all m hm).ok⟩
theorem G9.ext (h:G9 w ks)(k:As w w'):G9 w' ks:=fun m hm=>⟨(h m hm).1.ext k,(h m hm).2⟩
theorem Pw {a b:List MV}{x:MV}(h:a.take i=b.take i)(h1:a[i]? =some x)(h2:b[i]? =some x):a.take (i+1)=b.take (i+1):=by
 obtain⟨k1,e1⟩:=List.getElem?_eq_some_iff.1 h1
 obtain⟨k2,e2⟩:=List.getElem?_eq_some_iff.1 h2
 rw[List.take_succ_eq_append_getElem k1,List.take_succ_eq_append_getElem k2,h,e1,e2]
theorem Px {a b:List MV}{x y:MV}(h1:a[i]? =some x)(h2:b[i]? =some y)(hn:¬x=y):¬a=b:=fun e=>by
 subst e;rw[h1]at h2;exact hn (Option.some.inj h2)
end
attribute [local irreducible] X
theorem K8 (v:MV)(s:A6)(w:World)(hR:AE w s v)(hv:Fl v):
  Calls prog 65 #[.agg #[.slice s.ma v.mrk.length s.mc,.slice s.ca v.cl.length s.cc]] w (AU (fun r w'=>∃a0 c0 a1 c1,r= .agg #[.slice a0 v.mrk.length c0,.slice a1 v.cl.length c1]∧Ag w' 112 a0 c0 v.mrk∧Ag w' 87 a1 c1 v.cl∧(∀q,own a0 q→¬own a1 q)∧(∀q,own a0 q→w.heap.size≤q)∧(∀q,own a1 q→w.heap.size≤q)∧As w w')):=by
 have hv0:=hv;obtain⟨hv1,hv2,hv3,hv4,hv5,hv6⟩:=hv;refine Af (n:=10) func65 rfl rfl rfl ?_;refine jG ?_;refine jR<|jB ?_;intro ak aq ai a3 aj;have:w.heap.size≤ak:=ai;clear ai;have K0:=(aj:As w _);refine jR<|jA ?_;intro ar au a4 a2 aa;have av:=Aj a3.lt a4;replace hR:=hR.ext aj;have aw:=Ak hR.own_lt a4;have:=Nat.le_trans K0.size a4;clear a4;refine jG ?_;refine Al.drawS [7] [0,1001,3,1004,2002,2005,6,2007] ?_;intro ax a5;replace a3:=(a3.ext aa).ext a5;refine jM (jb a3 Jn) ?_;refine jG ?_;replace hR:=(hR.ext aa).ext a5;refine jU rfl<|jC (I9 _ _ _ _ (hR).mrk Zo) ?_;rintro _ ay ⟨ab,ac,rfl,a6,ad,a7⟩;replace a2:=a2.ext a5;have al:=Ae ad a2.lt;replace K0:=(K0.ext aa).ext a5;have am:=Az K0.size ad;clear ad;replace a3:=a3.ext a7;refine jG ?_;replace hR:=hR.ext a7;refine jU rfl<|jC (JN _ _ _ _ (hR).cl Zo) ?_;rintro _ az ⟨ae,af,rfl,ag,a8,a9⟩;replace a2:=a2.ext a7;have an:=Ae a8 a2.lt;have ao:=Ab a8 a6.own_lt;replace K0:=K0.ext a7;have ap:=Az K0.size a8;clear a8;replace a3:=a3.ext a9;refine jG ?_;refine jP ?_ (hx:=by exact fun _=>(Ar (cells:=#[.slice ab v.mrk.length ac,.slice ae v.cl.length af]) Zk));replace a2:=a2.ext a9;refine jU rfl<|jS a2 ?_;intro aA a2 ah;refine jG ?_;refine Al.retC (cs:=#[.slice ab v.mrk.length ac,.slice ae v.cl.length af]) func65 rfl ty27 rfl rfl a2.cl ?_;replace a6:=(a6.ext a9).keepO ah (Aa al);replace K0:=(K0.ext a9).n1 ah;replace ag:=ag.keepO ah (Aa an);exact⟨_,rfl,ab,ac,ae,af,rfl,a6,ag,(Zf ao),am,ap,K0⟩
theorem SL (v:MV)(s:A6)(w:World)(hR:AE w s v)(hv:Fl v):
  Calls prog 27 #[.agg #[.slice s.ea v.ent.length s.ec,.slice s.ma v.mrk.length s.mc,.slice s.ca v.cl.length s.cc]] w (AU (fun r w'=>∃a0 c0 a1 c1 a2 c2,r= .agg #[.slice a0 v.ent.length c0,.slice a1 v.mrk.length c1,.slice a2 v.cl.length c2]∧Ag w' 89 a0 c0 v.ent∧Ag w' 112 a1 c1 v.mrk∧Ag w' 87 a2 c2 v.cl∧(∀q,own a0 q→¬own a1 q)∧(∀q,own a0 q→¬own a2 q)∧(∀q,own a1 q→¬own a2 q)∧(∀q,own a0 q→w.heap.size≤q)∧(∀q,own a1 q→w.heap.size≤q)∧(∀q,own a2 q→w.heap.size≤q)∧As w w')):=by
 have hv0:=hv;obtain⟨hv1,hv2,hv3,hv4,hv5,hv6⟩:=hv;refine Af (n:=10) func27 rfl rfl rfl ?_;refine jG ?_;refine jR<|jB ?_;intro ap aB an a4 ao;have:w.heap.size≤ap:=an;clear an;have K0:=(ao:As w _);refine jR<|jA ?_;intro aC aD a6 a3 ad;have aE:=Aj a4.lt a6;replace hR:=hR.ext ao;have aF:=Ak hR.own_lt a6;have:=Nat.le_trans K0.size a6;clear a6;refine jG ?_;refine Al.drawS [7] [0,1001,3,1004,2002,2005,6,2007] ?_;intro aG a7;replace a4:=(a4.ext ad).ext a7;refine jM (jb a4 Jn) ?_;refine jG ?_;replace hR:=(hR.ext ad).ext a7;refine jU rfl<|jC (G1 _ _ _ _ (hR).ent Zo) ?_;rintro _ aH ⟨ae,af,rfl,a5,ag,a8⟩;replace a3:=a3.ext a7;have aq:=Ae ag a3.lt;replace K0:=(K0.ext ad).ext a7;have ar:=Az K0.size ag;clear ag;replace a4:=a4.ext a8;refine jG ?_;replace hR:=hR.ext a8;refine jU rfl<|jC (K8 v s _ hR Za) ?_;rintro _ aI ⟨ah,ai,aj,ak,rfl,al,am,au,a9,aa,ab⟩;replace a3:=a3.ext a8;have av:=Ae a9 a3.lt;have aw:=Ab a9 a5.own_lt;replace K0:=K0.ext a8;have ax:=Az K0.size a9;have ay:=Ae aa a3.lt;have az:=Ab aa a5.own_lt;have aA:=Az K0.size aa;clear a9 aa;replace a4:=a4.ext ab;refine jG ?_;refine jP ?_ (hx:=by exact fun _=>(Ar (cells:=#[.slice ae v.ent.length af,.slice ah v.mrk.length ai,.slice aj v.cl.length ak]) Zk));replace a3:=a3.ext ab;refine jU rfl<|jS a3 ?_;intro aJ a3 ac;refine jG ?_;refine Al.retC (cs:=#[.slice ae v.ent.length af,.slice ah v.mrk.length ai,.slice aj v.cl.length ak]) func27 rfl ty29 rfl rfl a3.cl ?_;replace a5:=(a5.ext ab).keepO ac (Aa aq);replace K0:=(K0.ext ab).n1 ac;replace al:=al.keepO ac (Aa av);replace am:=am.keepO ac (Aa ay);exact⟨_,rfl,ae,af,ah,ai,aj,ak,rfl,a5,al,am,(Zf aw),(Zf az),au,ar,ax,aA,K0⟩
theorem DX (v:MV)(s:A6)(w:World)(hR:AE w s v)(hv:Fl v):
  Calls prog 27 #[.agg #[.slice s.ea v.ent.length s.ec,.slice s.ma v.mrk.length s.mc,.slice s.ca v.cl.length s.cc]] w (AU (fun r w'=>∃s',r= .agg #[.slice s'.ea v.ent.length s'.ec,.slice s'.ma v.mrk.length s'.mc,.slice s'.ca v.cl.length s'.cc]∧BF w' s' v∧CN s'∧(∀q,Aw s' q→w.heap.size≤q)∧As w w')):=by
 have hv0:=hv;obtain⟨hv1,hv2,hv3,hv4,hv5,hv6⟩:=hv;refine Af (n:=10) func27 rfl rfl rfl ?_;refine jG ?_;refine jR<|jB ?_;intro am az ak a1 al;have:w.heap.size≤am:=ak;clear ak;have K0:=(al:As w _);refine jR<|jA ?_;intro aA aB a5 a0 aa;have aC:=Aj a1.lt a5;replace hR:=hR.ext al;have an:=Ak hR.own_lt a5;have:=Nat.le_trans K0.size a5;clear a5;refine jG ?_;refine Al.drawS [7] [0,1001,3,1004,2002,2005,6,2007] ?_;intro aD a6;replace a1:=(a1.ext aa).ext a6;refine jM (jb a1 Jn) ?_;refine jG ?_;replace hR:=(hR.ext aa).ext a6;refine jU rfl<|jC (G1 _ _ _ _ (hR).ent Zo) ?_;rintro _ aE ⟨ab,ac,rfl,a2,ad,a7⟩;replace a0:=a0.ext a6;have ao:=Ae ad a0.lt;replace K0:=(K0.ext aa).ext a6;have ap:=Az K0.size ad;clear ad;replace a1:=a1.ext a7;refine jG ?_;replace hR:=hR.ext a7;refine jU rfl<|jC (K8 v s _ hR Za) ?_;rintro _ aF ⟨ae,af,ag,ah,rfl,ai,aj,aq,a8,a9,a3⟩;replace a0:=a0.ext a7;have ar:=Ae a8 a0.lt;have au:=Ab a8 a2.own_lt;replace K0:=K0.ext a7;have av:=Az K0.size a8;have aw:=Ae a9 a0.lt;have ax:=Ab a9 a2.own_lt;have ay:=Az K0.size a9;clear a8 a9;replace a1:=a1.ext a3;refine jG ?_;refine jP ?_ (hx:=by exact fun _=>(Ar (cells:=#[.slice ab v.ent.length ac,.slice ae v.mrk.length af,.slice ag v.cl.length ah]) Zk));replace a0:=a0.ext a3;refine jU rfl<|jS a0 ?_;intro aG a0 a4;refine jG ?_;refine Al.retC (cs:=#[.slice ab v.ent.length ac,.slice ae v.mrk.length af,.slice ag v.cl.length ah]) func27 rfl ty29 rfl rfl a0.cl ?_;replace hR:=(hR.ext a3).keepO a4 (Aa an);replace a2:=(a2.ext a3).keepO a4 (Aa ao);replace K0:=(K0.ext a3).n1 a4;replace ai:=ai.keepO a4 (Aa ar);replace aj:=aj.keepO a4 (Aa aw)
 exact⟨_,rfl,⟨ab,ac,ae,af,ag,ah,none,0,none,0,none,0⟩,rfl,⟨a2,ai,aj⟩,⟨(Zf au),(Zf ax),aq⟩,fun q hq=>by
  rcases hq with hq|hq|hq
  ·exact ap q hq
  ·exact av q hq
  ·exact ay q hq,K0⟩
theorem SM (v:MV)(s:A6)(w:World)(hR:Dj w s v)(hv:Fl v):
  Calls prog 46 #[.agg #[.int .i64 (((An v s).ring).parts),.int .i64 (((An v s).ring).copies),.int .i64 (((An v s).ring).spots),.slice s.ba v.mem.length s.bc]] w (AU (fun r w'=>∃a0 c0,r= .agg #[.int .i64 (((An v s).ring).parts),.int .i64 (((An v s).ring).copies),.int .i64 (((An v s).ring).spots),.slice a0 v.mem.length c0]∧Ag w' 131 a0 c0 v.mem∧(∀q,own a0 q→w.heap.size≤q)∧As w w')):=by
 have hv0:=hv;obtain⟨hv1,hv2,hv3,hv4,hv5,hv6⟩:=hv;refine Af (n:=8) func46 rfl rfl rfl ?_;refine jG ?_;refine jR<|jB ?_;intro ae ai a5 a1 aa;have aj:=Ak hR.own_lt a5;have:w.heap.size≤ae:=a5;clear a5;have K0:=(aa:As w _);refine jR<|jA ?_;intro ak al a3 a2 a6;have am:=Aj a1.lt a3;replace hR:=hR.ext aa;have an:=Ak hR.own_lt a3;have:=Nat.le_trans K0.size a3;clear a3;replace a1:=a1.ext a6;refine jG ?_;replace hR:=hR.ext a6;refine jR<|jC (Nv _ _ _ _ (hR).mem Zo) ?_;rintro _ ao ⟨ab,ac,rfl,a7,a4,a8⟩;have af:=Ae a4 a1.lt;have ag:=Ae a4 a2.lt;replace K0:=K0.ext a6;have ah:=Az K0.size a4;clear a4;refine jG ?_;replace a1:=a1.ext a8;refine jR<|jS a1 ?_;intro ap a1 a9;refine jG ?_;replace a2:=(a2.ext a8).kp a9;refine jR<|jS a2 ?_;intro aq a2 ad;refine jG ?_;refine Al.retC (cs:=#[.int .i64 (((An v s).ring).parts),.int .i64 (((An v s).ring).copies),.int .i64 (((An v s).ring).spots),.slice ab v.mem.length ac]) func46 rfl ty44 rfl rfl a2.cl ?_;replace K0:=((K0.ext a8).n1 a9).n1 ad;replace a7:=(a7.keepO a9 (Aa af)).keepO ad (Aa ag);exact⟨_,rfl,ab,ac,rfl,a7,ah,K0⟩
theorem DP (v:MV)(s:A6)(w:World)(hR:AE w s v)(hv:Fl v):
  Calls prog 45 #[.agg #[.slice s.ea v.ent.length s.ec,.slice s.ma v.mrk.length s.mc,.slice s.ca v.cl.length s.cc]] w (AU (fun r w'=>∃s',r= .agg #[.slice s'.ea v.ent.length s'.ec,.slice s'.ma v.mrk.length s'.mc,.slice s'.ca v.cl.length s'.cc]∧BF w' s' v∧CN s'∧(∀q,Aw s' q→w.heap.size≤q)∧As w w')):=by
 have hv0:=hv;obtain⟨hv1,hv2,hv3,hv4,hv5,hv6⟩:=hv;refine Af (n:=16) func45 rfl rfl rfl ?_;refine jG ?_;refine jR<|jB ?_;intro an aA al a1 am;have:w.heap.size≤an:=al;clear al;have K0:=(am:As w _);refine jR<|jA ?_;intro aB aC a7 a0 ag;have aD:=Aj a1.lt a7;replace hR:=hR.ext am;have ao:=Ak hR.own_lt a7;have:=Nat.le_trans K0.size a7;clear a7;refine jG ?_;refine Al.drawS [13] [0,1001,3,4,1005,7,8,1009,2002,2006,2010,11,12,2013] ?_;intro aE a8;replace a1:=(a1.ext ag).ext a8;refine jM (jb a1 Jn) ?_;refine jG ?_;replace hR:=(hR.ext ag).ext a8;refine jU rfl<|jC (G1 _ _ _ _ (hR).ent Zo) ?_;rintro _ aF ⟨ah,ai,rfl,a2,aj,a9⟩;replace a0:=a0.ext a8;have ap:=Ae aj a0.lt;replace K0:=(K0.ext ag).ext a8;have aq:=Az K0.size aj;clear aj;replace a1:=a1.ext a9;refine jG ?_;replace hR:=hR.ext a9;refine jU rfl<|jC (I9 _ _ _ _ (hR).mrk Zo) ?_;rintro _ aG ⟨aa,ab,rfl,ac,ad,a4⟩;replace a0:=a0.ext a9;have ar:=Ae ad a0.lt;have au:=Ab ad a2.own_lt;replace K0:=K0.ext a9;have av:=Az K0.size ad;clear ad;replace a1:=a1.ext a4;refine jG ?_;replace hR:=hR.ext a4;refine jU rfl<|jC (JN _ _ _ _ (hR).cl Zo) ?_;rintro _ aH ⟨ae,af,rfl,ak,a5,a3⟩;replace a0:=a0.ext a4;have aw:=Ae a5 a0.lt;replace a2:=a2.ext a4;have ax:=Ab a5 a2.own_lt;have ay:=Ab a5 ac.own_lt;replace K0:=K0.ext a4;have az:=Az K0.size a5;clear a5;replace a1:=a1.ext a3;refine jG ?_;refine jP ?_ (hx:=by exact fun _=>(Ar (cells:=#[.slice aa v.mrk.length ab,.slice ae v.cl.length af]) Zk));refine jP ?_ (hx:=by exact fun _=>(Ar (cells:=#[.slice ah v.ent.length ai,.slice aa v.mrk.length ab,.slice ae v.cl.length af]) Zk));replace a0:=a0.ext a3;refine jU rfl<|jS a0 ?_;intro aI a0 a6;refine jG ?_;refine Al.retC (cs:=#[.slice ah v.ent.length ai,.slice aa v.mrk.length ab,.slice ae v.cl.length af]) func45 rfl ty29 rfl rfl a0.cl ?_;replace hR:=(hR.ext a3).keepO a6 (Aa ao);replace a2:=(a2.ext a3).keepO a6 (Aa ap);replace ac:=(ac.ext a3).keepO a6 (Aa ar);replace K0:=(K0.ext a3).n1 a6;replace ak:=ak.keepO a6 (Aa aw)
 exact⟨_,rfl,⟨ah,ai,aa,ab,ae,af,none,0,none,0,none,0⟩,rfl,⟨a2,ac,ak⟩,⟨(Zf au),(Zf ax),(Zf ay)⟩,fun q hq=>by
  rcases hq with hq|hq|hq
  ·exact aq q hq
  ·exact av q hq
  ·exact az q hq,K0⟩
theorem Tg (v:MV)(s:A6)(w:World)(hR:Dj w s v)(hv:Fl v):
  Calls prog 12 #[.agg #[.int .i64 ((An v s).kind),.int .i64 ((An v s).frm),.int .i64 ((An v s).to),.int .i64 ((An v s).req),.string ((An v s).key),.slice s.ea v.ent.length s.ec,.slice s.ma v.mrk.length s.mc,.slice s.ca v.cl.length s.cc,.int .i64 ((An v s).owner),.int .i64 ((An v s).part),.int .i64 ((An v s).n),.int .i64 (((An v s).ring).parts),.int .i64 (((An v s).ring).copies),.int .i64 (((An v s).ring).spots),.slice s.ba v.mem.length s.bc,.slice s.pa v.pe.length s.pc,.slice s.sa v.su.length s.sc]] w (AU (fun r w'=>∃s',r= .agg #[.int .i64 ((An v s').kind),.int .i64 ((An v s').frm),.int .i64 ((An v s').to),.int .i64 ((An v s').req),.string ((An v s').key),.slice s'.ea v.ent.length s'.ec,.slice s'.ma v.mrk.length s'.mc,.slice s'.ca v.cl.length s'.cc,.int .i64 ((An v s').owner),.int .i64 ((An v s').part),.int .i64 ((An v s').n),.int .i64 (((An v s').ring).parts),.int .i64 (((An v s').ring).copies),.int .i64 (((An v s').ring).spots),.slice s'.ba v.mem.length s'.bc,.slice s'.pa v.pe.length s'.pc,.slice s'.sa v.su.length s'.sc]∧F7 w' s' v∧IR s'∧(∀q,DK s' q→w.heap.size≤q)∧As w w')):=by
 have hv0:=hv;obtain⟨hv1,hv2,hv3,hv4,hv5,hv6⟩:=hv;refine Af (n:=20) func12 rfl rfl rfl ?_;refine jG ?_;refine jR<|jB ?_;intro aO bl aw a0 az;have ai:=Ak hR.own_lt aw;have:w.heap.size≤aO:=aw;clear aw;have K0:=(az:As w _);refine jR<|jA ?_;intro bm bn aj a1 ax;have bo:=Aj a0.lt aj;replace hR:=hR.ext az;have aP:=Ak hR.own_lt aj;have:=Nat.le_trans K0.size aj;clear aj;refine jG ?_;refine Al.drawS [7] [0,1001,3,1004,2002,6,2005,2007,8,2009] ?_;intro bp ak;replace a0:=(a0.ext ax).ext ak;refine jM (jb a0 Jn) ?_;refine jG ?_;replace hR:=(hR.ext ax).ext ak;refine jU rfl<|jC (SL v s _ hR.cart Za) ?_;rintro _ bq ⟨aA,aB,aC,aD,aE,aF,rfl,a2,a3,a4,aQ,aR,aS,al,am,an,ao⟩;have ap:=Ae al a0.lt;replace a1:=a1.ext ak;have aT:=Ae al a1.lt;replace K0:=(K0.ext ax).ext ak;have aU:=Az K0.size al;have aq:=Ae am a0.lt;have aV:=Ae am a1.lt;have aW:=Az K0.size am;have ar:=Ae an a0.lt;have aX:=Ae an a1.lt;have aY:=Az K0.size an;clear al am an;replace a0:=a0.ext ao;refine jG ?_;replace hR:=hR.ext ao;refine jU rfl<|jC (SM v s _ hR Za) ?_;rintro _ bs ⟨aG,aH,rfl,a5,ae,af⟩;have au:=Ae ae a0.lt;replace a1:=a1.ext ao;have aZ:=Ae ae a1.lt;have b0:=Ab ae a2.own_lt;have b1:=Ab ae a3.own_lt;have b2:=Ab ae a4.own_lt;replace K0:=K0.ext ao;have b3:=Az K0.size ae;clear ae;replace a0:=a0.ext af;refine jG ?_;refine jU rfl<|jS a0 ?_;intro bt a0 ag;refine jG ?_;refine jU rfl<|jS a0 ?_;intro bu a0 ah;refine jG ?_;refine Al.drawS [7] [0,1001,3,1004,2002,6,2005,2007,8,2009] ?_;intro bv aa;replace a0:=a0.ext aa;refine jM (jb a0 Jn) ?_;refine jG ?_;replace hR:=(((hR.ext af).keepO ag (Aa ai)).keepO ah (Aa ai)).ext aa;refine jU rfl<|jC (OB _ _ _ _ (hR).pe Zo) ?_;rintro _ bw ⟨aI,aJ,rfl,av,ab,ac⟩;have aK:=Ae ab a0.lt;replace a1:=(((a1.ext af).kp ag).kp ah).ext aa;have b4:=Ae ab a1.lt;replace a2:=(((a2.ext af).keepO ag (Aa ap)).keepO ah (Aa ap)).ext aa;have b5:=Ab ab a2.own_lt;replace a3:=(((a3.ext af).keepO ag (Aa aq)).keepO ah (Aa aq)).ext aa;have b6:=Ab ab a3.own_lt;replace a4:=(((a4.ext af).keepO ag (Aa ar)).keepO ah (Aa ar)).ext aa;have b7:=Ab ab a4.own_lt;replace a5:=((a5.keepO ag (Aa au)).keepO ah (Aa au)).ext aa;have b8:=Ab ab a5.own_lt;replace K0:=(((K0.ext af).n1 ag).n1 ah).ext aa;have b9:=Az K0.size ab;clear ab;replace a0:=a0.ext ac;refine jG ?_;replace hR:=hR.ext ac;refine jU rfl<|jC (OD _ _ _ _ (hR).su Zo) ?_;rintro _ bx ⟨aL,aM,rfl,ay,a6,a7⟩;have aN:=Ae a6 a0.lt;replace a1:=a1.ext ac;have bb:=Ae a6 a1.lt;replace a2:=a2.ext ac;have be:=Ab a6 a2.own_lt;replace a3:=a3.ext ac;have bg:=Ab a6 a3.own_lt;replace a4:=a4.ext ac;have bh:=Ab a6 a4.own_lt;replace a5:=a5.ext ac;have bi:=Ab a6 a5.own_lt;have bj:=Ab a6 av.own_lt;replace K0:=K0.ext ac;have bk:=Az K0.size a6;clear a6;replace a0:=a0.ext a7;refine jG ?_;refine jU rfl<|jS a0 ?_;intro bz a0 a8;refine jG ?_;refine jU rfl<|jS a0 ?_;intro bA a0 a9;refine jG ?_;replace a1:=((a1.ext a7).kp a8).kp a9;refine jR<|jS a1 ?_;intro bB a1 ad;refine jG ?_;refine Al.retC (cs:=#[.int .i64 ((An v s).kind),.int .i64 ((An v s).frm),.int .i64 ((An v s).to),.int .i64 ((An v s).req),.string ((An v s).key),.slice aA v.ent.length aB,.slice aC v.mrk.length aD,.slice aE v.cl.length aF,.int .i64 ((An v s).owner),.int .i64 ((An v s).part),.int .i64 ((An v s).n),.int .i64 (((An v s).ring).parts),.int .i64 (((An v s).ring).copies),.int .i64 (((An v s).ring).spots),.slice aG v.mem.length aH,.slice aI v.pe.length aJ,.slice aL v.su.length aM]) func12 rfl ty48 rfl rfl a1.cl ?_;replace hR:=(((hR.ext a7).keepO a8 (Aa ai)).keepO a9 (Aa ai)).keepO ad (Aa aP);replace a2:=(((a2.ext a7).keepO a8 (Aa ap)).keepO a9 (Aa ap)).keepO ad (Aa aT)
 replace a3:=(((a3.ext a7).keepO a8 (Aa aq)).keepO a9 (Aa aq)).keepO ad (Aa aV);replace a4:=(((a4.ext a7).keepO a8 (Aa ar)).keepO a9 (Aa ar)).keepO ad (Aa aX);replace a5:=(((a5.ext a7).keepO a8 (Aa au)).keepO a9 (Aa au)).keepO ad (Aa aZ);replace av:=(((av.ext a7).keepO a8 (Aa aK)).keepO a9 (Aa aK)).keepO ad (Aa b4);replace K0:=(((K0.ext a7).n1 a8).n1 a9).n1 ad;replace ay:=((ay.keepO a8 (Aa aN)).keepO a9 (Aa aN)).keepO ad (Aa bb)
 exact⟨_,rfl,⟨aA,aB,aC,aD,aE,aF,aG,aH,aI,aJ,aL,aM⟩,rfl,⟨a2,a3,a4,a5,av,ay⟩,(List.pairwise_cons.2 ⟨(List.forall_mem_cons.2 ⟨aQ,(List.forall_mem_cons.2 ⟨aR,(List.forall_mem_cons.2 ⟨(Zf b0),(List.forall_mem_cons.2 ⟨(Zf b5),(List.forall_mem_cons.2 ⟨(Zf be),(fun _ h=>absurd h List.not_mem_nil)⟩)⟩)⟩)⟩)⟩),(List.pairwise_cons.2 ⟨(List.forall_mem_cons.2 ⟨aS,(List.forall_mem_cons.2 ⟨(Zf b1),(List.forall_mem_cons.2 ⟨(Zf b6),(List.forall_mem_cons.2 ⟨(Zf bg),(fun _ h=>absurd h List.not_mem_nil)⟩)⟩)⟩)⟩),(List.pairwise_cons.2 ⟨(List.forall_mem_cons.2 ⟨(Zf b2),(List.forall_mem_cons.2 ⟨(Zf b7),(List.forall_mem_cons.2 ⟨(Zf bh),(fun _ h=>absurd h List.not_mem_nil)⟩)⟩)⟩),(List.pairwise_cons.2 ⟨(List.forall_mem_cons.2 ⟨(Zf b8),(List.forall_mem_cons.2 ⟨(Zf bi),(fun _ h=>absurd h List.not_mem_nil)⟩)⟩),(List.pairwise_cons.2 ⟨(List.forall_mem_cons.2 ⟨(Zf bj),(fun _ h=>absurd h List.not_mem_nil)⟩),(List.pairwise_cons.2 ⟨(fun _ h=>absurd h List.not_mem_nil),List.Pairwise.nil⟩)⟩)⟩)⟩)⟩)⟩),fun q hq=>by
  rcases hq with hq|hq|hq|hq|hq|hq
  ·exact aU q hq
  ·exact aW q hq
  ·exact aY q hq
  ·exact b3 q hq
  ·exact b9 q hq
  ·exact bk q hq,K0⟩
end Go.Proofs.YtocgdeefgohdhaaGreat
namespace Go.Proofs.YtocgdeefgohdhaaGreat
open Go.Proofs.Tryz
attribute [local irreducible] RD RS AD RL RA RT BH Al
theorem QK {a b:List Mg}(h:¬a.length=b.length):¬a.map Mg.v=b.map Mg.v:=fun e=>h (by simpa using congrArg List.length e)
theorem QL {a b:List Mg}{i:Nat}(h:(a.map Mg.v).take i=(b.map Mg.v).take i)(h1:a.length≤i)(h2:a.length=b.length):a.map Mg.v=b.map Mg.v:=by
 rwa[List.take_of_length_le (by simpa using h1),List.take_of_length_le (by simpa using(show b.length≤i by omega))]at h
theorem TK {a b:List MV}:a.take 0=b.take 0:=rfl
attribute [local irreducible] X
theorem Py (id knd qty price:Int)(key item:ByteArray)(v:MV)(s:A6)(w:World)(hR:AE w s v)(hv:Fl v):
  Calls prog 26 #[.agg #[.int .i64 id,.int .i64 knd,.string key,.string item,.int .i64 qty,.int .u64 price,.slice s.ea v.ent.length s.ec,.slice s.ma v.mrk.length s.mc,.slice s.ca v.cl.length s.cc]] w (AU (fun r w'=>∃s',r= .agg #[.int .i64 id,.int .i64 knd,.string key,.string item,.int .i64 qty,.int .u64 price,.slice s'.ea v.ent.length s'.ec,.slice s'.ma v.mrk.length s'.mc,.slice s'.ca v.cl.length s'.cc]∧BF w' s' v∧CN s'∧(∀q,Aw s' q→w.heap.size≤q)∧As w w')):=by
 refine Af (n:=8) func26 rfl rfl rfl ?_;refine jG ?_;refine jR<|jB ?_;intro ac ah a5 a0 aa;have ai:=Ak hR.own_lt a5;have:w.heap.size≤ac:=a5;clear a5;have K0:=(aa:As w _);refine jR<|jA ?_;intro aj ak a3 a2 a6;have al:=Aj a0.lt a3;replace hR:=hR.ext aa;have am:=Ak hR.own_lt a3;have:=Nat.le_trans K0.size a3;clear a3;replace a0:=a0.ext a6;refine jG ?_;replace hR:=hR.ext a6;refine jR<|jC (DX v s _ hR Za) ?_;rintro _ an ⟨a1,rfl,a7,ad,a4,a8⟩;have ae:=Ae a4 a0.lt;have af:=Ae a4 a2.lt;replace K0:=K0.ext a6;have ag:=Az K0.size a4;clear a4;refine jG ?_;replace a0:=a0.ext a8;refine jR<|jS a0 ?_;intro ao a0 a9;refine jG ?_;replace a2:=(a2.ext a8).kp a9;refine jR<|jS a2 ?_;intro ap a2 ab;refine jG ?_;refine Al.retC (cs:=#[.int .i64 id,.int .i64 knd,.string key,.string item,.int .i64 qty,.int .u64 price,.slice a1.ea v.ent.length a1.ec,.slice a1.ma v.mrk.length a1.mc,.slice a1.ca v.cl.length a1.cc]) func26 rfl ty31 rfl rfl a2.cl ?_;replace K0:=((K0.ext a8).n1 a9).n1 ab;replace a7:=(a7.keepO a9 (Aa ae)).keepO ab (Aa af);exact⟨_,rfl,a1,rfl,a7,ad,ag,K0⟩
theorem QM (a:Option Addr)(ks:List Mg)(c:Nat)(d:Option Addr)(qs:List Mg)(e:Nat)(w:World)(hs:At w a (ks.map Mg.c))(ht:At w d (qs.map Mg.c))(hks:G9 w ks)(hqs:G9 w qs)(hl:ks.length≤4294967295):
  Calls prog 58 #[.slice a ((ks.map Mg.c).length) c,.slice d ((qs.map Mg.c).length) e,.func (.func 23) #[] #[]] w (AU (fun v w'=>v= .bool (decide (ks.map Mg.v=qs.map Mg.v))∧As w w')):=by
 have hkc:(ks.map Mg.c).length=ks.length:=List.length_map ..;have hqc:(qs.map Mg.c).length=qs.length:=List.length_map ..;refine Af (n:=32) func58 rfl rfl rfl ?_;refine jG ?_;refine jF ?_ ?_
 ·intro hc14
  refine jG ?_;refine jJ func58 ?_;exact⟨_,rfl,by rw[decide_eq_false (QK Zo)],(Ao.refl _ w)⟩
 ·intro hc14
  refine jG ?_;refine Al.loop (ι:=Nat) (fun i ρ' w'=>AG ρ' [(1,.slice d ((qs.map Mg.c).length) e),(2,.func (.func 23) #[] #[]),(15,.slice a ((ks.map Mg.c).length) c),(16,.int .i64 (((ks.map Mg.c).length:Nat):Int)),(17,.int .i64 ((i:Nat):Int))]∧As w w'∧(i≤ks.length)∧((ks.map Mg.v).take i=(qs.map Mg.v).take i)) (fun i=>ks.length-i) 0 ?_ ?_
  ·refine⟨⟨rfl,rfl,rfl,rfl,rfl,trivial⟩,(Ao.refl _ w),?_,?_⟩
   ·omega
   ·exact TK
  rintro i ag ah ⟨a5,K0,hi,hno⟩ ih1;obtain⟨ρ₀,rfl⟩:=a5.ex;clear a5;refine jG ?_;refine jF ?_ ?_
  ·intro hc18
   obtain⟨x0,hx0m⟩:∃x,(ks.map Mg.c)[i]? =some x:=⟨_,List.getElem?_eq_getElem (by simp only[List.length_map]at*;omega)⟩;obtain⟨m,hmm,hxe,hvm⟩:=K7 hx0m;subst hxe;obtain⟨x0,hx0u⟩:∃x,(qs.map Mg.c)[i]? =some x:=⟨_,List.getElem?_eq_getElem (by simp only[List.length_map]at*;omega)⟩;obtain⟨u,hmu,hxe,hvu⟩:=K7 hx0u;subst hxe;obtain⟨ai,aj,a9,aa,ak,a0⟩:=hs.eo i;have hc_7_lt:=a0.lt;obtain rfl:(An m.v m.s)=a9:=Option.some.inj (hx0m.symm.trans aa);refine CU ?_;replace a0:=a0.ext K0;refine jV (CD (v:= .agg #[.int .i64 ((An m.v m.s).kind),.int .i64 ((An m.v m.s).frm),.int .i64 ((An m.v m.s).to),.int .i64 ((An m.v m.s).req),.string ((An m.v m.s).key),.slice m.s.ea m.v.ent.length m.s.ec,.slice m.s.ma m.v.mrk.length m.s.mc,.slice m.s.ca m.v.cl.length m.s.cc,.int .i64 ((An m.v m.s).owner),.int .i64 ((An m.v m.s).part),.int .i64 ((An m.v m.s).n),.int .i64 (((An m.v m.s).ring).parts),.int .i64 (((An m.v m.s).ring).copies),.int .i64 (((An m.v m.s).ring).spots),.slice m.s.ba m.v.mem.length m.s.bc,.slice m.s.pa m.v.pe.length m.s.pc,.slice m.s.sa m.v.su.length m.s.sc]) (y:=(An m.v m.s)) ty48 rfl a0 rfl) ?_;refine jR<|jA ?_;intro al am a4 a1 ab;have an:=Aj a0.lt a4;have:=Nat.le_trans K0.size a4;clear a4;refine jG ?_;refine jR<|jS a1 ?_;intro ao a1 ac;obtain⟨ap,aq,ad,ae,ar,a2⟩:=ht.eo i;have hc_21_lt:=a2.lt;replace K0:=(K0.ext ab).n1 ac;obtain rfl:(An u.v u.s)=ad:=Option.some.inj (hx0u.symm.trans ae);refine CU ?_;refine Cc ?_;replace a2:=a2.ext K0;refine jV (CD (v:= .agg #[.int .i64 ((An u.v u.s).kind),.int .i64 ((An u.v u.s).frm),.int .i64 ((An u.v u.s).to),.int .i64 ((An u.v u.s).req),.string ((An u.v u.s).key),.slice u.s.ea u.v.ent.length u.s.ec,.slice u.s.ma u.v.mrk.length u.s.mc,.slice u.s.ca u.v.cl.length u.s.cc,.int .i64 ((An u.v u.s).owner),.int .i64 ((An u.v u.s).part),.int .i64 ((An u.v u.s).n),.int .i64 (((An u.v u.s).ring).parts),.int .i64 (((An u.v u.s).ring).copies),.int .i64 (((An u.v u.s).ring).spots),.slice u.s.ba u.v.mem.length u.s.bc,.slice u.s.pa u.v.pe.length u.s.pc,.slice u.s.sa u.v.su.length u.s.sc]) (y:=(An u.v u.s)) ty48 rfl a2 rfl) ?_;refine jR<|jA ?_;intro au av a3 a6 a7;have aw:=Aj a1.lt a3;have ax:=Aj a2.lt a3;have:=Nat.le_trans K0.size a3;clear a3;refine jR<|jS a6 ?_;intro ay a6 a8;replace a1:=(a1.ext a7).kp a8;refine jG ?_;replace K0:=(K0.ext a7).n1 a8;refine jR<|AD.callV (vals:=[.agg #[.int .i64 ((An m.v m.s).kind),.int .i64 ((An m.v m.s).frm),.int .i64 ((An m.v m.s).to),.int .i64 ((An m.v m.s).req),.string ((An m.v m.s).key),.slice m.s.ea m.v.ent.length m.s.ec,.slice m.s.ma m.v.mrk.length m.s.mc,.slice m.s.ca m.v.cl.length m.s.cc,.int .i64 ((An m.v m.s).owner),.int .i64 ((An m.v m.s).part),.int .i64 ((An m.v m.s).n),.int .i64 (((An m.v m.s).ring).parts),.int .i64 (((An m.v m.s).ring).copies),.int .i64 (((An m.v m.s).ring).spots),.slice m.s.ba m.v.mem.length m.s.bc,.slice m.s.pa m.v.pe.length m.s.pc,.slice m.s.sa m.v.su.length m.s.sc],.agg #[.int .i64 ((An u.v u.s).kind),.int .i64 ((An u.v u.s).frm),.int .i64 ((An u.v u.s).to),.int .i64 ((An u.v u.s).req),.string ((An u.v u.s).key),.slice u.s.ea u.v.ent.length u.s.ec,.slice u.s.ma u.v.mrk.length u.s.mc,.slice u.s.ca u.v.cl.length u.s.cc,.int .i64 ((An u.v u.s).owner),.int .i64 ((An u.v u.s).part),.int .i64 ((An u.v u.s).n),.int .i64 (((An u.v u.s).ring).parts),.int .i64 (((An u.v u.s).ring).copies),.int .i64 (((An u.v u.s).ring).spots),.slice u.s.ba u.v.mem.length u.s.bc,.slice u.s.pa u.v.pe.length u.s.pc,.slice u.s.sa u.v.su.length u.s.sc]]) en23.h rfl rfl (H6 m.v u.v m.s u.s _ ((hks m (AT hmm)).1.ext K0) ((hqs u (AT hmu)).1.ext K0) (hks m (AT hmm)).2) ?_
   rintro _ az ⟨rfl,af⟩;refine jG ?_;replace K0:=K0.ext af;refine jF ?_ ?_
   ·intro hc30
    refine jG ?_;refine jJ func58 ?_;exact⟨_,rfl,by rw[decide_eq_false (Px hvm hvu hc30)],K0⟩
   ·intro hc30
    refine jG ?_;refine jV (Ay (c:=((i+1:Nat):Int)) (Aq rfl rfl Zo Zo) rfl) ?_;refine jG ?_;refine ih1 (i+1) _ _ ?_ Zo;refine⟨⟨rfl,rfl,rfl,rfl,rfl,trivial⟩,K0,?_,?_⟩
    ·omega
    ·exact Pw hno hvm (hc30▸hvu)
  ·intro hc18
   refine jG ?_;refine jJ func58 ?_;exact⟨_,rfl,by rw[decide_eq_true (QL hno Zo Zo)],K0⟩
theorem Ee (a:Option Addr)(ks:List Mg)(c:Nat)(d:Option Addr)(qs:List Mg)(e:Nat)(w:World)(hs:At w a (ks.map Mg.c))(ht:At w d (qs.map Mg.c))(hks:G9 w ks)(hqs:G9 w qs)(hl:ks.length≤4294967295):
  Calls prog 20 #[.slice a ((ks.map Mg.c).length) c,.slice d ((qs.map Mg.c).length) e] w (AU (fun v w'=>v= .bool (decide (ks.map Mg.v=qs.map Mg.v))∧As w w')):=by
 refine Af (n:=8) func20 rfl rfl rfl ?_;refine jG ?_;refine jR<|jC (QM _ ks _ _ qs _ _ hs ht hks hqs Zo) ?_;rintro _ a1 ⟨rfl,a0⟩;have K0:=(a0:As w _);refine jG ?_;refine jJ func20 ?_;exact⟨_,rfl,rfl,K0⟩
end Go.Proofs.YtocgdeefgohdhaaGreat
