/-
  Qa, Qb
-/
import Derived.Test.YtocgdeefgohdhaaGreatRows
import Derived.Test.YtocgdeefgohdhaaGreatPkCt
import Derived.Test.YtocgdeefgohdhaaGreatPkI
set_option linter.all false
set_option maxRecDepth 100000
set_option maxHeartbeats 4000000
namespace Go.Proofs.YtocgdeefgohdhaaGreat
attribute [local irreducible] RD RS St1 RL RA RT RT1 Run
open Wa
structure Mg where
 v:MV
 s:Six
def Mg.c (m:Mg):MsgC:=mkC m.v m.s
def mgsS (ts:List Mg):Nat→Prop:=fun q=>∃t∈ts,ownS t.s q
structure MgAt (w:World)(t:Mg):Prop where
 own:SixO w t.s t.v
 apart:SixA t.s
 ok:VOk t.v
structure MgsAt (w:World)(ts:List Mg):Prop where
 all:∀t∈ts,MgAt w t
 apart:ts.Pairwise (fun f g=>∀q,ownS f.s q→¬ownS g.s q)
def cartS (s:Six):Nat→Prop:=fun q=>own s.ea q∨(own s.ma q∨own s.ca q)
def cartD (s:Six)(v:MV):Nat→Prop:=fun q=>(v.ent≠ []∧own s.ea q)∨(v.mrk≠ []∧own s.ma q)∨(v.cl≠ []∧own s.ca q)
structure CartR (w:World)(s:Six)(v:MV):Prop where
 ent:SlOf w s.ea v.ent
 mrk:SlOf w s.ma v.mrk
 cl:SlOf w s.ca v.cl
structure CartO (w:World)(s:Six)(v:MV):Prop where
 ent:OwnSl w 89 s.ea s.ec v.ent
 mrk:OwnSl w 112 s.ma s.mc v.mrk
 cl:OwnSl w 87 s.ca s.cc v.cl
structure CartA (s:Six):Prop where
 em:∀q,own s.ea q→¬own s.ma q
 ec:∀q,own s.ea q→¬own s.ca q
 mc:∀q,own s.ma q→¬own s.ca q
section
variable {w w':World}{S:Nat→Prop}{t p:Mg}{ts ks l1 l2:List Mg}{s:Six}{v:MV}{i:Nat}{a:Option Addr}
theorem cart_case :∀q,cartS s q→own s.ea q∨(own s.ma q∨own s.ca q):=fun _ h=>h
theorem CartO.own_lt (h:CartO w s v):∀q,cartS s q→q<w.heap.size:=by
 rintro q (hq|hq|hq)
 ·exact h.ent.own_lt q hq
 ·exact h.mrk.own_lt q hq
 ·exact h.cl.own_lt q hq
theorem CartO.keepO (h:CartO w s v)(k:Keeps S w w')(hn:∀q,cartS s q→¬S q):CartO w' s v:=
 ⟨h.ent.keepO k fun q hq=>hn q (.inl hq),h.mrk.keepO k fun q hq=>hn q (.inr (.inl hq)),h.cl.keepO k fun q hq=>hn q (.inr (.inr hq))⟩
theorem CartO.ext (h:CartO w s v)(k:Ext w w'):CartO w' s v:=h.keepO k fun _ _=>id
theorem CartO.r (h:CartO w s v):CartR w s v:=⟨h.ent.sl,h.mrk.sl,h.cl.sl⟩
theorem CartR.own_lt (h:CartR w s v):∀q,cartD s v q→q<w.heap.size:=by
 rintro q (⟨h1,h2⟩|⟨h1,h2⟩|⟨h1,h2⟩)
 ·exact sl_lt h.ent h1 h2
 ·exact sl_lt h.mrk h1 h2
 ·exact sl_lt h.cl h1 h2
theorem CartR.keepO (h:CartR w s v)(k:Keeps S w w')(hn:∀q,cartD s v q→¬S q):CartR w' s v:=
 ⟨h.ent.keepN k fun x hx he=>hn x.block (.inl ⟨he,x,hx,rfl⟩),h.mrk.keepN k fun x hx he=>hn x.block (.inr (.inl ⟨he,x,hx,rfl⟩)),h.cl.keepN k fun x hx he=>hn x.block (.inr (.inr ⟨he,x,hx,rfl⟩))⟩
theorem cart_d :∀q,cartD s v q→cartS s q:=by
 rintro q (h|h|h)
 ·exact .inl h.2
 ·exact .inr (.inl h.2)
 ·exact .inr (.inr h.2)
theorem CartR.ext (h:CartR w s v)(k:Ext w w'):CartR w' s v:=⟨h.ent.ext k,h.mrk.ext k,h.cl.ext k⟩
theorem SixR.cart (h:SixR w s v):CartR w s v:=⟨h.ent,h.mrk,h.cl⟩
theorem SixO.cart (h:SixO w s v):CartO w s v:=⟨h.ent,h.mrk,h.cl⟩
theorem SixA.pairs (h:SixA s):(∀q,own s.ea q→¬own s.ma q)∧(∀q,own s.ea q→¬own s.ca q)∧(∀q,own s.ea q→¬own s.ba q)∧(∀q,own s.ea q→¬own s.pa q)∧(∀q,own s.ea q→¬own s.sa q)∧(∀q,own s.ma q→¬own s.ca q)∧(∀q,own s.ma q→¬own s.ba q)∧(∀q,own s.ma q→¬own s.pa q)∧(∀q,own s.ma q→¬own s.sa q)∧(∀q,own s.ca q→¬own s.ba q)∧(∀q,own s.ca q→¬own s.pa q)∧(∀q,own s.ca q→¬own s.sa q)∧(∀q,own s.ba q→¬own s.pa q)∧(∀q,own s.ba q→¬own s.sa q)∧(∀q,own s.pa q→¬own s.sa q):=
 ⟨List.pairwise_iff_getElem.1 h 0 1 (by simp) (by simp) (by decide),List.pairwise_iff_getElem.1 h 0 2 (by simp) (by simp) (by decide),List.pairwise_iff_getElem.1 h 0 3 (by simp) (by simp) (by decide),List.pairwise_iff_getElem.1 h 0 4 (by simp) (by simp) (by decide),List.pairwise_iff_getElem.1 h 0 5 (by simp) (by simp) (by decide),List.pairwise_iff_getElem.1 h 1 2 (by simp) (by simp) (by decide),List.pairwise_iff_getElem.1 h 1 3 (by simp) (by simp) (by decide),List.pairwise_iff_getElem.1 h 1 4 (by simp) (by simp) (by decide),List.pairwise_iff_getElem.1 h 1 5 (by simp) (by simp) (by decide),List.pairwise_iff_getElem.1 h 2 3 (by simp) (by simp) (by decide),List.pairwise_iff_getElem.1 h 2 4 (by simp) (by simp) (by decide),List.pairwise_iff_getElem.1 h 2 5 (by simp) (by simp) (by decide),List.pairwise_iff_getElem.1 h 3 4 (by simp) (by simp) (by decide),List.pairwise_iff_getElem.1 h 3 5 (by simp) (by simp) (by decide),List.pairwise_iff_getElem.1 h 4 5 (by simp) (by simp) (by decide)⟩
theorem SixA.cart (h:SixA s):CartA s:=by obtain⟨h1,h2,-,-,-,h3,-⟩:=h.pairs;exact⟨h1,h2,h3⟩
theorem MgAt.keepO (h:MgAt w t)(k:Keeps S w w')(hn:∀q,ownS t.s q→¬S q):MgAt w' t:=⟨h.own.keepO k hn,h.apart,h.ok⟩
theorem MgsAt.own_lt (h:MgsAt w ts):∀q,mgsS ts q→q<w.heap.size:=fun q ⟨f,hf,hq⟩=>(h.all f hf).own.own_lt q hq
theorem MgsAt.keepO (h:MgsAt w ts)(k:Keeps S w w')(hn:∀q,mgsS ts q→¬S q):MgsAt w' ts:=⟨fun f hf=>(h.all f hf).keepO k (fun q hq=>hn q ⟨f,hf,hq⟩),h.apart⟩
theorem MgsAt.ext (h:MgsAt w ts)(k:Ext w w'):MgsAt w' ts:=h.keepO k fun _ _=>id
theorem MgsAt.nil (w:World):MgsAt w []:=⟨fun _ h=>absurd h (by simp),List.Pairwise.nil⟩
theorem mgs_nil :∀q,¬mgsS [] q:=fun _ ⟨_,h,_⟩=>absurd h (by simp)
theorem MgsAt.sub (h:MgsAt w ts)(hs:l1.Sublist ts):MgsAt w l1:=⟨fun f hf=>h.all f (hs.subset hf),h.apart.sublist hs⟩
theorem MgsAt.snoc (h:MgsAt w ts)(ht:MgAt w t)(hn:∀q,mgsS ts q→¬ownS t.s q):MgsAt w (ts++[t]):=by
 refine⟨fun f hf=> ?_,List.pairwise_append.2 ⟨h.apart,List.pairwise_singleton _ _,fun a ha c hc q h1 h2=> ?_⟩⟩
 ·rcases List.mem_append.1 hf with hf|hf
  ·exact h.all f hf
  ·simp only[List.mem_singleton]at hf;subst hf;exact ht
 ·simp only[List.mem_singleton]at hc;subst hc;exact hn q ⟨a,ha,h1⟩ h2
theorem mgs_snoc {q:Nat}:mgsS (ts++[t]) q↔mgsS ts q∨ownS t.s q:=by
 simp only[mgsS,List.mem_append,List.mem_singleton]
 constructor
 ·rintro⟨f,h|rfl,hq⟩
  ·exact .inl ⟨f,h,hq⟩
  ·exact .inr hq
 ·rintro(⟨f,h,hq⟩|h)
  ·exact⟨f,.inl h,hq⟩
  ·exact⟨t,.inr rfl,h⟩
theorem mgs_sub (hs:l1.Sublist ts):∀q,mgsS l1 q→mgsS ts q:=fun q ⟨f,hf,hq⟩=>⟨f,hs.subset hf,hq⟩
theorem mid_sub :(l1++l2).Sublist (l1++t::l2):=List.Sublist.append_left (List.sublist_cons_self t l2) l1
theorem MgsAt.open (h:MgsAt w ts)(e:ts=l1++p::l2):MgAt w p∧MgsAt w (l1++l2)∧∀q,mgsS (l1++l2) q→¬ownS p.s q:=by
 subst e
 refine⟨h.all p (by simp),h.sub mid_sub,fun q ⟨f,hf,hq⟩ h2=> ?_⟩
 have hp:=h.apart
 rcases List.mem_append.1 hf with hf|hf
 ·exact(List.pairwise_append.1 hp).2.2 f hf p (by simp) q hq h2
 ·exact(List.pairwise_cons.1 (List.pairwise_append.1 hp).2.1).1 f hf q h2 hq
theorem mgs_p (e:ts=l1++p::l2):∀q,ownS p.s q→mgsS ts q:=by subst e;exact fun q h=>⟨p,by simp,h⟩
theorem mgs_r (e:ts=l1++p::l2):∀q,mgsS (l1++l2) q→mgsS ts q:=by subst e;exact mgs_sub mid_sub
theorem c_get {x:MsgC}(h:(ks.map Mg.c)[i]? =some x):∃p,ks[i]? =some p∧x=mkC p.v p.s∧(ks.map Mg.v)[i]? =some p.v:=by
 rw[List.getElem?_map,Option.map_eq_some_iff]at h
 obtain⟨p,hp,rfl⟩:=h
 exact⟨p,hp,rfl,by rw[List.getElem?_map,hp];rfl⟩
theorem drop_at (hp:ks[i]? =some p):ks.drop i=[]++p::ks.drop (i+1):=by
 obtain⟨hi,rfl⟩:=List.getElem?_eq_some_iff.1 hp
 rw[List.nil_append,List.getElem_cons_drop]
def MgsR (w:World)(ks:List Mg):Prop:=∀m∈ks,SixR w m.s m.v∧VOk m.v
theorem MgsAt.r (h:MgsAt w ks):MgsR w ks:=fun m hm=>⟨(h.all m hm).own.r,(h.all m hm).ok⟩
theorem MgsR.ext (h:MgsR w ks)(k:Ext w w'):MgsR w' ks:=fun m hm=>⟨(h m hm).1.ext k,(h m hm).2⟩
theorem take_eqV {a b:List MV}{x:MV}(h:a.take i=b.take i)(h1:a[i]? =some x)(h2:b[i]? =some x):a.take (i+1)=b.take (i+1):=by
 obtain⟨k1,e1⟩:=List.getElem?_eq_some_iff.1 h1
 obtain⟨k2,e2⟩:=List.getElem?_eq_some_iff.1 h2
 rw[List.take_succ_eq_append_getElem k1,List.take_succ_eq_append_getElem k2,h,e1,e2]
theorem ne_takeV {a b:List MV}{x y:MV}(h1:a[i]? =some x)(h2:b[i]? =some y)(hn:¬x=y):¬a=b:=fun e=>by
 subst e;rw[h1]at h2;exact hn (Option.some.inj h2)
end
attribute [local irreducible] X
theorem context_ (v:MV)(s:Six)(w:World)(hR:CartR w s v)(hv:VOk v):
  Calls Tryz.prog 65 #[.agg #[.slice (s.ma) (v.mrk.length) (s.mc),.slice (s.ca) (v.cl.length) (s.cc)]] w (Ret (fun r w'=>∃a0 c0 a1 c1,r= .agg #[.slice a0 v.mrk.length c0,.slice a1 v.cl.length c1]∧OwnSl w' 112 a0 c0 v.mrk∧OwnSl w' 87 a1 c1 v.cl∧(∀q,own a0 q→¬own a1 q)∧(∀q,own a0 q→w.heap.size≤q)∧(∀q,own a1 q→w.heap.size≤q)∧Ext w w')):=by
 have hv0:=hv;obtain⟨hv1,hv2,hv3,hv4,hv5,hv6⟩:=hv;refine calls_run (n:=10) Tryz.func65 rfl rfl rfl ?_;refine jG ?_;refine jR<|jB ?_;intro ak aq ai a3 aj;have:w.heap.size≤ak:=ai;clear ai;have K0:=(aj:Ext w _);refine jR<|jA ?_;intro ar au a4 a2 aa;have av:=ltLe a3.lt a4;replace hR:=hR.ext aj;have aw:=ltNo hR.own_lt a4;have:=Nat.le_trans K0.size a4;clear a4;refine jG ?_;refine Run.drawS [7] [0,1001,3,1004,2002,2005,6,2007] ?_;intro ax a5;replace a3:=(a3.ext aa).ext a5;refine jM (jb a3 Jn) ?_;refine jG ?_;replace hR:=(hR.ext aa).ext a5;refine jU rfl<|jC (clone_mrk _ _ _ _ (hR).mrk (by omega)) ?_;rintro _ ay ⟨ab,ac,rfl,a6,ad,a7⟩;replace a2:=a2.ext a5;have al:=notNew ad a2.lt;replace K0:=(K0.ext aa).ext a5;have am:=geTr K0.size ad;clear ad;replace a3:=a3.ext a7;refine jG ?_;replace hR:=hR.ext a7;refine jU rfl<|jC (clone_c _ _ _ _ (hR).cl (by omega)) ?_;rintro _ az ⟨ae,af,rfl,ag,a8,a9⟩;replace a2:=a2.ext a7;have an:=notNew a8 a2.lt;have ao:=apartNew a8 a6.own_lt;replace K0:=K0.ext a7;have ap:=geTr K0.size a8;clear a8;replace a3:=a3.ext a9;refine jG ?_;refine jP ?_ (hx:=by exact fun _=>(x_build (cells:=#[.slice (ab) (v.mrk.length) (ac),.slice (ae) (v.cl.length) (af)]) (by kernel_rfl)));replace a2:=a2.ext a9;refine jU rfl<|jS a2 ?_;intro aA a2 ah;refine jG ?_;refine Run.retC (cs:=#[.slice (ab) (v.mrk.length) (ac),.slice (ae) (v.cl.length) (af)]) Tryz.func65 rfl ty27 rfl rfl a2.cl ?_;replace a6:=(a6.ext a9).keepO ah (noOne al);replace K0:=(K0.ext a9).n1 ah;replace ag:=ag.keepO ah (noOne an);exact⟨_,rfl,ab,ac,ae,af,rfl,a6,ag,(fun q_ h1 h2=>ao q_ h2 h1),am,ap,K0⟩
theorem cart_ (v:MV)(s:Six)(w:World)(hR:CartR w s v)(hv:VOk v):
  Calls Tryz.prog 27 #[.agg #[.slice (s.ea) (v.ent.length) (s.ec),.slice (s.ma) (v.mrk.length) (s.mc),.slice (s.ca) (v.cl.length) (s.cc)]] w (Ret (fun r w'=>∃a0 c0 a1 c1 a2 c2,r= .agg #[.slice a0 v.ent.length c0,.slice a1 v.mrk.length c1,.slice a2 v.cl.length c2]∧OwnSl w' 89 a0 c0 v.ent∧OwnSl w' 112 a1 c1 v.mrk∧OwnSl w' 87 a2 c2 v.cl∧(∀q,own a0 q→¬own a1 q)∧(∀q,own a0 q→¬own a2 q)∧(∀q,own a1 q→¬own a2 q)∧(∀q,own a0 q→w.heap.size≤q)∧(∀q,own a1 q→w.heap.size≤q)∧(∀q,own a2 q→w.heap.size≤q)∧Ext w w')):=by
 have hv0:=hv;obtain⟨hv1,hv2,hv3,hv4,hv5,hv6⟩:=hv;refine calls_run (n:=10) Tryz.func27 rfl rfl rfl ?_;refine jG ?_;refine jR<|jB ?_;intro ap aB an a4 ao;have:w.heap.size≤ap:=an;clear an;have K0:=(ao:Ext w _);refine jR<|jA ?_;intro aC aD a6 a3 ad;have aE:=ltLe a4.lt a6;replace hR:=hR.ext ao;have aF:=ltNo hR.own_lt a6;have:=Nat.le_trans K0.size a6;clear a6;refine jG ?_;refine Run.drawS [7] [0,1001,3,1004,2002,2005,6,2007] ?_;intro aG a7;replace a4:=(a4.ext ad).ext a7;refine jM (jb a4 Jn) ?_;refine jG ?_;replace hR:=(hR.ext ad).ext a7;refine jU rfl<|jC (clone_ent _ _ _ _ (hR).ent (by omega)) ?_;rintro _ aH ⟨ae,af,rfl,a5,ag,a8⟩;replace a3:=a3.ext a7;have aq:=notNew ag a3.lt;replace K0:=(K0.ext ad).ext a7;have ar:=geTr K0.size ag;clear ag;replace a4:=a4.ext a8;refine jG ?_;replace hR:=hR.ext a8;refine jU rfl<|jC (context_ v s _ hR (by assumption)) ?_;rintro _ aI ⟨ah,ai,aj,ak,rfl,al,am,au,a9,aa,ab⟩;replace a3:=a3.ext a8;have av:=notNew a9 a3.lt;have aw:=apartNew a9 a5.own_lt;replace K0:=K0.ext a8;have ax:=geTr K0.size a9;have ay:=notNew aa a3.lt;have az:=apartNew aa a5.own_lt;have aA:=geTr K0.size aa;clear a9 aa;replace a4:=a4.ext ab;refine jG ?_;refine jP ?_ (hx:=by exact fun _=>(x_build (cells:=#[.slice (ae) (v.ent.length) (af),.slice (ah) (v.mrk.length) (ai),.slice (aj) (v.cl.length) (ak)]) (by kernel_rfl)));replace a3:=a3.ext ab;refine jU rfl<|jS a3 ?_;intro aJ a3 ac;refine jG ?_;refine Run.retC (cs:=#[.slice (ae) (v.ent.length) (af),.slice (ah) (v.mrk.length) (ai),.slice (aj) (v.cl.length) (ak)]) Tryz.func27 rfl ty29 rfl rfl a3.cl ?_;replace a5:=(a5.ext ab).keepO ac (noOne aq);replace K0:=(K0.ext ab).n1 ac;replace al:=al.keepO ac (noOne av);replace am:=am.keepO ac (noOne ay);exact⟨_,rfl,ae,af,ah,ai,aj,ak,rfl,a5,al,am,(fun q_ h1 h2=>aw q_ h2 h1),(fun q_ h1 h2=>az q_ h2 h1),au,ar,ax,aA,K0⟩
theorem cartp_ (v:MV)(s:Six)(w:World)(hR:CartR w s v)(hv:VOk v):
  Calls Tryz.prog 27 #[.agg #[.slice (s.ea) (v.ent.length) (s.ec),.slice (s.ma) (v.mrk.length) (s.mc),.slice (s.ca) (v.cl.length) (s.cc)]] w (Ret (fun r w'=>∃s',r= .agg #[.slice (s'.ea) (v.ent.length) (s'.ec),.slice (s'.ma) (v.mrk.length) (s'.mc),.slice (s'.ca) (v.cl.length) (s'.cc)]∧CartO w' s' v∧CartA s'∧(∀q,cartS s' q→w.heap.size≤q)∧Ext w w')):=by
 have hv0:=hv;obtain⟨hv1,hv2,hv3,hv4,hv5,hv6⟩:=hv;refine calls_run (n:=10) Tryz.func27 rfl rfl rfl ?_;refine jG ?_;refine jR<|jB ?_;intro am az ak a1 al;have:w.heap.size≤am:=ak;clear ak;have K0:=(al:Ext w _);refine jR<|jA ?_;intro aA aB a5 a0 aa;have aC:=ltLe a1.lt a5;replace hR:=hR.ext al;have an:=ltNo hR.own_lt a5;have:=Nat.le_trans K0.size a5;clear a5;refine jG ?_;refine Run.drawS [7] [0,1001,3,1004,2002,2005,6,2007] ?_;intro aD a6;replace a1:=(a1.ext aa).ext a6;refine jM (jb a1 Jn) ?_;refine jG ?_;replace hR:=(hR.ext aa).ext a6;refine jU rfl<|jC (clone_ent _ _ _ _ (hR).ent (by omega)) ?_;rintro _ aE ⟨ab,ac,rfl,a2,ad,a7⟩;replace a0:=a0.ext a6;have ao:=notNew ad a0.lt;replace K0:=(K0.ext aa).ext a6;have ap:=geTr K0.size ad;clear ad;replace a1:=a1.ext a7;refine jG ?_;replace hR:=hR.ext a7;refine jU rfl<|jC (context_ v s _ hR (by assumption)) ?_;rintro _ aF ⟨ae,af,ag,ah,rfl,ai,aj,aq,a8,a9,a3⟩;replace a0:=a0.ext a7;have ar:=notNew a8 a0.lt;have au:=apartNew a8 a2.own_lt;replace K0:=K0.ext a7;have av:=geTr K0.size a8;have aw:=notNew a9 a0.lt;have ax:=apartNew a9 a2.own_lt;have ay:=geTr K0.size a9;clear a8 a9;replace a1:=a1.ext a3;refine jG ?_;refine jP ?_ (hx:=by exact fun _=>(x_build (cells:=#[.slice (ab) (v.ent.length) (ac),.slice (ae) (v.mrk.length) (af),.slice (ag) (v.cl.length) (ah)]) (by kernel_rfl)));replace a0:=a0.ext a3;refine jU rfl<|jS a0 ?_;intro aG a0 a4;refine jG ?_;refine Run.retC (cs:=#[.slice (ab) (v.ent.length) (ac),.slice (ae) (v.mrk.length) (af),.slice (ag) (v.cl.length) (ah)]) Tryz.func27 rfl ty29 rfl rfl a0.cl ?_;replace hR:=(hR.ext a3).keepO a4 (noOne an);replace a2:=(a2.ext a3).keepO a4 (noOne ao);replace K0:=(K0.ext a3).n1 a4;replace ai:=ai.keepO a4 (noOne ar);replace aj:=aj.keepO a4 (noOne aw)
 exact⟨_,rfl,⟨ab,ac,ae,af,ag,ah,none,0,none,0,none,0⟩,rfl,⟨a2,ai,aj⟩,⟨(fun q_ h1 h2=>au q_ h2 h1),(fun q_ h1 h2=>ax q_ h2 h1),aq⟩,fun q hq=>by
  rcases hq with hq|hq|hq
  ·exact ap q hq
  ·exact av q hq
  ·exact ay q hq,K0⟩
theorem ring_ (v:MV)(s:Six)(w:World)(hR:SixR w s v)(hv:VOk v):
  Calls Tryz.prog 46 #[.agg #[.int .i64 (((mkC v s).ring).parts),.int .i64 (((mkC v s).ring).copies),.int .i64 (((mkC v s).ring).spots),.slice (s.ba) (v.mem.length) (s.bc)]] w (Ret (fun r w'=>∃a0 c0,r= .agg #[.int .i64 (((mkC v s).ring).parts),.int .i64 (((mkC v s).ring).copies),.int .i64 (((mkC v s).ring).spots),.slice a0 v.mem.length c0]∧OwnSl w' 131 a0 c0 v.mem∧(∀q,own a0 q→w.heap.size≤q)∧Ext w w')):=by
 have hv0:=hv;obtain⟨hv1,hv2,hv3,hv4,hv5,hv6⟩:=hv;refine calls_run (n:=8) Tryz.func46 rfl rfl rfl ?_;refine jG ?_;refine jR<|jB ?_;intro ae ai a5 a1 aa;have aj:=ltNo hR.own_lt a5;have:w.heap.size≤ae:=a5;clear a5;have K0:=(aa:Ext w _);refine jR<|jA ?_;intro ak al a3 a2 a6;have am:=ltLe a1.lt a3;replace hR:=hR.ext aa;have an:=ltNo hR.own_lt a3;have:=Nat.le_trans K0.size a3;clear a3;replace a1:=a1.ext a6;refine jG ?_;replace hR:=hR.ext a6;refine jR<|jC (clone_mem _ _ _ _ (hR).mem (by omega)) ?_;rintro _ ao ⟨ab,ac,rfl,a7,a4,a8⟩;have af:=notNew a4 a1.lt;have ag:=notNew a4 a2.lt;replace K0:=K0.ext a6;have ah:=geTr K0.size a4;clear a4;refine jG ?_;replace a1:=a1.ext a8;refine jR<|jS a1 ?_;intro ap a1 a9;refine jG ?_;replace a2:=(a2.ext a8).kp a9;refine jR<|jS a2 ?_;intro aq a2 ad;refine jG ?_;refine Run.retC (cs:=#[.int .i64 (((mkC v s).ring).parts),.int .i64 (((mkC v s).ring).copies),.int .i64 (((mkC v s).ring).spots),.slice (ab) (v.mem.length) (ac)]) Tryz.func46 rfl ty44 rfl rfl a2.cl ?_;replace K0:=((K0.ext a8).n1 a9).n1 ad;replace a7:=(a7.keepO a9 (noOne af)).keepO ad (noOne ag);exact⟨_,rfl,ab,ac,rfl,a7,ah,K0⟩
theorem qcopied_ (v:MV)(s:Six)(w:World)(hR:CartR w s v)(hv:VOk v):
  Calls Tryz.prog 45 #[.agg #[.slice (s.ea) (v.ent.length) (s.ec),.slice (s.ma) (v.mrk.length) (s.mc),.slice (s.ca) (v.cl.length) (s.cc)]] w (Ret (fun r w'=>∃s',r= .agg #[.slice (s'.ea) (v.ent.length) (s'.ec),.slice (s'.ma) (v.mrk.length) (s'.mc),.slice (s'.ca) (v.cl.length) (s'.cc)]∧CartO w' s' v∧CartA s'∧(∀q,cartS s' q→w.heap.size≤q)∧Ext w w')):=by
 have hv0:=hv;obtain⟨hv1,hv2,hv3,hv4,hv5,hv6⟩:=hv;refine calls_run (n:=16) Tryz.func45 rfl rfl rfl ?_;refine jG ?_;refine jR<|jB ?_;intro an aA al a1 am;have:w.heap.size≤an:=al;clear al;have K0:=(am:Ext w _);refine jR<|jA ?_;intro aB aC a7 a0 ag;have aD:=ltLe a1.lt a7;replace hR:=hR.ext am;have ao:=ltNo hR.own_lt a7;have:=Nat.le_trans K0.size a7;clear a7;refine jG ?_;refine Run.drawS [13] [0,1001,3,4,1005,7,8,1009,2002,2006,2010,11,12,2013] ?_;intro aE a8;replace a1:=(a1.ext ag).ext a8;refine jM (jb a1 Jn) ?_;refine jG ?_;replace hR:=(hR.ext ag).ext a8;refine jU rfl<|jC (clone_ent _ _ _ _ (hR).ent (by omega)) ?_;rintro _ aF ⟨ah,ai,rfl,a2,aj,a9⟩;replace a0:=a0.ext a8;have ap:=notNew aj a0.lt;replace K0:=(K0.ext ag).ext a8;have aq:=geTr K0.size aj;clear aj;replace a1:=a1.ext a9;refine jG ?_;replace hR:=hR.ext a9;refine jU rfl<|jC (clone_mrk _ _ _ _ (hR).mrk (by omega)) ?_;rintro _ aG ⟨aa,ab,rfl,ac,ad,a4⟩;replace a0:=a0.ext a9;have ar:=notNew ad a0.lt;have au:=apartNew ad a2.own_lt;replace K0:=K0.ext a9;have av:=geTr K0.size ad;clear ad;replace a1:=a1.ext a4;refine jG ?_;replace hR:=hR.ext a4;refine jU rfl<|jC (clone_c _ _ _ _ (hR).cl (by omega)) ?_;rintro _ aH ⟨ae,af,rfl,ak,a5,a3⟩;replace a0:=a0.ext a4;have aw:=notNew a5 a0.lt;replace a2:=a2.ext a4;have ax:=apartNew a5 a2.own_lt;have ay:=apartNew a5 ac.own_lt;replace K0:=K0.ext a4;have az:=geTr K0.size a5;clear a5;replace a1:=a1.ext a3;refine jG ?_;refine jP ?_ (hx:=by exact fun _=>(x_build (cells:=#[.slice (aa) (v.mrk.length) (ab),.slice (ae) (v.cl.length) (af)]) (by kernel_rfl)));refine jP ?_ (hx:=by exact fun _=>(x_build (cells:=#[.slice (ah) (v.ent.length) (ai),.slice (aa) (v.mrk.length) (ab),.slice (ae) (v.cl.length) (af)]) (by kernel_rfl)));replace a0:=a0.ext a3;refine jU rfl<|jS a0 ?_;intro aI a0 a6;refine jG ?_;refine Run.retC (cs:=#[.slice (ah) (v.ent.length) (ai),.slice (aa) (v.mrk.length) (ab),.slice (ae) (v.cl.length) (af)]) Tryz.func45 rfl ty29 rfl rfl a0.cl ?_;replace hR:=(hR.ext a3).keepO a6 (noOne ao);replace a2:=(a2.ext a3).keepO a6 (noOne ap);replace ac:=(ac.ext a3).keepO a6 (noOne ar);replace K0:=(K0.ext a3).n1 a6;replace ak:=ak.keepO a6 (noOne aw)
 exact⟨_,rfl,⟨ah,ai,aa,ab,ae,af,none,0,none,0,none,0⟩,rfl,⟨a2,ac,ak⟩,⟨(fun q_ h1 h2=>au q_ h2 h1),(fun q_ h1 h2=>ax q_ h2 h1),(fun q_ h1 h2=>ay q_ h2 h1)⟩,fun q hq=>by
  rcases hq with hq|hq|hq
  ·exact aq q hq
  ·exact av q hq
  ·exact az q hq,K0⟩
theorem msg_ (v:MV)(s:Six)(w:World)(hR:SixR w s v)(hv:VOk v):
  Calls Tryz.prog 12 #[.agg #[.int .i64 (((mkC v s)).kind),.int .i64 (((mkC v s)).frm),.int .i64 (((mkC v s)).to),.int .i64 (((mkC v s)).req),.string (((mkC v s)).key),.slice (s.ea) (v.ent.length) (s.ec),.slice (s.ma) (v.mrk.length) (s.mc),.slice (s.ca) (v.cl.length) (s.cc),.int .i64 (((mkC v s)).owner),.int .i64 (((mkC v s)).part),.int .i64 (((mkC v s)).n),.int .i64 ((((mkC v s)).ring).parts),.int .i64 ((((mkC v s)).ring).copies),.int .i64 ((((mkC v s)).ring).spots),.slice (s.ba) (v.mem.length) (s.bc),.slice (s.pa) (v.pe.length) (s.pc),.slice (s.sa) (v.su.length) (s.sc)]] w (Ret (fun r w'=>∃s',r= .agg #[.int .i64 (((mkC v s')).kind),.int .i64 (((mkC v s')).frm),.int .i64 (((mkC v s')).to),.int .i64 (((mkC v s')).req),.string (((mkC v s')).key),.slice (s'.ea) (v.ent.length) (s'.ec),.slice (s'.ma) (v.mrk.length) (s'.mc),.slice (s'.ca) (v.cl.length) (s'.cc),.int .i64 (((mkC v s')).owner),.int .i64 (((mkC v s')).part),.int .i64 (((mkC v s')).n),.int .i64 ((((mkC v s')).ring).parts),.int .i64 ((((mkC v s')).ring).copies),.int .i64 ((((mkC v s')).ring).spots),.slice (s'.ba) (v.mem.length) (s'.bc),.slice (s'.pa) (v.pe.length) (s'.pc),.slice (s'.sa) (v.su.length) (s'.sc)]∧SixO w' s' v∧SixA s'∧(∀q,ownS s' q→w.heap.size≤q)∧Ext w w')):=by
 have hv0:=hv;obtain⟨hv1,hv2,hv3,hv4,hv5,hv6⟩:=hv;refine calls_run (n:=20) Tryz.func12 rfl rfl rfl ?_;refine jG ?_;refine jR<|jB ?_;intro aO bl aw a0 az;have ai:=ltNo hR.own_lt aw;have:w.heap.size≤aO:=aw;clear aw;have K0:=(az:Ext w _);refine jR<|jA ?_;intro bm bn aj a1 ax;have bo:=ltLe a0.lt aj;replace hR:=hR.ext az;have aP:=ltNo hR.own_lt aj;have:=Nat.le_trans K0.size aj;clear aj;refine jG ?_;refine Run.drawS [7] [0,1001,3,1004,2002,6,2005,2007,8,2009] ?_;intro bp ak;replace a0:=(a0.ext ax).ext ak;refine jM (jb a0 Jn) ?_;refine jG ?_;replace hR:=(hR.ext ax).ext ak;refine jU rfl<|jC (cart_ v s _ hR.cart (by assumption)) ?_;rintro _ bq ⟨aA,aB,aC,aD,aE,aF,rfl,a2,a3,a4,aQ,aR,aS,al,am,an,ao⟩;have ap:=notNew al a0.lt;replace a1:=a1.ext ak;have aT:=notNew al a1.lt;replace K0:=(K0.ext ax).ext ak;have aU:=geTr K0.size al;have aq:=notNew am a0.lt;have aV:=notNew am a1.lt;have aW:=geTr K0.size am;have ar:=notNew an a0.lt;have aX:=notNew an a1.lt;have aY:=geTr K0.size an;clear al am an;replace a0:=a0.ext ao;refine jG ?_;replace hR:=hR.ext ao;refine jU rfl<|jC (ring_ v s _ hR (by assumption)) ?_;rintro _ bs ⟨aG,aH,rfl,a5,ae,af⟩;have au:=notNew ae a0.lt;replace a1:=a1.ext ao;have aZ:=notNew ae a1.lt;have b0:=apartNew ae a2.own_lt;have b1:=apartNew ae a3.own_lt;have b2:=apartNew ae a4.own_lt;replace K0:=K0.ext ao;have b3:=geTr K0.size ae;clear ae;replace a0:=a0.ext af;refine jG ?_;refine jU rfl<|jS a0 ?_;intro bt a0 ag;refine jG ?_;refine jU rfl<|jS a0 ?_;intro bu a0 ah;refine jG ?_;refine Run.drawS [7] [0,1001,3,1004,2002,6,2005,2007,8,2009] ?_;intro bv aa;replace a0:=a0.ext aa;refine jM (jb a0 Jn) ?_;refine jG ?_;replace hR:=(((hR.ext af).keepO ag (noOne ai)).keepO ah (noOne ai)).ext aa;refine jU rfl<|jC (clone_pe _ _ _ _ (hR).pe (by omega)) ?_;rintro _ bw ⟨aI,aJ,rfl,av,ab,ac⟩;have aK:=notNew ab a0.lt;replace a1:=(((a1.ext af).kp ag).kp ah).ext aa;have b4:=notNew ab a1.lt;replace a2:=(((a2.ext af).keepO ag (noOne ap)).keepO ah (noOne ap)).ext aa;have b5:=apartNew ab a2.own_lt;replace a3:=(((a3.ext af).keepO ag (noOne aq)).keepO ah (noOne aq)).ext aa;have b6:=apartNew ab a3.own_lt;replace a4:=(((a4.ext af).keepO ag (noOne ar)).keepO ah (noOne ar)).ext aa;have b7:=apartNew ab a4.own_lt;replace a5:=((a5.keepO ag (noOne au)).keepO ah (noOne au)).ext aa;have b8:=apartNew ab a5.own_lt;replace K0:=(((K0.ext af).n1 ag).n1 ah).ext aa;have b9:=geTr K0.size ab;clear ab;replace a0:=a0.ext ac;refine jG ?_;replace hR:=hR.ext ac;refine jU rfl<|jC (clone_su _ _ _ _ (hR).su (by omega)) ?_;rintro _ bx ⟨aL,aM,rfl,ay,a6,a7⟩;have aN:=notNew a6 a0.lt;replace a1:=a1.ext ac;have bb:=notNew a6 a1.lt;replace a2:=a2.ext ac;have be:=apartNew a6 a2.own_lt;replace a3:=a3.ext ac;have bg:=apartNew a6 a3.own_lt;replace a4:=a4.ext ac;have bh:=apartNew a6 a4.own_lt;replace a5:=a5.ext ac;have bi:=apartNew a6 a5.own_lt;have bj:=apartNew a6 av.own_lt;replace K0:=K0.ext ac;have bk:=geTr K0.size a6;clear a6;replace a0:=a0.ext a7;refine jG ?_;refine jU rfl<|jS a0 ?_;intro bz a0 a8;refine jG ?_;refine jU rfl<|jS a0 ?_;intro bA a0 a9;refine jG ?_;replace a1:=((a1.ext a7).kp a8).kp a9;refine jR<|jS a1 ?_;intro bB a1 ad;refine jG ?_;refine Run.retC (cs:=#[.int .i64 (((mkC v s)).kind),.int .i64 (((mkC v s)).frm),.int .i64 (((mkC v s)).to),.int .i64 (((mkC v s)).req),.string (((mkC v s)).key),.slice (aA) (v.ent.length) (aB),.slice (aC) (v.mrk.length) (aD),.slice (aE) (v.cl.length) (aF),.int .i64 (((mkC v s)).owner),.int .i64 (((mkC v s)).part),.int .i64 (((mkC v s)).n),.int .i64 ((((mkC v s)).ring).parts),.int .i64 ((((mkC v s)).ring).copies),.int .i64 ((((mkC v s)).ring).spots),.slice (aG) (v.mem.length) (aH),.slice (aI) (v.pe.length) (aJ),.slice (aL) (v.su.length) (aM)]) Tryz.func12 rfl ty48 rfl rfl a1.cl ?_;replace hR:=(((hR.ext a7).keepO a8 (noOne ai)).keepO a9 (noOne ai)).keepO ad (noOne aP);replace a2:=(((a2.ext a7).keepO a8 (noOne ap)).keepO a9 (noOne ap)).keepO ad (noOne aT)
 replace a3:=(((a3.ext a7).keepO a8 (noOne aq)).keepO a9 (noOne aq)).keepO ad (noOne aV);replace a4:=(((a4.ext a7).keepO a8 (noOne ar)).keepO a9 (noOne ar)).keepO ad (noOne aX);replace a5:=(((a5.ext a7).keepO a8 (noOne au)).keepO a9 (noOne au)).keepO ad (noOne aZ);replace av:=(((av.ext a7).keepO a8 (noOne aK)).keepO a9 (noOne aK)).keepO ad (noOne b4);replace K0:=(((K0.ext a7).n1 a8).n1 a9).n1 ad;replace ay:=((ay.keepO a8 (noOne aN)).keepO a9 (noOne aN)).keepO ad (noOne bb)
 exact⟨_,rfl,⟨aA,aB,aC,aD,aE,aF,aG,aH,aI,aJ,aL,aM⟩,rfl,⟨a2,a3,a4,a5,av,ay⟩,(List.pairwise_cons.2 ⟨(List.forall_mem_cons.2 ⟨aQ,(List.forall_mem_cons.2 ⟨aR,(List.forall_mem_cons.2 ⟨(fun q_ h1 h2=>b0 q_ h2 h1),(List.forall_mem_cons.2 ⟨(fun q_ h1 h2=>b5 q_ h2 h1),(List.forall_mem_cons.2 ⟨(fun q_ h1 h2=>be q_ h2 h1),(fun _ h=>absurd h List.not_mem_nil)⟩)⟩)⟩)⟩)⟩),(List.pairwise_cons.2 ⟨(List.forall_mem_cons.2 ⟨aS,(List.forall_mem_cons.2 ⟨(fun q_ h1 h2=>b1 q_ h2 h1),(List.forall_mem_cons.2 ⟨(fun q_ h1 h2=>b6 q_ h2 h1),(List.forall_mem_cons.2 ⟨(fun q_ h1 h2=>bg q_ h2 h1),(fun _ h=>absurd h List.not_mem_nil)⟩)⟩)⟩)⟩),(List.pairwise_cons.2 ⟨(List.forall_mem_cons.2 ⟨(fun q_ h1 h2=>b2 q_ h2 h1),(List.forall_mem_cons.2 ⟨(fun q_ h1 h2=>b7 q_ h2 h1),(List.forall_mem_cons.2 ⟨(fun q_ h1 h2=>bh q_ h2 h1),(fun _ h=>absurd h List.not_mem_nil)⟩)⟩)⟩),(List.pairwise_cons.2 ⟨(List.forall_mem_cons.2 ⟨(fun q_ h1 h2=>b8 q_ h2 h1),(List.forall_mem_cons.2 ⟨(fun q_ h1 h2=>bi q_ h2 h1),(fun _ h=>absurd h List.not_mem_nil)⟩)⟩),(List.pairwise_cons.2 ⟨(List.forall_mem_cons.2 ⟨(fun q_ h1 h2=>bj q_ h2 h1),(fun _ h=>absurd h List.not_mem_nil)⟩),(List.pairwise_cons.2 ⟨(fun _ h=>absurd h List.not_mem_nil),List.Pairwise.nil⟩)⟩)⟩)⟩)⟩)⟩),fun q hq=>by
  rcases hq with hq|hq|hq|hq|hq|hq
  ·exact aU q hq
  ·exact aW q hq
  ·exact aY q hq
  ·exact b3 q hq
  ·exact b9 q hq
  ·exact bk q hq,K0⟩
end Go.Proofs.YtocgdeefgohdhaaGreat
namespace Go.Proofs.YtocgdeefgohdhaaGreat
attribute [local irreducible] RD RS St1 RL RA RT RT1 Run
theorem len_neV {a b:List Mg}(h:¬a.length=b.length):¬a.map Mg.v=b.map Mg.v:=fun e=>h (by simpa using congrArg List.length e)
theorem all_eqV {a b:List Mg}{i:Nat}(h:(a.map Mg.v).take i=(b.map Mg.v).take i)(h1:a.length≤i)(h2:a.length=b.length):a.map Mg.v=b.map Mg.v:=by
 rwa[List.take_of_length_le (by simpa using h1),List.take_of_length_le (by simpa using(show b.length≤i by omega))]at h
theorem eq0 {a b:List MV}:a.take 0=b.take 0:=rfl
attribute [local irreducible] X
theorem ask_ (id knd qty price:Int)(key item:ByteArray)(v:MV)(s:Six)(w:World)(hR:CartR w s v)(hv:VOk v):
  Calls Tryz.prog 26 #[.agg #[.int .i64 (id),.int .i64 (knd),.string (key),.string (item),.int .i64 (qty),.int .u64 (price),.slice (s.ea) (v.ent.length) (s.ec),.slice (s.ma) (v.mrk.length) (s.mc),.slice (s.ca) (v.cl.length) (s.cc)]] w (Ret (fun r w'=>∃s',r= .agg #[.int .i64 (id),.int .i64 (knd),.string (key),.string (item),.int .i64 (qty),.int .u64 (price),.slice (s'.ea) (v.ent.length) (s'.ec),.slice (s'.ma) (v.mrk.length) (s'.mc),.slice (s'.ca) (v.cl.length) (s'.cc)]∧CartO w' s' v∧CartA s'∧(∀q,cartS s' q→w.heap.size≤q)∧Ext w w')):=by
 refine calls_run (n:=8) Tryz.func26 rfl rfl rfl ?_;refine jG ?_;refine jR<|jB ?_;intro ac ah a5 a0 aa;have ai:=ltNo hR.own_lt a5;have:w.heap.size≤ac:=a5;clear a5;have K0:=(aa:Ext w _);refine jR<|jA ?_;intro aj ak a3 a2 a6;have al:=ltLe a0.lt a3;replace hR:=hR.ext aa;have am:=ltNo hR.own_lt a3;have:=Nat.le_trans K0.size a3;clear a3;replace a0:=a0.ext a6;refine jG ?_;replace hR:=hR.ext a6;refine jR<|jC (cartp_ v s _ hR (by assumption)) ?_;rintro _ an ⟨a1,rfl,a7,ad,a4,a8⟩;have ae:=notNew a4 a0.lt;have af:=notNew a4 a2.lt;replace K0:=K0.ext a6;have ag:=geTr K0.size a4;clear a4;refine jG ?_;replace a0:=a0.ext a8;refine jR<|jS a0 ?_;intro ao a0 a9;refine jG ?_;replace a2:=(a2.ext a8).kp a9;refine jR<|jS a2 ?_;intro ap a2 ab;refine jG ?_;refine Run.retC (cs:=#[.int .i64 (id),.int .i64 (knd),.string (key),.string (item),.int .i64 (qty),.int .u64 (price),.slice (a1.ea) (v.ent.length) (a1.ec),.slice (a1.ma) (v.mrk.length) (a1.mc),.slice (a1.ca) (v.cl.length) (a1.cc)]) Tryz.func26 rfl ty31 rfl rfl a2.cl ?_;replace K0:=((K0.ext a8).n1 a9).n1 ab;replace a7:=(a7.keepO a9 (noOne ae)).keepO ab (noOne af);exact⟨_,rfl,a1,rfl,a7,ad,ag,K0⟩
theorem eqMsgs_ (a:Option Addr)(ks:List Mg)(c:Nat)(d:Option Addr)(qs:List Mg)(e:Nat)(w:World)(hs:SlOf w a (ks.map Mg.c))(ht:SlOf w d (qs.map Mg.c))(hks:MgsR w ks)(hqs:MgsR w qs)(hl:ks.length≤4294967295):
  Calls Tryz.prog 58 #[.slice (a) ((ks.map Mg.c).length) (c),.slice (d) ((qs.map Mg.c).length) (e),.func (.func 23) #[] #[]] w (Ret (fun v w'=>v= .bool (decide (ks.map Mg.v=qs.map Mg.v))∧Ext w w')):=by
 have hkc:(ks.map Mg.c).length=ks.length:=List.length_map ..;have hqc:(qs.map Mg.c).length=qs.length:=List.length_map ..;refine calls_run (n:=32) Tryz.func58 rfl rfl rfl ?_;refine jG ?_;refine jF ?_ ?_
 ·intro hc14
  refine jG ?_;refine jJ Tryz.func58 ?_;exact⟨_,rfl,by rw[decide_eq_false (len_neV (by omega))],(Keeps.refl _ w)⟩
 ·intro hc14
  refine jG ?_;refine Run.loop (ι:=Nat) (fun i ρ' w'=>Holds ρ' [(1,.slice (d) ((qs.map Mg.c).length) (e)),(2,.func (.func 23) #[] #[]),(15,.slice (a) ((ks.map Mg.c).length) (c)),(16,.int .i64 ((((ks.map Mg.c).length:Nat):Int))),(17,.int .i64 (((i:Nat):Int)))]∧Ext w w'∧(i≤ks.length)∧((ks.map Mg.v).take i=(qs.map Mg.v).take i)) (fun i=>ks.length-i) 0 ?_ ?_
  ·refine⟨⟨rfl,rfl,rfl,rfl,rfl,trivial⟩,(Keeps.refl _ w),?_,?_⟩
   ·omega
   ·exact eq0
  rintro i ag ah ⟨a5,K0,hi,hno⟩ ih1;obtain⟨ρ₀,rfl⟩:=a5.ex;clear a5;refine jG ?_;refine jF ?_ ?_
  ·intro hc18
   obtain⟨x0,hx0m⟩:∃x,(ks.map Mg.c)[i]? =some x:=⟨_,List.getElem?_eq_getElem (by simp only[List.length_map]at*;omega)⟩;obtain⟨m,hmm,hxe,hvm⟩:=c_get hx0m;subst hxe;obtain⟨x0,hx0u⟩:∃x,(qs.map Mg.c)[i]? =some x:=⟨_,List.getElem?_eq_getElem (by simp only[List.length_map]at*;omega)⟩;obtain⟨u,hmu,hxe,hvu⟩:=c_get hx0u;subst hxe;obtain⟨ai,aj,a9,aa,ak,a0⟩:=hs.eo i;have hc_7_lt:=a0.lt;obtain rfl:(mkC m.v m.s)=a9:=Option.some.inj (hx0m.symm.trans aa);refine jG2 ?_;replace a0:=a0.ext K0;refine jV (x_ldV (v:= .agg #[.int .i64 (((mkC m.v m.s)).kind),.int .i64 (((mkC m.v m.s)).frm),.int .i64 (((mkC m.v m.s)).to),.int .i64 (((mkC m.v m.s)).req),.string (((mkC m.v m.s)).key),.slice (m.s.ea) (m.v.ent.length) (m.s.ec),.slice (m.s.ma) (m.v.mrk.length) (m.s.mc),.slice (m.s.ca) (m.v.cl.length) (m.s.cc),.int .i64 (((mkC m.v m.s)).owner),.int .i64 (((mkC m.v m.s)).part),.int .i64 (((mkC m.v m.s)).n),.int .i64 ((((mkC m.v m.s)).ring).parts),.int .i64 ((((mkC m.v m.s)).ring).copies),.int .i64 ((((mkC m.v m.s)).ring).spots),.slice (m.s.ba) (m.v.mem.length) (m.s.bc),.slice (m.s.pa) (m.v.pe.length) (m.s.pc),.slice (m.s.sa) (m.v.su.length) (m.s.sc)]) (y:=(mkC m.v m.s)) ty48 rfl a0 rfl) ?_;refine jR<|jA ?_;intro al am a4 a1 ab;have an:=ltLe a0.lt a4;have:=Nat.le_trans K0.size a4;clear a4;refine jG ?_;refine jR<|jS a1 ?_;intro ao a1 ac;obtain⟨ap,aq,ad,ae,ar,a2⟩:=ht.eo i;have hc_21_lt:=a2.lt;replace K0:=(K0.ext ab).n1 ac;obtain rfl:(mkC u.v u.s)=ad:=Option.some.inj (hx0u.symm.trans ae);refine jG2 ?_;refine jG1 ?_;replace a2:=a2.ext K0;refine jV (x_ldV (v:= .agg #[.int .i64 (((mkC u.v u.s)).kind),.int .i64 (((mkC u.v u.s)).frm),.int .i64 (((mkC u.v u.s)).to),.int .i64 (((mkC u.v u.s)).req),.string (((mkC u.v u.s)).key),.slice (u.s.ea) (u.v.ent.length) (u.s.ec),.slice (u.s.ma) (u.v.mrk.length) (u.s.mc),.slice (u.s.ca) (u.v.cl.length) (u.s.cc),.int .i64 (((mkC u.v u.s)).owner),.int .i64 (((mkC u.v u.s)).part),.int .i64 (((mkC u.v u.s)).n),.int .i64 ((((mkC u.v u.s)).ring).parts),.int .i64 ((((mkC u.v u.s)).ring).copies),.int .i64 ((((mkC u.v u.s)).ring).spots),.slice (u.s.ba) (u.v.mem.length) (u.s.bc),.slice (u.s.pa) (u.v.pe.length) (u.s.pc),.slice (u.s.sa) (u.v.su.length) (u.s.sc)]) (y:=(mkC u.v u.s)) ty48 rfl a2 rfl) ?_;refine jR<|jA ?_;intro au av a3 a6 a7;have aw:=ltLe a1.lt a3;have ax:=ltLe a2.lt a3;have:=Nat.le_trans K0.size a3;clear a3;refine jR<|jS a6 ?_;intro ay a6 a8;replace a1:=(a1.ext a7).kp a8;refine jG ?_;replace K0:=(K0.ext a7).n1 a8;refine jR<|St1.callV (vals:=[.agg #[.int .i64 (((mkC m.v m.s)).kind),.int .i64 (((mkC m.v m.s)).frm),.int .i64 (((mkC m.v m.s)).to),.int .i64 (((mkC m.v m.s)).req),.string (((mkC m.v m.s)).key),.slice (m.s.ea) (m.v.ent.length) (m.s.ec),.slice (m.s.ma) (m.v.mrk.length) (m.s.mc),.slice (m.s.ca) (m.v.cl.length) (m.s.cc),.int .i64 (((mkC m.v m.s)).owner),.int .i64 (((mkC m.v m.s)).part),.int .i64 (((mkC m.v m.s)).n),.int .i64 ((((mkC m.v m.s)).ring).parts),.int .i64 ((((mkC m.v m.s)).ring).copies),.int .i64 ((((mkC m.v m.s)).ring).spots),.slice (m.s.ba) (m.v.mem.length) (m.s.bc),.slice (m.s.pa) (m.v.pe.length) (m.s.pc),.slice (m.s.sa) (m.v.su.length) (m.s.sc)],.agg #[.int .i64 (((mkC u.v u.s)).kind),.int .i64 (((mkC u.v u.s)).frm),.int .i64 (((mkC u.v u.s)).to),.int .i64 (((mkC u.v u.s)).req),.string (((mkC u.v u.s)).key),.slice (u.s.ea) (u.v.ent.length) (u.s.ec),.slice (u.s.ma) (u.v.mrk.length) (u.s.mc),.slice (u.s.ca) (u.v.cl.length) (u.s.cc),.int .i64 (((mkC u.v u.s)).owner),.int .i64 (((mkC u.v u.s)).part),.int .i64 (((mkC u.v u.s)).n),.int .i64 ((((mkC u.v u.s)).ring).parts),.int .i64 ((((mkC u.v u.s)).ring).copies),.int .i64 ((((mkC u.v u.s)).ring).spots),.slice (u.s.ba) (u.v.mem.length) (u.s.bc),.slice (u.s.pa) (u.v.pe.length) (u.s.pc),.slice (u.s.sa) (u.v.su.length) (u.s.sc)]]) en23.h rfl rfl (sameMsg_ m.v u.v m.s u.s _ ((hks m (mem_of_at hmm)).1.ext K0) ((hqs u (mem_of_at hmu)).1.ext K0) (hks m (mem_of_at hmm)).2) ?_
   rintro _ az ⟨rfl,af⟩;refine jG ?_;replace K0:=K0.ext af;refine jF ?_ ?_
   ·intro hc30
    refine jG ?_;refine jJ Tryz.func58 ?_;exact⟨_,rfl,by rw[decide_eq_false (ne_takeV hvm hvu hc30)],K0⟩
   ·intro hc30
    refine jG ?_;refine jV (litI (c:=((i+1:Nat):Int)) (x_add rfl rfl (by omega) (by omega)) rfl) ?_;refine jG ?_;refine ih1 (i+1) _ _ ?_ (by omega);refine⟨⟨rfl,rfl,rfl,rfl,rfl,trivial⟩,K0,?_,?_⟩
    ·omega
    ·exact take_eqV hno hvm (hc30▸hvu)
  ·intro hc18
   refine jG ?_;refine jJ Tryz.func58 ?_;exact⟨_,rfl,by rw[decide_eq_true (all_eqV hno (by omega) (by omega))],K0⟩
theorem sameMsgs_ (a:Option Addr)(ks:List Mg)(c:Nat)(d:Option Addr)(qs:List Mg)(e:Nat)(w:World)(hs:SlOf w a (ks.map Mg.c))(ht:SlOf w d (qs.map Mg.c))(hks:MgsR w ks)(hqs:MgsR w qs)(hl:ks.length≤4294967295):
  Calls Tryz.prog 20 #[.slice (a) ((ks.map Mg.c).length) (c),.slice (d) ((qs.map Mg.c).length) (e)] w (Ret (fun v w'=>v= .bool (decide (ks.map Mg.v=qs.map Mg.v))∧Ext w w')):=by
 refine calls_run (n:=8) Tryz.func20 rfl rfl rfl ?_;refine jG ?_;refine jR<|jC (eqMsgs_ _ ks _ _ qs _ _ hs ht hks hqs (by omega)) ?_;rintro _ a1 ⟨rfl,a0⟩;have K0:=(a0:Ext w _);refine jG ?_;refine jJ Tryz.func20 ?_;exact⟨_,rfl,rfl,K0⟩
end Go.Proofs.YtocgdeefgohdhaaGreat
