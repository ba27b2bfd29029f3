/-
  Qf
-/
import Derived.Test.YtocgdeefgohdhaaGreatRows
import Derived.Test.YtocgdeefgohdhaaGreatPkQe
import Derived.Test.YtocgdeefgohdhaaGreatPkI
set_option linter.all false
set_option maxRecDepth 100000
set_option maxHeartbeats 4000000
namespace Go.Proofs.YtocgdeefgohdhaaGreat
attribute [local irreducible] RD RS St1 RL RA RT RT1 Run
def okN (n:Int):Prop:=0≤n∧n<8
instance (n :Int):Decidable (okN n):=by unfold okN;infer_instance
def tgOk (l:List TargetC)(i:Nat):Prop:=∀j t,j<i→l[j]? =some t→okN t.node∧∀x∈l.take j,x.node≠t.node
def begA (self req need began:Int):Prop:=¬okN self∨req<1∨1099511627776<req∨need<1∨5<need∨began<0∨1099511627776<began
instance (a b c d:Int):Decidable (begA a b c d):=by unfold begA;infer_instance
open Classical in
noncomputable def begE (self req need began:Int)(l:List TargetC)(e:Int):Int:=
 if begA self req need began then 1 else if ¬tgOk l l.length then 1 else if e≠0 then e else if (l.length:Int)<need then 7 else 0
section
variable {self req need began e:Int}{l:List TargetC}{i:Nat}{t:TargetC}
theorem tgOk_zero (l:List TargetC):tgOk l 0:=fun j _ h=>absurd h (Nat.not_lt_zero j)
theorem tgOk_step (h:tgOk l i)(ht:l[i]? =some t)(h1:okN t.node)(h2:∀x∈l.take i,x.node≠t.node):tgOk l (i+1):=fun j u hj hu=>by
 by_cases c:j=i
 ·subst c;rw[ht]at hu;cases hu;exact⟨h1,h2⟩
 ·exact h j u (by omega) hu
theorem tgOk_no (ht:l[i]? =some t)(h:¬(okN t.node∧∀x∈l.take i,x.node≠t.node)):¬tgOk l l.length:=fun h2=>h (h2 i t (List.getElem?_eq_some_iff.1 ht).1 ht)
theorem begE_a (h:begA self req need began):begE self req need began l e=1:=by rw[begE,if_pos h]
theorem begE_t (h:¬begA self req need began)(h2:¬tgOk l l.length):begE self req need began l e=1:=by rw[begE,if_neg h,if_pos h2]
theorem begE_e (h:¬begA self req need began)(h2:tgOk l l.length)(h3:e≠0):begE self req need began l e=e:=by rw[begE,if_neg h,if_neg (not_not_intro h2),if_pos h3]
theorem begE_f (h:¬begA self req need began)(h2:tgOk l l.length)(h3:e=0)(h4:(l.length:Int)<need):begE self req need began l e=7:=by rw[begE,if_neg h,if_neg (not_not_intro h2),if_neg (not_not_intro h3),if_pos h4]
theorem begE_ok (h:¬begA self req need began)(h2:tgOk l l.length)(h3:e=0)(h4:¬(l.length:Int)<need):begE self req need began l e=0:=by rw[begE,if_neg h,if_neg (not_not_intro h2),if_neg (not_not_intro h3),if_neg h4]
theorem begE_zero (h:begE self req need began l e=0):¬begA self req need began∧tgOk l l.length∧e=0∧¬(l.length:Int)<need:=by
 by_cases h1:begA self req need began
 ·rw[begE_a h1]at h;omega
 by_cases h2:tgOk l l.length
 ·by_cases h3:e=0
  ·by_cases h4:(l.length:Int)<need
   ·rw[begE_f h1 h2 h3 h4]at h;omega
   ·exact⟨h1,h2,h3,h4⟩
  ·rw[begE_e h1 h2 h3]at h;exact absurd h h3
 ·rw[begE_t h1 h2]at h;omega
end
def tgS (M:Mq):Nat→Prop:=fun q=>M.targets≠ []∧own M.ta q
structure TgR (w:World)(M:Mq):Prop where
 sl:SlOf w M.ta M.targets
section
variable {w w':World}{S:Nat→Prop}{M:Mq}
theorem TgR.own_lt (h:TgR w M):∀q,tgS M q→q<w.heap.size:=fun _ ⟨h1,h2⟩=>sl_lt h.sl h1 h2
theorem TgR.keepO (h:TgR w M)(k:Keeps S w w')(hn:∀q,tgS M q→¬S q):TgR w' M:=⟨h.sl.keepN k fun x hx he=>hn x.block ⟨he,x,hx,rfl⟩⟩
theorem TgR.ext (h:TgR w M)(k:Ext w w'):TgR w' M:=⟨h.sl.ext k⟩
end
attribute [local irreducible] X
theorem begN_ (n:Int)(w:World):
  Calls Tryz.prog 84 #[.int .i64 (n)] w (Ret (fun v w'=>v= .bool (decide (okN n))∧Ext w w')):=by
 refine calls_run (n:=9) Tryz.func84 rfl rfl rfl ?_;refine jG ?_;refine jV (x_and rfl rfl rfl) ?_;refine jG ?_;refine jJ Tryz.func84 ?_;exact⟨_,rfl,congrArg Value.bool (by rw[Bool.eq_iff_iff];simp only[Bool.and_eq_true,decide_eq_true_eq];exact Iff.rfl),(Keeps.refl _ w)⟩
theorem begX_ (x t:TargetC)(b:Nat)(w:World)(hx:Blk w b [.int .i64 t.node,.int .i64 t.owner] 53):
  Calls Tryz.prog 85 #[.agg #[.int .i64 ((x).node),.int .i64 ((x).owner)],jp b] w (Ret (fun v w'=>v= .bool (decide (x.node=t.node))∧Ext w w')):=by
 refine calls_run (n:=9) Tryz.func85 rfl rfl rfl ?_;refine jG ?_;refine jR<|jB ?_;intro a2 a3 a0 a4 a1;have a5:=ltLe hx.lt a0;have:w.heap.size≤a2:=a0;clear a0;have K0:=(a1:Ext w _);replace hx:=hx.ext a1;refine jG ?_;refine jJ Tryz.func85 ?_;exact⟨_,rfl,congrArg Value.bool (by rw[Bool.eq_iff_iff];simp),K0⟩
theorem begin_ (m:Nat)(M:Mq)(e E:Int)(w:World)(hE:begE M.self M.req M.need M.began M.targets e=E)(hb:Blk w m M.cells 99)(htg:TgR w M)(hse:CartR w M.ss M.seen)(hsok:CartOk M.seen M.ss)(htc:M.targets.length≤M.tc)(hd:¬tgS M m)(hds:¬cartD M.ss M.seen m)(hl:M.targets.length≤4294967295):
  Calls Tryz.prog 66 #[jp m,.int .i64 (e)] w (Ret (fun v w'=>v= .int .i64 E∧((E≠0∧Keeps (one m) w w')∨(E=0∧∃s',Blk w' m ({M with made:=true,ss:=s'}:Mq).cells 99∧CartO w' s' M.seen∧CartA s'∧(∀q,cartS s' q→w.heap.size≤q)∧Keeps (one m) w w')))):=by
 have hnew:=0;refine calls_run (n:=111) Tryz.func66 rfl rfl rfl ?_;refine jG ?_;refine jR<|St1.callV (vals:=[.int .i64 (M.self)]) en84.h rfl rfl (begN_ M.self _) ?_;rintro _ am ⟨rfl,a3⟩;have K0:=(a3:Ext w _).to (S:=(one m));replace hb:=hb.ext a3;refine jG ?_;refine jV (x_or rfl rfl rfl) ?_;refine jG ?_;refine jV (x_or rfl rfl rfl) ?_;refine jG ?_;refine jV (x_or rfl rfl rfl) ?_;refine jG ?_;refine jV (x_or rfl rfl rfl) ?_;refine jG ?_;refine jV (x_or rfl rfl rfl) ?_;refine jG ?_;refine jV (x_or rfl rfl rfl) ?_;refine jG ?_;replace htg:=htg.ext a3;replace hse:=hse.ext a3;refine jF ?_ ?_
 ·intro hc56
  refine jG ?_;refine jJ Tryz.func66 ?_;rw[←hE,begE_a (by unfold begA;unfold okN at hc56⊢;omega)];exact⟨_,rfl,rfl,.inl ⟨by decide,K0⟩⟩
 ·intro hc56
  have hnb:¬begA M.self M.req M.need M.began:=by unfold begA;unfold okN at hc56⊢;omega
  refine jG ?_;refine Run.loop (ι:=Nat) (fun i ρ' w'=>Holds ρ' [(0,jp m),(1,.int .i64 (e)),(5,.func (.func 84) #[] #[]),(60,.slice (M.ta) (M.targets.length) (M.tc)),(61,.int .i64 (((M.targets.length:Nat):Int))),(62,.int .i64 (((i:Nat):Int)))]∧Keeps (one m) w w'∧(Blk w' m [.int .i64 (M.self),.int .i64 (M.req),.int .i64 (M.need),.int .i64 (M.began),.int .i64 (M.id),.int .i64 (M.knd),.string (M.key),.string (M.item),.int .i64 (M.qty),.int .u64 (M.price),.slice (M.ss.ea) (M.seen.ent.length) (M.ss.ec),.slice (M.ss.ma) (M.seen.mrk.length) (M.ss.mc),.slice (M.ss.ca) (M.seen.cl.length) (M.ss.cc),.slice (M.ta) (M.targets.length) (M.tc),.slice (M.ga) ((M.got.map Mg.c).length) (M.gc),.bool (M.answered),.bool (M.done),.bool (M.made),.int .i64 (M.status),.iface (kT M.put) (jp M.kb)] 99)∧(TgR w' M)∧(CartR w' M.ss M.seen)∧(i≤M.targets.length)∧(tgOk M.targets i)) (fun i=>M.targets.length-i) 0 ?_ ?_
  ·refine⟨⟨rfl,rfl,rfl,rfl,rfl,rfl,trivial⟩,K0,hb,htg,hse,?_,?_⟩
   ·omega
   ·exact tgOk_zero _
  clear hb htg hse;clear K0;rintro i an ao ⟨ab,K0,hb,htg,hse,hi,hto⟩ ih1;obtain⟨ρ₀,rfl⟩:=ab.ex;clear ab;refine jG ?_;refine jF ?_ ?_
  ·intro hc63
   obtain⟨ap,aq,t,ht,ar,af⟩:=htg.sl.eo i;refine jG ?_;refine jR<|jA ?_;intro a8 au a0 a1 a4;have av:=ltLe hb.lt a0;have aw:=ltLe af.lt a0;have ag:=ltNo htg.own_lt a0;have ah:=ltNo hse.own_lt a0;have:=Nat.le_trans K0.size a0;clear a0;refine jG ?_;refine jR<|jS a1 ?_;intro ax a1 a5;replace K0:=K0.ext a4;replace K0:=K0.n1 a5;have htl:(M.targets.take i).length=i:=by rw[List.length_take];omega
   refine jG ?_;refine jR<|St1.callV (vals:=[.int .i64 ((t).node)]) en84.h rfl rfl (begN_ ((t).node) _) ?_;rintro _ ay ⟨rfl,a2⟩;replace hb:=((hb.ext a4).kp a5).ext a2;refine jG ?_;refine jW ?_ (hx:=by exact fun hg=>(litSl (m':=(M.targets.take i).length) (x_sliceTo Tryz.underlying32 ty53 (gvr hg) (gvr hg) (by omega)) (by rw[List.length_take];omega)));refine jW ?_ (hx:=by exact fun hg=>(x_mkFunc (a:=[]) (c:=[jp a8]) rfl rfl));replace htg:=((htg.ext a4).keepO a5 (noOne ag)).ext a2;replace a1:=a1.ext a2;refine RL.gcall (vals:=[.slice (M.ta) ((M.targets.take i).length) (M.tc),.func (.func 85) #[] #[jp a8]]) (wantedF rfl rfl rfl rfl) en8.h (fun hg=>(mcons (gvr hg) (mcons (gvr hg) mnil))) (fun hg=>(containsFunc_t _ _ _ 85 _ (fun x=>decide (x.node=t.node)) en85.h _ (htg.sl.take i) (by omega) (fun x _ w' K'=>begX_ x t a8 w' (a1.ext K')))) ?_;intro az a6;refine jV (x_or rfl rfl rfl) ?_;refine jG ?_;replace hse:=(((hse.ext a4).keepO a5 (noOne ah)).ext a2).ext a6;replace K0:=(K0.ext a2).ext a6;replace hb:=hb.ext a6;replace htg:=htg.ext a6;refine jF ?_ ?_
   ·intro hc81
    refine jG ?_;refine jJ Tryz.func66 ?_;rw[←hE,begE_t hnb (tgOk_no ht (fun h_=>hc81.elim (fun h2=>h2 h_.1) (fun h2=>by obtain⟨y,hy,he⟩:=List.any_eq_true.1 h2;exact h_.2 y hy (of_decide_eq_true he))))];exact⟨_,rfl,rfl,.inl ⟨by decide,K0⟩⟩
   ·intro hc81
    refine jG ?_;refine jV (litI (c:=((i+1:Nat):Int)) (x_add rfl rfl (by omega) (by omega)) rfl) ?_;refine jG ?_;refine ih1 (i+1) _ _ ?_ (by omega);refine⟨⟨rfl,rfl,rfl,rfl,rfl,rfl,trivial⟩,K0,hb,htg,hse,?_,?_⟩
    ·omega
    ·exact tgOk_step hto ht hc81.1 (fun x hx e_=>by have h_:=hc81.2;rw[List.any_eq_false]at h_;exact h_ x hx (decide_eq_true e_))
  ·intro hc63
   have hto0:tgOk M.targets M.targets.length:=by rw[←(show i=M.targets.length by omega)];exact hto
   refine jG ?_;refine jF ?_ ?_
   ·intro hc83
    refine jG ?_;refine jJ Tryz.func66 ?_;rw[←hE,begE_e hnb hto0 hc83];exact⟨_,rfl,rfl,.inl ⟨by exact hc83,K0⟩⟩
   ·intro hc83
    refine jG ?_;refine Run.drawR ?_;intro aA a7;replace hb:=hb.ext a7;refine jG ?_;replace htg:=htg.ext a7;replace hse:=hse.ext a7;replace K0:=K0.ext a7;refine jF ?_ ?_
    ·intro hc87
     refine jG ?_;refine jJ Tryz.func66 ?_;rw[←hE,begE_f hnb hto0 hc83 (by omega)];exact⟨_,rfl,rfl,.inl ⟨by decide,K0⟩⟩
    ·intro hc87
     refine jG ?_;refine jR<|jS hb ?_;intro aB hb ac;replace K0:=K0.tf ac (rfl);refine jG ?_;replace hse:=hse.keepO ac (noOne hds);refine jR<|jC (qcopied_ M.seen M.ss _ hse hsok.ok) ?_;rintro _ aC ⟨ai,rfl,a9,aj,aa,ad⟩;have ak:=notNew aa hb.lt;have al:=geTr K0.size aa;clear aa;refine jG ?_;replace hb:=hb.ext ad;refine jR<|jS hb ?_;intro aD hb ae;replace K0:=K0.ext ad;replace K0:=K0.tf ae (rfl);refine jG ?_;refine jJ Tryz.func66 ?_;rw[←hE,begE_ok hnb hto0 hc83 (by omega)];replace a9:=a9.keepO ae (noOne ak);exact⟨_,rfl,rfl,.inr ⟨rfl,ai,hb,a9,aj,fun q_ h_=>al q_ h_,K0⟩⟩
end Go.Proofs.YtocgdeefgohdhaaGreat
