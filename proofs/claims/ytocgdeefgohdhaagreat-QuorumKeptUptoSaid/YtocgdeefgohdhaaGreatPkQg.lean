/-
  Qg
-/
import Derived.Test.YtocgdeefgohdhaaGreatRows
import Derived.Test.YtocgdeefgohdhaaGreatPkQf
import Derived.Test.YtocgdeefgohdhaaGreatPkI
set_option linter.all false
set_option maxRecDepth 100000
set_option maxHeartbeats 4000000
namespace Go.Proofs.YtocgdeefgohdhaaGreat
attribute [local irreducible] RD RS St1 RL RA RT RT1 Run
def Six.only (s:Six):Six:=⟨s.ea,s.ec,s.ma,s.mc,s.ca,s.cc,none,0,none,0,none,0⟩
abbrev cartMsg (k f t r:Int)(key:ByteArray)(o:Int)(v:MV):MV:=⟨k,f,t,r,key,o,0,0,0,0,0,v.ent,v.mrk,v.cl,[],[],[]⟩
section
variable {w :World}{s:Six}{v x:MV}{ts:List Mg}{k f t r o:Int}{key:ByteArray}
theorem only_S :∀q,ownS s.only q→cartS s q:=by
 rintro q (h|h|h|h|h|h)
 ·exact .inl h
 ·exact .inr (.inl h)
 ·exact .inr (.inr h)
 ·exact absurd h (own_none _)
 ·exact absurd h (own_none _)
 ·exact absurd h (own_none _)
theorem only_O (h:CartO w s v):SixO w s.only (cartMsg k f t r key o v):=⟨h.ent,h.mrk,h.cl,OwnSl.nil _ _,OwnSl.nil _ _,OwnSl.nil _ _⟩
theorem only_R (h:CartR w s v):SixR w s.only (cartMsg k f t r key o v):=⟨h.ent,h.mrk,h.cl,SlOf.nil _ _,SlOf.nil _ _,SlOf.nil _ _⟩
theorem only_A (h:CartA s):SixA s.only:=by
 have n:∀(P:Nat→Prop) q,P q→¬own none q:=fun _ q _=>own_none q
 have n2:∀(P:Nat→Prop) q,own none q→¬P q:=fun _ q h=>absurd h (own_none q)
 unfold SixA Six.only
 simp only[List.pairwise_cons,List.mem_cons,List.not_mem_nil,or_false,forall_eq_or_imp,forall_eq]
 exact⟨⟨h.em,h.ec,n _,n _,n _⟩,⟨h.mc,n _,n _,n _⟩,⟨n _,n _,n _⟩,⟨n2 _,n2 _⟩,n2 _,fun _ h=>absurd h (by simp),List.Pairwise.nil⟩
theorem only_case :∀q,mgsS (ts++[⟨x,s.only⟩]) q→cartS s q∨mgsS ts q:=fun q h=>(mgs_snoc.1 h).elim .inr (fun h=> .inl (only_S q h))
theorem cartMsg_ok (h:VOk v):VOk (cartMsg k f t r key o v):=⟨h.ent,h.mrk,h.cl,Nat.zero_le _,Nat.zero_le _,Nat.zero_le _⟩
theorem map_take_succ {α β:Type}{f:α→β}{l:List α}{i:Nat}{t:α}(h:l[i]? =some t):(l.take (i+1)).map f=(l.take i).map f++[f t]:=by rw[take_snocD h,List.map_append];rfl
end
section
variable {w :World}{m:Nat}{M:Mq}
theorem MqAt.mk0 (hga:M.ga=none)(hgc:M.gc=0)(hgt:M.got=[])(hb:Blk w m M.cells 99)(hk1:M.put=true→Blk w M.kb (c3 M.cart M.cs) 136)(hk2:M.put=false→Blk w M.kb (c3 M.cart M.cs++[.int .i64 M.fine,.bool M.bad]) 143)
  (ht:SlOf w M.ta M.targets) (hs:CartR w M.ss M.seen) (hc:CartR w M.cs M.cart) (n1:m≠M.kb) (t1:¬own M.ta m) (t2:¬own M.ta M.kb) (s1:¬cartS M.ss m) (s2:¬cartS M.ss M.kb) (c1:¬cartS M.cs m) (c2:¬cartS M.cs M.kb):MqAt w m M where
 blk:=hb
 kput:=hk1
 kget:=hk2
 got:=by rw[hga,hgc,hgt];exact OwnSl.nil _ _
 rest:=⟨ht,hs,hc,by rw[hgt];simp⟩
 nk:=n1
 ng:=by rw[hga];exact own_none _
 nkg:=by rw[hga];exact own_none _
 nr:=by
  rw[hga]
  rintro q (⟨-,h⟩|h|h|⟨p,hp,-⟩)
  ·exact⟨fun e=>t1 (e▸h),fun e=>t2 (e▸h),own_none _⟩
  ·exact⟨fun e=>s1 (e▸cart_d q h),fun e=>s2 (e▸cart_d q h),own_none _⟩
  ·exact⟨fun e=>c1 (e▸cart_d q h),fun e=>c2 (e▸cart_d q h),own_none _⟩
  ·rw[hgt]at hp;simp at hp
theorem mq0_S (hga:M.ga=none)(hgt:M.got=[]):∀q,mqS m M q→q=m∨q=M.kb∨own M.ta q∨cartS M.ss q∨cartS M.cs q:=by
 rintro q (h|h|h|⟨-,h⟩|h|h|⟨p,hp,-⟩)
 ·exact .inl h
 ·exact .inr (.inl h)
 ·rw[hga]at h;exact absurd h (own_none _)
 ·exact .inr (.inr (.inl h))
 ·exact .inr (.inr (.inr (.inl (cart_d q h))))
 ·exact .inr (.inr (.inr (.inr (cart_d q h))))
 ·rw[hgt]at hp;simp at hp
end
attribute [local irreducible] X
theorem qput_ (self req nd now:Int)(id knd qty price:Int)(key item:ByteArray)(va:MV)(sa:Six)(al:Option Addr)(ts:List TargetC)(lc:Nat)(vc:MV)(sc:Six)(w:World)(hA:CartR w sa va)(hoa:CartOk va sa)(hl:SlOf w al ts)(hll:ts.length≤1048576)(hC:CartR w sc vc)(hoc:CartOk vc sc):
  Calls Tryz.prog 29 #[.int .i64 (self),.int .i64 (req),.agg #[.int .i64 (id),.int .i64 (knd),.string (key),.string (item),.int .i64 (qty),.int .u64 (price),.slice (sa.ea) (va.ent.length) (sa.ec),.slice (sa.ma) (va.mrk.length) (sa.mc),.slice (sa.ca) (va.cl.length) (sa.cc)],.agg #[.slice (sc.ea) (vc.ent.length) (sc.ec),.slice (sc.ma) (vc.mrk.length) (sc.mc),.slice (sc.ca) (vc.cl.length) (sc.cc)],.slice (al) (ts.length) (lc),.int .i64 (nd),.int .i64 (now)] w (Ret (fun r w'=>((begE self req nd now ts (canE vc.mrk vc.cl vc.ent))≠0∧r= .tuple #[.pointer none,.slice none 0 0,.int .i64 (begE self req nd now ts (canE vc.mrk vc.cl vc.ent))]∧Ext w w')∨((begE self req nd now ts (canE vc.mrk vc.cl vc.ent))=0∧∃m F a c ks,r= .tuple #[jp m,.slice a (ks.map Mg.c).length c,.int .i64 0]∧MachAt w' m F (⟨self,req,nd,now,id,key,va,ts,[],false,false,true,0,true,vc,0,false⟩:PM)∧OwnSl w' 48 a c (ks.map Mg.c)∧MgsAt w' ks∧ks.map Mg.v=ts.map (fun t=>cartMsg 1 self t.node req key t.owner vc)∧(∀q,F q→w.heap.size≤q)∧(∀q,own a q→w.heap.size≤q)∧(∀q,mgsS ks q→w.heap.size≤q)∧(∀q,F q→¬own a q)∧(∀q,F q→¬mgsS ks q)∧(∀q,mgsS ks q→¬own a q)∧Ext w w'))):=by
 obtain⟨ha1,ha2,ha3,-,-,-⟩:=hoa.ok;obtain⟨hc1,hc2,hc3,-,-,-⟩:=hoc.ok;refine calls_run (n:=70) Tryz.func29 rfl rfl rfl ?_;refine jG ?_;refine jR<|jB ?_;intro aE cC bb a1 aT;have:w.heap.size≤aE:=bb;clear bb;have K0:=(aT:Ext w _);refine jR<|jB ?_;intro aF cD aU a0 aR;have cE:=ltLe a1.lt aU;have:=Nat.le_trans K0.size aU;clear aU;refine jG ?_;refine Run.drawS [] [0,1,2,3,1004,5,1007,2006,2008,9,2010,1011,12,2013,14] ?_;intro cF aN;replace a1:=(a1.ext aR).ext aN;replace a0:=a0.ext aN;refine jM (jb a1 (jb a0 Jn)) ?_;refine jG ?_;replace K0:=(K0.ext aR).ext aN;refine jU rfl<|jC (clone_t _ _ _ _ (hl.ext K0) (by omega)) ?_;rintro _ cG ⟨ac,az,rfl,a2,bc,aO⟩;have bz:=geTr K0.size bc;clear bc;replace a1:=a1.ext aO;replace a0:=a0.ext aO;refine jG ?_;replace hC:=(((hC.ext aT).ext aR).ext aN).ext aO;refine jU rfl<|jC (qcopied_ vc sc _ hC hoc.ok) ?_;rintro _ cH ⟨a6,rfl,a3,cI,be,aK⟩;replace K0:=K0.ext aO;have bA:=geTr K0.size be;clear be;replace a1:=a1.ext aK;replace a0:=a0.ext aK;refine jG ?_;refine jP ?_ (hx:=by exact fun _=>(x_build (cells:=#[.slice (a6.ea) (vc.ent.length) (a6.ec),.slice (a6.ma) (vc.mrk.length) (a6.mc),.slice (a6.ca) (vc.cl.length) (a6.cc)]) (by kernel_rfl)));refine jU rfl<|jB ?_;intro a7 cJ aL a5 aJ;have cK:=ltLe a1.lt aL;have cL:=ltLe a0.lt aL;replace a2:=a2.ext aK;have bB:=ltNo a2.own_lt aL;have bC:=ltNo a3.own_lt aL;replace K0:=K0.ext aK;have:=Nat.le_trans K0.size aL;clear aL;replace a1:=a1.ext aJ;replace a0:=a0.ext aJ;refine jG ?_;refine jH ?_ (hx:=by exact(by rintro _ ⟨a1,a0,-⟩;exact(x_mkIface (v:=jp a7) Tryz.underlying134 rfl)));refine jP ?_ (hx:=by exact fun _=>(x_build (cells:=#[.int .i64 (self),.int .i64 (req),.int .i64 (nd),.int .i64 (now),.int .i64 (id),.int .i64 (knd),.string (key),.string (item),.int .i64 (qty),.int .u64 (price),.slice (sa.ea) (va.ent.length) (sa.ec),.slice (sa.ma) (va.mrk.length) (sa.mc),.slice (sa.ca) (va.cl.length) (sa.cc),.slice (ac) (ts.length) (az),.slice (none) (0) (0),.bool (false),.bool (false),.bool (false),.int .i64 (0),.iface 134 (jp a7)]) (by kernel_rfl)));refine jU rfl<|jB ?_;intro a8 cM aC a4 aG;have cN:=ltLe a1.lt aC;have cO:=ltLe a0.lt aC;have cP:=ltLe a5.lt aC;replace hA:=(((((hA.ext aT).ext aR).ext aN).ext aO).ext aK).ext aJ;have aV:=ltNo hA.own_lt aC;replace hC:=(hC.ext aK).ext aJ;have bg:=ltNo hC.own_lt aC;replace a2:=a2.ext aJ;have aS:=ltNo a2.own_lt aC;replace a3:=a3.ext aJ;have aW:=ltNo a3.own_lt aC;replace K0:=K0.ext aJ;have:=Nat.le_trans K0.size aC;clear aC;replace a1:=a1.ext aG;replace a0:=a0.ext aG;refine jG ?_;replace hC:=hC.ext aG;refine jR<|jC (canC_ sc.ma vc.mrk sc.mc sc.ca vc.cl sc.cc sc.ea vc.ent sc.ec _ hoc.cap (hC).mrk (hC).cl (hC).ent (by omega) (by omega) (by omega) hoc.ent) ?_;rintro _ cQ ⟨rfl,aD⟩;replace hA:=(hA.ext aG).ext aD;replace a2:=(a2.ext aG).ext aD;replace a4:=a4.ext aD;refine jR<|jC (begin_ a8 (⟨self,req,nd,now,id,knd,key,item,qty,price,va,sa,ac,az,ts,none,0,[],false,false,false,0,true,a7,vc,a6,0,false⟩:Mq) (canE vc.mrk vc.cl vc.ent) (begE self req nd now ts (canE vc.mrk vc.cl vc.ent)) _ rfl a4 ⟨a2.sl⟩ hA hoa a2.le_cap (fun h_=>aS h_.2) aV (by simp only;omega)) ?_;replace a3:=(a3.ext aG).ext aD;replace a5:=(a5.ext aG).ext aD;replace K0:=(K0.ext aG).ext aD;replace hC:=hC.ext aD;replace a1:=a1.ext aD;replace a0:=a0.ext aD;rintro _ bh ⟨rfl,(⟨aP,aH⟩|⟨aP,ab,bi,aa,cR,aQ,aI⟩)⟩
 ·replace hA:=hA.keepO aH (noOne aV)
  clear a4;refine jG ?_;replace hC:=hC.keepO aH (noOne bg);replace a1:=a1.kp aH;replace a0:=a0.kp aH;replace a2:=a2.keepO aH (noOne aS);replace a3:=a3.keepO aH (noOne aW);replace a5:=a5.kp aH;replace K0:=K0.n1 aH;refine jF ?_ ?_
  ·intro hc42
   refine jG ?_;refine Run.ret3 (v:= .pointer none) (x:= .slice (none) (0) (0)) (y:= .int .i64 ((begE self req nd now ts (canE vc.mrk vc.cl vc.ent)))) Tryz.func29 rfl rfl rfl rfl ?_;exact⟨_,rfl,.inl ⟨aP,rfl,K0⟩⟩
  ·intro hc42
   exact absurd hc42 aP
 ·have cS:=apartNew aQ hA.own_lt
  have bD:=notNew aQ a5.lt;have bE:=notNew aQ a4.lt;have bF:=geTr K0.size aQ;clear aQ;replace a4:=bi;clear bi;rw[aP];refine jG ?_;refine Run.condF rfl ?_;have hQ:=MgsAt.nil bh;refine jG ?_;replace hA:=hA.keepO aI (noOne aV);replace hC:=hC.keepO aI (noOne bg);replace a1:=a1.kp aI;replace a0:=a0.kp aI;replace a2:=a2.keepO aI (noOne aS);replace a3:=a3.keepO aI (noOne aW);replace a5:=a5.kp aI;replace K0:=K0.n1 aI;refine Run.loop (ι:=Nat) (fun i ρ' w'=>∃am:Option Addr,∃cm:Nat,∃ks:List Mg,Holds ρ' [(10,jp aF),(17,jp a8),(19,.slice (am) ((ks.map Mg.c).length) (cm)),(47,.slice (ac) (ts.length) (az)),(48,.int .i64 (((ts.length:Nat):Int))),(49,.int .i64 (((i:Nat):Int)))]∧Ext w w'∧(Blk w' aE [.int .i64 (id),.int .i64 (knd),.string (key),.string (item),.int .i64 (qty),.int .u64 (price),.slice (sa.ea) (va.ent.length) (sa.ec),.slice (sa.ma) (va.mrk.length) (sa.mc),.slice (sa.ca) (va.cl.length) (sa.cc)] 31)∧(Blk w' aF [.slice (sc.ea) (vc.ent.length) (sc.ec),.slice (sc.ma) (vc.mrk.length) (sc.mc),.slice (sc.ca) (vc.cl.length) (sc.cc)] 29)∧(Blk w' a7 [.slice (a6.ea) (vc.ent.length) (a6.ec),.slice (a6.ma) (vc.mrk.length) (a6.mc),.slice (a6.ca) (vc.cl.length) (a6.cc)] 136)∧(Blk w' a8 [.int .i64 (self),.int .i64 (req),.int .i64 (nd),.int .i64 (now),.int .i64 (id),.int .i64 (knd),.string (key),.string (item),.int .i64 (qty),.int .u64 (price),.slice (ab.ea) (va.ent.length) (ab.ec),.slice (ab.ma) (va.mrk.length) (ab.mc),.slice (ab.ca) (va.cl.length) (ab.cc),.slice (ac) (ts.length) (az),.slice (none) (0) (0),.bool (false),.bool (false),.bool (true),.int .i64 (0),.iface 134 (jp a7)] 99)∧(CartR w' sa va)∧(CartR w' sc vc)∧(OwnSl w' 53 (ac) (az) (ts))∧(CartO w' a6 vc)∧(CartO w' ab va)∧(MgsAt w' ks)∧(OwnSl w' 48 am cm (ks.map Mg.c))∧(¬mgsS ks aE)∧(¬mgsS ks aF)∧(¬mgsS ks a7)∧(¬mgsS ks a8)∧(∀q_,mgsS ks q_→¬cartD sa va q_)∧(∀q_,mgsS ks q_→¬cartD sc vc q_)∧(∀q_,mgsS ks q_→¬own ac q_)∧(∀q_,mgsS ks q_→¬cartS a6 q_)∧(∀q_,mgsS ks q_→¬cartS ab q_)∧(∀q_,mgsS ks q_→¬own am q_)∧(∀q_,mgsS ks q_→w.heap.size≤q_)∧(¬own am aE)∧(¬own am aF)∧(¬own am a7)∧(¬own am a8)∧(∀q_,own am q_→¬cartD sa va q_)∧(∀q_,own am q_→¬cartD sc vc q_)∧(∀q_,own am q_→¬own ac q_)∧(∀q_,own am q_→¬cartS a6 q_)∧(∀q_,own am q_→¬cartS ab q_)∧(∀q_,own am q_→w.heap.size≤q_)∧(i≤ts.length)∧(ks.map Mg.v=(ts.take i).map (fun t=>cartMsg 1 self t.node req key t.owner vc))) (fun i=>ts.length-i) 0 ?_ ?_
  ·have bG:=OwnSl.nil (α:=MsgC) bh 48
   refine⟨_,_,[],⟨rfl,rfl,rfl,rfl,rfl,rfl,trivial⟩,K0,a1,a0,a5,a4,hA,hC,a2,a3,aa,hQ,bG,(mgs_nil aE),(mgs_nil aF),(mgs_nil a7),(mgs_nil a8),(fun q_ h1 _=>mgs_nil q_ h1),(fun q_ h1 _=>mgs_nil q_ h1),(fun q_ h1 _=>mgs_nil q_ h1),(fun q_ h1 _=>mgs_nil q_ h1),(fun q_ h1 _=>mgs_nil q_ h1),(fun q_ h1 h2=>(fun q_ h1 _=>own_none q_ h1) q_ h2 h1),(fun q_ h1=>absurd h1 (mgs_nil q_)),(own_none aE),(own_none aF),(own_none a7),(own_none a8),(fun q_ h1 _=>own_none q_ h1),(fun q_ h1 _=>own_none q_ h1),(fun q_ h1 _=>own_none q_ h1),(fun q_ h1 _=>own_none q_ h1),(fun q_ h1 _=>own_none q_ h1),(fun q_ h1=>absurd h1 (own_none q_)),?_,?_⟩
   ·omega
   ·rfl
  clear hA hC a1 a0 a2 a3 a5 a4 aa hQ;clear K0;rintro i cT cU ⟨am,cm,ks,bj,K0,a1,a0,a5,a4,hA,hC,a2,a3,aa,ad,aA,bH,bI,bk,bl,bJ,bK,bm,bn,bo,aX,bp,bq,bs,aY,aZ,bt,bu,b0,b1,b2,b3,hi,hkv⟩ ih1;obtain⟨ρ₀,rfl⟩:=bj.ex;clear bj;refine jG ?_;refine jF ?_ ?_
  ·intro hc50
   obtain⟨cV,cW,t,ht,cX,bL⟩:=a2.sl.eo i;refine jG ?_;refine jR<|jA ?_;intro cY cZ ae av aw;have d0:=ltLe a1.lt ae;have d1:=ltLe a0.lt ae;have d2:=ltLe a5.lt ae;have d3:=ltLe a4.lt ae;have d4:=ltLe bL.lt ae;have bM:=ltNo hA.own_lt ae;have bN:=ltNo hC.own_lt ae;have bO:=ltNo a2.own_lt ae;have bP:=ltNo a3.own_lt ae;have bQ:=ltNo aa.own_lt ae;have bR:=ltNo ad.own_lt ae;have bS:=ltNo aA.own_lt ae;have:=Nat.le_trans K0.size ae;clear ae;refine jR<|jS av ?_;intro d5 av ax;refine jG ?_;replace a4:=(a4.ext aw).kp ax;refine jR<|jC (msgq_ a8 (⟨self,req,nd,now,id,knd,key,item,qty,price,va,ab,ac,az,ts,none,0,[],false,false,true,0,true,a7,vc,a6,0,false⟩:Mq) 1 ((t).node) _ a4) ?_;rintro _ d6 ⟨rfl,ak⟩;refine jR<|jA ?_;intro d7 d8 af aB an;replace a1:=((a1.ext aw).kp ax).ext ak;have d9:=ltLe a1.lt af;replace a0:=((a0.ext aw).kp ax).ext ak;have da:=ltLe a0.lt af;replace a5:=((a5.ext aw).kp ax).ext ak;have db:=ltLe a5.lt af;replace a4:=a4.ext ak;have dc:=ltLe a4.lt af;replace av:=av.ext ak;have dd:=ltLe av.lt af;replace hA:=((hA.ext aw).keepO ax (noOne bM)).ext ak;have b4:=ltNo hA.own_lt af;replace hC:=((hC.ext aw).keepO ax (noOne bN)).ext ak;have b5:=ltNo hC.own_lt af;replace a2:=((a2.ext aw).keepO ax (noOne bO)).ext ak;have b6:=ltNo a2.own_lt af;replace a3:=((a3.ext aw).keepO ax (noOne bP)).ext ak;have b7:=ltNo a3.own_lt af;replace aa:=((aa.ext aw).keepO ax (noOne bQ)).ext ak;have b8:=ltNo aa.own_lt af;replace ad:=((ad.ext aw).keepO ax (noOne bR)).ext ak;have b9:=ltNo ad.own_lt af;replace aA:=((aA.ext aw).keepO ax (noOne bS)).ext ak;have ba:=ltNo aA.own_lt af;replace K0:=((K0.ext aw).n1 ax).ext ak;have:=Nat.le_trans K0.size af;clear af;refine jR<|jS aB ?_;intro de aB ao;refine jG ?_;refine Run.drawS [7] [0,1001,1002,4,2003,2005,6,2007] ?_;intro df ag;replace a0:=((a0.ext an).kp ao).ext ag;replace av:=((av.ext an).kp ao).ext ag;refine jM (jb a0 (jb av Jn)) ?_;refine jG ?_;replace hC:=((hC.ext an).keepO ao (noOne b5)).ext ag;refine jU rfl<|jC (qcopied_ vc sc _ hC hoc.ok) ?_;rintro _ dg ⟨a9,rfl,aM,bT,ah,ai⟩;replace a1:=((a1.ext an).kp ao).ext ag;have bU:=notNew ah a1.lt;have bV:=notNew ah a0.lt;replace a5:=((a5.ext an).kp ao).ext ag;have bW:=notNew ah a5.lt;replace a4:=((a4.ext an).kp ao).ext ag;have bX:=notNew ah a4.lt;replace hA:=((hA.ext an).keepO ao (noOne b4)).ext ag;have bY:=apartNew ah hA.own_lt;have bZ:=apartNew ah hC.own_lt;replace a2:=((a2.ext an).keepO ao (noOne b6)).ext ag;have c0:=apartNew ah a2.own_lt;replace a3:=((a3.ext an).keepO ao (noOne b7)).ext ag;have c1:=apartNew ah a3.own_lt;replace aa:=((aa.ext an).keepO ao (noOne b8)).ext ag;have c2:=apartNew ah aa.own_lt;replace ad:=((ad.ext an).keepO ao (noOne b9)).ext ag;have c4:=apartNew ah ad.own_lt;replace aA:=((aA.ext an).keepO ao (noOne ba)).ext ag;have bv:=apartNew ah aA.own_lt;replace aB:=aB.ext ag;have bw:=notNew ah aB.lt;replace K0:=((K0.ext an).n1 ao).ext ag;have c5:=geTr K0.size ah;clear ah;replace a0:=a0.ext ai;replace av:=av.ext ai;refine jG ?_;replace aB:=aB.ext ai;refine jU rfl<|jS aB ?_;intro dh aB aj;replace a0:=a0.kp aj;replace av:=av.kp aj;refine jG ?_;refine jU rfl<|jS aB ?_;intro di aB ap;have hkl:(ks.map Mg.c).length=i:=by have:=congrArg List.length hkv;simp only[List.length_map,List.length_take]at this⊢;omega
   refine jG ?_;refine jR<|St1.buildSlice ([(mkC (cartMsg 1 self t.node req key t.owner vc) a9.only)]:List MsgC) Tryz.underlying57 ty48 rfl rfl (by first|decide|(simp[Enc.size])) ?_;intro dj dk c6 c7 aq;clear c6;replace aA:=(((aA.ext ai).keepO aj (noOne ba)).keepO ap (noOne ba)).ext aq;refine jR<|St1.append (xs:=ks.map Mg.c) (ys:=([(mkC (cartMsg 1 self t.node req key t.owner vc) a9.only)]:List MsgC)) Tryz.underlying57 ty48 rfl rfl rfl aA c7.sl (by first|omega|(simp only[lr];omega)) (by decide) ?_;intro ar dl c8 bx ay au c9;replace a1:=(((a1.ext ai).kp aj).kp ap).ext aq;have cb:¬own ar aE:=au.not bq a1.lt;replace a0:=(a0.kp ap).ext aq;have cd:¬own ar aF:=au.not bs a0.lt;replace a5:=(((a5.ext ai).kp aj).kp ap).ext aq;have ce:¬own ar a7:=au.not aY a5.lt;replace a4:=(((a4.ext ai).kp aj).kp ap).ext aq;have cf:¬own ar a8:=au.not aZ a4.lt;replace hA:=(((hA.ext ai).keepO aj (noOne b4)).keepO ap (noOne b4)).ext aq;have cg:∀q_,own ar q_→¬cartD sa va q_:=au.apart bt hA.own_lt;replace hC:=(((hC.ext ai).keepO aj (noOne b5)).keepO ap (noOne b5)).ext aq;have ch:∀q_,own ar q_→¬cartD sc vc q_:=au.apart bu hC.own_lt;replace a2:=(((a2.ext ai).keepO aj (noOne b6)).keepO ap (noOne b6)).ext aq;have ci:∀q_,own ar q_→¬own ac q_:=au.apart b0 a2.own_lt;replace a3:=(((a3.ext ai).keepO aj (noOne b7)).keepO ap (noOne b7)).ext aq;have cj:∀q_,own ar q_→¬cartS a6 q_:=au.apart b1 a3.own_lt;replace aa:=(((aa.ext ai).keepO aj (noOne b8)).keepO ap (noOne b8)).ext aq;have ck:∀q_,own ar q_→¬cartS ab q_:=au.apart b2 aa.own_lt;replace ad:=(((ad.ext ai).keepO aj (noOne b9)).keepO ap (noOne b9)).ext aq;have cn:∀q_,own ar q_→¬mgsS ks q_:=au.apart (fun q_ h1 h2=>aX q_ h2 h1) ad.own_lt;replace aM:=((aM.keepO aj (noOne bw)).keepO ap (noOne bw)).ext aq;have co:∀q_,own ar q_→¬cartS a9 q_:=au.apart (fun q_ h1 h2=>bv q_ h2 h1) aM.own_lt;replace K0:=(((K0.ext ai).n1 aj).n1 ap).ext aq;have cp:∀q_,own ar q_→w.heap.size≤q_:=au.ge b3 K0.size;clear au;clear c9;refine jG ?_;refine jV (litI (c:=((i+1:Nat):Int)) (x_add rfl rfl (by omega) (by omega)) rfl) ?_;refine jG ?_;replace ad:=ad.keepO ay aX;replace aM:=aM.keepO ay bv;have cq:MgsAt c8 (ks++[(⟨(cartMsg 1 self t.node req key t.owner vc),a9.only⟩:Mg)]):=MgsAt.snoc ad ⟨only_O aM,only_A bT,cartMsg_ok hoc.ok⟩ (fun q_ h_ h2_=>(fun q_ h1 h2=>c4 q_ h2 h1) q_ h_ (only_S q_ h2_));have cr:¬mgsS (ks++[(⟨(cartMsg 1 self t.node req key t.owner vc),a9.only⟩:Mg)]) aE:=fun x_=>(only_case _ x_).elim bU (fun y_=>bH y_);have cs:¬mgsS (ks++[(⟨(cartMsg 1 self t.node req key t.owner vc),a9.only⟩:Mg)]) aF:=fun x_=>(only_case _ x_).elim bV (fun y_=>bI y_);have ct:¬mgsS (ks++[(⟨(cartMsg 1 self t.node req key t.owner vc),a9.only⟩:Mg)]) a7:=fun x_=>(only_case _ x_).elim bW (fun y_=>bk y_);have cu:¬mgsS (ks++[(⟨(cartMsg 1 self t.node req key t.owner vc),a9.only⟩:Mg)]) a8:=fun x_=>(only_case _ x_).elim bX (fun y_=>bl y_);have cv:∀q_,mgsS (ks++[(⟨(cartMsg 1 self t.node req key t.owner vc),a9.only⟩:Mg)]) q_→¬cartD sa va q_:=fun q_ x_ z_=>(only_case _ x_).elim (fun y_=>bY q_ y_ z_) (fun y_=>(fun y_=>bJ q_ y_ z_) y_);have cw:∀q_,mgsS (ks++[(⟨(cartMsg 1 self t.node req key t.owner vc),a9.only⟩:Mg)]) q_→¬cartD sc vc q_:=fun q_ x_ z_=>(only_case _ x_).elim (fun y_=>bZ q_ y_ z_) (fun y_=>(fun y_=>bK q_ y_ z_) y_);have cx:∀q_,mgsS (ks++[(⟨(cartMsg 1 self t.node req key t.owner vc),a9.only⟩:Mg)]) q_→¬own ac q_:=fun q_ x_ z_=>(only_case _ x_).elim (fun y_=>c0 q_ y_ z_) (fun y_=>(fun y_=>bm q_ y_ z_) y_);have cy:∀q_,mgsS (ks++[(⟨(cartMsg 1 self t.node req key t.owner vc),a9.only⟩:Mg)]) q_→¬cartS a6 q_:=fun q_ x_ z_=>(only_case _ x_).elim (fun y_=>c1 q_ y_ z_) (fun y_=>(fun y_=>bn q_ y_ z_) y_);have cz:∀q_,mgsS (ks++[(⟨(cartMsg 1 self t.node req key t.owner vc),a9.only⟩:Mg)]) q_→¬cartS ab q_:=fun q_ x_ z_=>(only_case _ x_).elim (fun y_=>c2 q_ y_ z_) (fun y_=>(fun y_=>bo q_ y_ z_) y_)
   have cA:∀q_,mgsS (ks++[(⟨(cartMsg 1 self t.node req key t.owner vc),a9.only⟩:Mg)]) q_→¬own ar q_:=fun q_ x_ z_=>(only_case _ x_).elim (fun y_=>(fun q_ h1 h2=>co q_ h2 h1) q_ y_ z_) (fun y_=>(fun y_=>(fun q_ h1 h2=>cn q_ h2 h1) q_ y_ z_) y_);have cB:∀q_,mgsS (ks++[(⟨(cartMsg 1 self t.node req key t.owner vc),a9.only⟩:Mg)]) q_→w.heap.size≤q_:=fun q_ x_=>(only_case _ x_).elim (fun y_=>c5 q_ y_) (fun y_=>(fun y_=>bp q_ y_) y_);have e:(ks++[(⟨(cartMsg 1 self t.node req key t.owner vc),a9.only⟩:Mg)]).map Mg.c=ks.map Mg.c++[mkC (cartMsg 1 self t.node req key t.owner vc) a9.only]:=by rw[List.map_append];rfl
   have hkv2:(ks++[(⟨(cartMsg 1 self t.node req key t.owner vc),a9.only⟩:Mg)]).map Mg.v=(ts.take (i+1)).map (fun t=>cartMsg 1 self t.node req key t.owner vc):=by rw[List.map_append,hkv,map_take_succ ht];rfl
   rw[←e]at bx;refine ih1 (i+1) _ _ ?_ (by omega);rw[←e];replace a1:=a1.keep ay bq;replace a0:=a0.keep ay bs;replace a5:=a5.keep ay aY;replace a4:=a4.keep ay aZ;replace hA:=hA.keepO ay (fun q_ h1 h2=>bt q_ h2 h1);replace hC:=hC.keepO ay (fun q_ h1 h2=>bu q_ h2 h1);replace a2:=a2.keepO ay (fun q_ h1 h2=>b0 q_ h2 h1);replace a3:=a3.keepO ay (fun q_ h1 h2=>b1 q_ h2 h1);replace aa:=aa.keepO ay (fun q_ h1 h2=>b2 q_ h2 h1);replace K0:=K0.new ay b3;refine⟨_,_,(ks++[(⟨(cartMsg 1 self t.node req key t.owner vc),a9.only⟩:Mg)]),⟨rfl,rfl,rfl,rfl,rfl,rfl,trivial⟩,K0,a1,a0,a5,a4,hA,hC,a2,a3,aa,cq,bx,cr,cs,ct,cu,cv,cw,cx,cy,cz,cA,cB,cb,cd,ce,cf,cg,ch,ci,cj,ck,cp,?_,?_⟩
   ·omega
   ·exact hkv2
  ·intro hc50
   refine jG ?_;refine Run.ret3 (v:=jp a8) (x:= .slice (am) ((ks.map Mg.c).length) (cm)) (y:= .int .i64 (0)) Tryz.func29 rfl rfl rfl rfl ?_;obtain⟨hz1,hz2,hz3,hz4⟩:=begE_zero aP;have hM:=MqAt.mk0 (m:=a8) (M:=(⟨self,req,nd,now,id,knd,key,item,qty,price,va,ab,ac,az,ts,none,0,[],false,false,true,0,true,a7,vc,a6,0,false⟩:Mq)) rfl rfl rfl a4 (fun _=>a5) (fun h_=>nomatch h_) a2.sl aa.r a3.r (show a8≠a7 by omega) aS bB bE bD aW bC;have hlc:=a2.le_cap;have hok:MqOk (⟨self,req,nd,now,id,knd,key,item,qty,price,va,ab,ac,az,ts,none,0,[],false,false,true,0,true,a7,vc,a6,0,false⟩:Mq):=⟨by unfold begA at hz1;simp only;omega,hlc,by simp only;omega,Nat.zero_le _,⟨hoa.ok,hoa.ent,aa.ent.le_cap⟩,⟨hoc.ok,hoc.ent,a3.ent.le_cap⟩,fun _ h_=>absurd h_ (by simp),by simp,by unfold begA at hz1;simp only;omega⟩
   have hF0:∀q_,mqS a8 (⟨self,req,nd,now,id,knd,key,item,qty,price,va,ab,ac,az,ts,none,0,[],false,false,true,0,true,a7,vc,a6,0,false⟩:Mq) q_→w.heap.size≤q_:=by
    intro q_ h_;rcases mq0_S rfl rfl q_ h_ with h_|h_|h_|h_|h_
    ·have h2_:q_=a8:=h_;omega
    ·have h2_:q_=a7:=h_;omega
    ·exact bz q_ h_
    ·exact bF q_ h_
    ·exact bA q_ h_
   have hF1:∀q_,mqS a8 (⟨self,req,nd,now,id,knd,key,item,qty,price,va,ab,ac,az,ts,none,0,[],false,false,true,0,true,a7,vc,a6,0,false⟩:Mq) q_→¬own am q_:=by
    intro q_ h_;rcases mq0_S rfl rfl q_ h_ with h_|h_|h_|h_|h_
    ·have h2_:q_=a8:=h_;exact fun z_=>aZ (show own am a8 from h2_▸z_)
    ·have h2_:q_=a7:=h_;exact fun z_=>aY (show own am a7 from h2_▸z_)
    ·exact fun z_=>b0 q_ z_ h_
    ·exact fun z_=>b2 q_ z_ h_
    ·exact fun z_=>b1 q_ z_ h_
   have hF2:∀q_,mqS a8 (⟨self,req,nd,now,id,knd,key,item,qty,price,va,ab,ac,az,ts,none,0,[],false,false,true,0,true,a7,vc,a6,0,false⟩:Mq) q_→¬mgsS ks q_:=by
    intro q_ h_;rcases mq0_S rfl rfl q_ h_ with h_|h_|h_|h_|h_
    ·have h2_:q_=a8:=h_;exact fun z_=>bl (show mgsS ks a8 from h2_▸z_)
    ·have h2_:q_=a7:=h_;exact fun z_=>bk (show mgsS ks a7 from h2_▸z_)
    ·exact fun z_=>bm q_ z_ h_
    ·exact fun z_=>bo q_ z_ h_
    ·exact fun z_=>bn q_ z_ h_
   exact⟨_,rfl,.inr ⟨rfl,a8,_,am,cm,ks,rfl,⟨_,rfl,rfl,hM,hok⟩,aA,ad,by rw[hkv,List.take_of_length_le (by omega)],hF0,b3,bp,hF1,hF2,aX,K0⟩⟩
end Go.Proofs.YtocgdeefgohdhaaGreat
