/-
  Qi
-/
import Derived.Test.YtocgdeefgohdhaaGreatRows
import Derived.Test.YtocgdeefgohdhaaGreatPkQh
import Derived.Test.YtocgdeefgohdhaaGreatPkI
set_option linter.all false
set_option maxRecDepth 100000
set_option maxHeartbeats 4000000
namespace Go.Proofs.YtocgdeefgohdhaaGreat
attribute [local irreducible] RD RS St1 RL RA RT RT1 Run
section
variable {self req need began e:Int}{l:List TargetC}
theorem beg1_zero (h:beg1 self req need began l=0):¬begA self req need began∧tgOk l l.length:=by
 by_cases h1:begA self req need began
 ·rw[beg1_a h1]at h;omega
 by_cases h2:tgOk l l.length
 ·exact⟨h1,h2⟩
 ·rw[beg1_t h2]at h;omega
theorem begE_one (h:beg1 self req need began l≠0):begE self req need began l e=beg1 self req need began l:=by
 by_cases h1:begA self req need began
 ·rw[beg1_a h1,begE_a h1]
 by_cases h2:tgOk l l.length
 ·exact absurd (beg1_ok h1 h2) h
 ·rw[beg1_t h2,begE_t h1 h2]
end
abbrev mkR (R0:Rq)(n b1 b2 b3:Nat):Rq:={R0 with aa:=(some ⟨b1,0,none⟩:Option Addr),ac:=n,ans:=List.replicate n false,ha:=(some ⟨b2,0,none⟩:Option Addr),hc:=n,there:=List.replicate n false,ca:=(some ⟨b3,0,none⟩:Option Addr),cc:=n,carts:=List.replicate n ⟨nilV,nilS⟩,oa:=none,oc:=0,order:=[]}
theorem RqAt.mk0 {w:World}{x n b1 b2 b3:Nat}(R0:Rq)(hb:Blk w x [.int .i64 (R0.self),.int .i64 (R0.req),.int .i64 (R0.need),.int .i64 (R0.begun),.bool (R0.put),.int .i64 (R0.id),.int .i64 (R0.knd),.string (R0.key),.string (R0.item),.int .i64 (R0.qty),.int .u64 (R0.price),.slice (R0.ss.ea) (R0.seen.ent.length) (R0.ss.ec),.slice (R0.ss.ma) (R0.seen.mrk.length) (R0.ss.mc),.slice (R0.ss.ca) (R0.seen.cl.length) (R0.ss.cc),.slice (R0.cs.ea) (R0.cart.ent.length) (R0.cs.ec),.slice (R0.cs.ma) (R0.cart.mrk.length) (R0.cs.mc),.slice (R0.cs.ca) (R0.cart.cl.length) (R0.cs.cc),.slice (R0.la) (R0.l.length) (R0.lc),.slice ((some ⟨b1,0,none⟩:Option Addr)) (n) (n),.slice ((some ⟨b2,0,none⟩:Option Addr)) (n) (n),.slice ((some ⟨b3,0,none⟩:Option Addr)) (n) (n),.slice (none) (0) (0),.int .i64 (R0.kept),.int .i64 (R0.refused),.bool (R0.full),.bool (R0.told),.bool (R0.ok),.bool (R0.done)] 118)(h1:OwnSl w 4 (some ⟨b1,0,none⟩:Option Addr) n (List.replicate n false))(h2:OwnSl w 4 (some ⟨b2,0,none⟩:Option Addr) n (List.replicate n false))(h3:OwnSl w 29 (some ⟨b3,0,none⟩:Option Addr) n (List.replicate n (Mg.k ⟨nilV,nilS⟩)))
  (n1:¬own (some ⟨b1,0,none⟩:Option Addr) x) (n2:¬own (some ⟨b2,0,none⟩:Option Addr) x) (n3:¬own (some ⟨b3,0,none⟩:Option Addr) x) (p1:∀q,own (some ⟨b1,0,none⟩:Option Addr) q→¬own (some ⟨b2,0,none⟩:Option Addr) q) (p2:∀q,own (some ⟨b1,0,none⟩:Option Addr) q→¬own (some ⟨b3,0,none⟩:Option Addr) q) (p3:∀q,own (some ⟨b2,0,none⟩:Option Addr) q→¬own (some ⟨b3,0,none⟩:Option Addr) q):RqAt w x (mkR R0 n b1 b2 b3) where
 blk:=by simpa[Rq.cells,List.length_replicate]using hb
 ans:=h1
 there:=h2
 carts:=by simpa[List.map_replicate]using h3
 order:=OwnSl.nil _ _
 na:=n1
 nh:=n2
 nc:=n3
 no:=own_none _
 ah:=p1
 ac:=p2
 ao:=fun q _=>own_none q
 hc:=p3
 ho:=fun q _=>own_none q
 co:=fun q _=>own_none q
theorem mkR_S {x n b1 b2 b3:Nat}{R0:Rq}:∀q,refS x (mkR R0 n b1 b2 b3) q→q=x∨own (some ⟨b1,0,none⟩:Option Addr) q∨own (some ⟨b2,0,none⟩:Option Addr) q∨own (some ⟨b3,0,none⟩:Option Addr) q:=by
 rintro q (h|h|h|h|h)
 ·exact .inl h
 ·exact .inr (.inl h)
 ·exact .inr (.inr (.inl h))
 ·exact .inr (.inr (.inr h))
 ·exact absurd h (own_none _)
theorem mkR_in {w:World}{n b1 b2 b3:Nat}{R0:Rq}(h1:SlOf w R0.la R0.l)(h2:CartR w R0.ss R0.seen)(h3:CartR w R0.cs R0.cart)(h4:R0.l.length≤R0.lc)(h5:CartOk R0.seen R0.ss)(h6:CartOk R0.cart R0.cs):RIn w (mkR R0 n b1 b2 b3):=
 ⟨h1,h2,h3,fun m hm=>by rw[List.eq_of_mem_replicate hm];exact nil_R.cart,h4,h5,h6,fun m hm=>by rw[List.eq_of_mem_replicate hm];exact⟨nil_ok,fun _ h=>absurd h (by simp[nilV]),Nat.le_refl _⟩⟩
theorem mkR_ok {b1 b2 b3:Nat}{R0:Rq}(h1:1≤R0.need∧R0.need≤5)(h2:R0.l.length≤1048576)(h3:R0.kept=0)(h4:R0.refused=0)(h5:0≤R0.begun∧R0.begun≤1099511627776):RqOk (mkR R0 R0.l.length b1 b2 b3):=
 ⟨h1,h2,List.length_replicate,List.length_replicate,List.length_replicate,Nat.zero_le _,fun _ h=>absurd h (by simp),by simp only[h3,h4];omega,h5⟩
attribute [local irreducible] X
theorem rput_ (self req nd now:Int)(id knd qty price:Int)(key item:ByteArray)(va:MV)(sa:Six)(al:Option Addr)(ts:List TargetC)(lc:Nat)(vc:MV)(sc:Six)(w0 w:World)(hK0:Ext w0 w)(hA0:CartR w0 sa va)(hoa:CartOk va sa)(hl0:SlOf w0 al ts)(hll:ts.length≤1048576)(hlc:ts.length≤lc)(hC0:CartR w0 sc vc)(hoc:CartOk vc sc):
  Calls Tryz.prog 30 #[.int .i64 (self),.int .i64 (req),.agg #[.int .i64 (id),.int .i64 (knd),.string (key),.string (item),.int .i64 (qty),.int .u64 (price),.slice (sa.ea) (va.ent.length) (sa.ec),.slice (sa.ma) (va.mrk.length) (sa.mc),.slice (sa.ca) (va.cl.length) (sa.cc)],.agg #[.slice (sc.ea) (vc.ent.length) (sc.ec),.slice (sc.ma) (vc.mrk.length) (sc.mc),.slice (sc.ca) (vc.cl.length) (sc.cc)],.slice (al) (ts.length) (lc),.int .i64 (nd),.int .i64 (now)] w (Ret (fun r w'=>((begE self req nd now ts (canE vc.mrk vc.cl vc.ent))≠0∧r= .tuple #[.pointer none,.slice none 0 0,.int .i64 (begE self req nd now ts (canE vc.mrk vc.cl vc.ent))]∧Ext w w')∨((begE self req nd now ts (canE vc.mrk vc.cl vc.ent))=0∧∃x F a c,r= .tuple #[jp x,.slice a (ts.map (fun t=>mkC (cartMsg 1 self t.node req key t.owner vc) sc.only)).length c,.int .i64 0]∧RefAt w0 w' x F (⟨self,req,nd,now,true,id,key,va,vc,ts,List.replicate ts.length false,List.replicate ts.length false,(List.replicate ts.length (⟨nilV,nilS⟩:Mg)).map Mg.v,[],0,0,false,false,false,false⟩:RM)∧OwnSl w' 48 a c (ts.map (fun t=>mkC (cartMsg 1 self t.node req key t.owner vc) sc.only))∧(∀q,F q→w.heap.size≤q)∧(∀q,own a q→w.heap.size≤q)∧(∀q,F q→¬own a q)∧Ext w w'))):=by
 have hA:=hA0.ext hK0;have hl:=hl0.ext hK0;obtain⟨ha1,ha2,ha3,-,-,-⟩:=hoa.ok;have hC:=hC0.ext hK0;obtain⟨hc1,hc2,hc3,-,-,-⟩:=hoc.ok;refine calls_run (n:=74) Tryz.func30 rfl rfl rfl ?_;refine jG ?_;refine jR<|jB ?_;intro ao bp aI a1 ax;have:w.heap.size≤ao:=aI;clear aI;have K0:=(ax:Ext w _);refine jR<|jB ?_;intro aq bq ay a0 au;have bs:=ltLe a1.lt ay;have:=Nat.le_trans K0.size ay;clear ay;replace a1:=a1.ext au;refine jG ?_;replace hA:=(hA.ext ax).ext au;replace K0:=K0.ext au;refine jR<|jC (rbegin_ self req nd now id knd qty price key item va sa al ts lc (beg1 self req nd now ts) _ rfl hA (hl.ext K0) hll hlc) ?_;replace hC:=(hC.ext ax).ext au;rintro _ bt (⟨ap,rfl,a8⟩|⟨ap,a3,ah,ai,aj,rfl,a2,a4,a5,a6,az,aA,aB,aT,aU,aV,aC,aJ,aK,av,a8⟩)
 ·replace hA:=hA.ext a8
  refine jG ?_;replace hC:=hC.ext a8;replace a1:=a1.ext a8;replace a0:=a0.ext a8;replace K0:=K0.ext a8;refine jF ?_ ?_
  ·intro hc34
   refine jG ?_;refine Run.ret3 (v:= .pointer none) (x:= .slice (none) (0) (0)) (y:= .int .i64 (beg1 self req nd now ts)) Tryz.func30 rfl rfl rfl rfl ?_;rw[begE_one ap];exact⟨_,rfl,.inl ⟨ap,rfl,K0⟩⟩
  ·intro hc34
   exact absurd hc34 ap
 ·have bu:=apartNew aC hA.own_lt
  have aW:=geTr K0.size aC;have aX:=geTr K0.size aJ;have aY:=geTr K0.size aK;have aL:¬cartD sa va a3:=fun h_=>absurd (hA.own_lt _ h_) (by omega);have aM:¬cartD sc vc a3:=fun h_=>absurd (hC.own_lt _ h_) (by omega);have bv:ao<a3:=Nat.lt_of_lt_of_le a1.lt av;have bw:aq<a3:=Nat.lt_of_lt_of_le a0.lt av;have:w.heap.size≤a3:=Nat.le_trans K0.size av;clear aC aJ aK av;refine jG ?_;refine Run.condF rfl ?_;replace a0:=a0.ext a8;refine jG ?_;replace hC:=hC.ext a8;refine jR<|jC (rCan_ sc.ma vc.mrk sc.mc sc.ca vc.cl sc.cc sc.ea vc.ent sc.ec _ hoc.cap (hC).mrk (hC).cl (hC).ent (by omega) (by omega) (by omega) hoc.ent) ?_;rintro _ bx ⟨rfl,ad⟩;refine jG ?_;replace hA:=(hA.ext a8).ext ad;replace a1:=(a1.ext a8).ext ad;replace K0:=(K0.ext a8).ext ad;replace hC:=hC.ext ad;replace a0:=a0.ext ad;replace a4:=a4.ext ad;replace a5:=a5.ext ad;replace a6:=a6.ext ad;replace a2:=a2.ext ad;refine jF ?_ ?_
  ·intro hc39
   refine jG ?_;refine Run.ret3 (v:= .pointer none) (x:= .slice (none) (0) (0)) (y:= .int .i64 (canE vc.mrk vc.cl vc.ent)) Tryz.func30 rfl rfl rfl rfl ?_;obtain⟨hz1,hz2⟩:=beg1_zero ap;rw[begE_e hz1 hz2 hc39];exact⟨_,rfl,.inl ⟨hc39,rfl,K0⟩⟩
  ·intro hc39
   refine jG ?_;refine jF ?_ ?_
   ·intro hc44
    refine jG ?_;refine Run.ret3 (v:= .pointer none) (x:= .slice (none) (0) (0)) (y:= .int .i64 (7)) Tryz.func30 rfl rfl rfl rfl ?_;obtain⟨hz1,hz2⟩:=beg1_zero ap;rw[begE_f hz1 hz2 hc39 (by omega)];exact⟨_,rfl,.inl ⟨by decide,rfl,K0⟩⟩
   ·intro hc44
    refine jG ?_;refine Run.drawS [8] [0,1,1002,3,4,2005,6,7,2008] ?_;intro bz ae;replace a0:=a0.ext ae;refine jM (jb a0 Jn) ?_;refine jG ?_;replace a2:=a2.ext ae;refine jU rfl<|jS a2 ?_;intro bA a2 ak;replace a0:=a0.kp ak;refine jG ?_;refine jU rfl<|jS a2 ?_;intro aZ a2 an;refine jG ?_;replace hA:=((hA.ext ae).keepO ak (noOne aL)).keepO an (noOne aL);replace hC:=((hC.ext ae).keepO ak (noOne aM)).keepO an (noOne aM);replace a1:=((a1.ext ae).kp ak).kp an;replace a4:=((a4.ext ae).keepO ak (noOne az)).keepO an (noOne az);replace a5:=((a5.ext ae).keepO ak (noOne aA)).keepO an (noOne aA);replace a6:=((a6.ext ae).keepO ak (noOne aB)).keepO an (noOne aB);replace K0:=((K0.ext ae).n1 ak).n1 an;replace a0:=a0.kp an;refine Run.loop (ι:=Nat) (fun i ρ' w'=>∃am:Option Addr,∃cm:Nat,Holds ρ' [(0,.int .i64 (self)),(1,.int .i64 (req)),(9,jp ao),(10,jp aq),(17,jp a3),(20,.slice (am) ((((ts.take i).map (fun t=>mkC (cartMsg 1 self t.node req key t.owner vc) sc.only))).length) (cm)),(52,.slice (al) (ts.length) (lc)),(53,.int .i64 (((ts.length:Nat):Int))),(54,.int .i64 (((i:Nat):Int)))]∧Ext w w'∧(Blk w' ao [.int .i64 (id),.int .i64 (knd),.string (key),.string (item),.int .i64 (qty),.int .u64 (price),.slice (sa.ea) (va.ent.length) (sa.ec),.slice (sa.ma) (va.mrk.length) (sa.mc),.slice (sa.ca) (va.cl.length) (sa.cc)] 31)∧(Blk w' aq [.slice (sc.ea) (vc.ent.length) (sc.ec),.slice (sc.ma) (vc.mrk.length) (sc.mc),.slice (sc.ca) (vc.cl.length) (sc.cc)] 29)∧(Blk w' a3 [.int .i64 (self),.int .i64 (req),.int .i64 (nd),.int .i64 (now),.bool (true),.int .i64 (id),.int .i64 (knd),.string (key),.string (item),.int .i64 (qty),.int .u64 (price),.slice (sa.ea) (va.ent.length) (sa.ec),.slice (sa.ma) (va.mrk.length) (sa.mc),.slice (sa.ca) (va.cl.length) (sa.cc),.slice (sc.ea) (vc.ent.length) (sc.ec),.slice (sc.ma) (vc.mrk.length) (sc.mc),.slice (sc.ca) (vc.cl.length) (sc.cc),.slice (al) (ts.length) (lc),.slice ((some ⟨ah,0,none⟩:Option Addr)) (ts.length) (ts.length),.slice ((some ⟨ai,0,none⟩:Option Addr)) (ts.length) (ts.length),.slice ((some ⟨aj,0,none⟩:Option Addr)) (ts.length) (ts.length),.slice (none) (0) (0),.int .i64 (0),.int .i64 (0),.bool (false),.bool (false),.bool (false),.bool (false)] 118)∧(CartR w' sa va)∧(CartR w' sc vc)∧(OwnSl w' 4 ((some ⟨ah,0,none⟩:Option Addr)) (ts.length) ((List.replicate ts.length false)))∧(OwnSl w' 4 ((some ⟨ai,0,none⟩:Option Addr)) (ts.length) ((List.replicate ts.length false)))∧(OwnSl w' 29 ((some ⟨aj,0,none⟩:Option Addr)) (ts.length) ((List.replicate ts.length (Mg.k ⟨nilV,nilS⟩))))∧(OwnSl w' 48 am cm (((ts.take i).map (fun t=>mkC (cartMsg 1 self t.node req key t.owner vc) sc.only))))∧(¬own am ao)∧(¬own am aq)∧(¬own am a3)∧(∀q_,own am q_→¬cartD sa va q_)∧(∀q_,own am q_→¬cartD sc vc q_)∧(∀q_,own am q_→¬own (some ⟨ah,0,none⟩:Option Addr) q_)∧(∀q_,own am q_→¬own (some ⟨ai,0,none⟩:Option Addr) q_)∧(∀q_,own am q_→¬own (some ⟨aj,0,none⟩:Option Addr) q_)∧(∀q_,own am q_→w.heap.size≤q_)∧(i≤ts.length)) (fun i=>ts.length-i) 0 ?_ ?_
    ·rw[List.take_zero,List.map_nil]
     have b0:=OwnSl.nil (α:=MsgC) aZ 48;refine⟨_,_,⟨rfl,rfl,rfl,rfl,rfl,rfl,rfl,rfl,rfl,trivial⟩,K0,a1,a0,a2,hA,hC,a4,a5,a6,b0,(own_none ao),(own_none aq),(own_none a3),(fun q_ h1 _=>own_none q_ h1),(fun q_ h1 _=>own_none q_ h1),(fun q_ h1 _=>own_none q_ h1),(fun q_ h1 _=>own_none q_ h1),(fun q_ h1 _=>own_none q_ h1),(fun q_ h1=>absurd h1 (own_none q_)),?_⟩
     ·omega
    clear hA hC a1 a0 a4 a5 a6 a2;clear K0;rintro i bB bC ⟨am,cm,aN,K0,a1,a0,a2,hA,hC,a4,a5,a6,ar,aO,aP,aD,aQ,aR,aE,aF,aG,aH,hi⟩ ih1;obtain⟨ρ₀,rfl⟩:=aN.ex;clear aN;refine jG ?_;refine jF ?_ ?_
    ·intro hc55
     obtain⟨bD,bE,t,ht,bF,aw⟩:=hl.eo i;have hc_81_lt:=aw.lt;replace aw:=aw.ext K0;refine jG ?_;refine jR<|jA ?_;intro bG bH a7 aS a9;have bI:=ltLe a1.lt a7;have bJ:=ltLe a0.lt a7;have bK:=ltLe a2.lt a7;have bL:=ltLe aw.lt a7;have b4:=ltNo hA.own_lt a7;have b5:=ltNo hC.own_lt a7;have b6:=ltNo a4.own_lt a7;have b7:=ltNo a5.own_lt a7;have b8:=ltNo a6.own_lt a7;have b9:=ltNo ar.own_lt a7;have:=Nat.le_trans K0.size a7;clear a7;refine jR<|jS aS ?_;intro bM aS aa;have htl:((ts.take i).map (fun t=>mkC (cartMsg 1 self t.node req key t.owner vc) sc.only)).length=i:=by rw[List.length_map,List.length_take];omega
     replace a1:=(a1.ext a9).kp aa;replace a0:=(a0.ext a9).kp aa;refine jG ?_;refine jV (x_build (cells:=#[.int .i64 (1),.int .i64 (self),.int .i64 ((t).node),.int .i64 (req),.string (key),.slice (sc.ea) (vc.ent.length) (sc.ec),.slice (sc.ma) (vc.mrk.length) (sc.mc),.slice (sc.ca) (vc.cl.length) (sc.cc),.int .i64 ((t).owner),.int .i64 (0),.int .i64 (0),.int .i64 (0),.int .i64 (0),.int .i64 (0),.slice (none) (0) (0),.slice (none) (0) (0),.slice (none) (0) (0)]) (by kernel_rfl)) ?_;refine jR<|St1.buildSlice ([(mkC (cartMsg 1 self t.node req key t.owner vc) sc.only)]:List MsgC) Tryz.underlying57 ty48 rfl rfl (by first|decide|(simp[Enc.size])) ?_;intro bN bO ba bb ab;clear ba;replace ar:=((ar.ext a9).keepO aa (noOne b9)).ext ab;refine jR<|St1.append (xs:=((ts.take i).map (fun t=>mkC (cartMsg 1 self t.node req key t.owner vc) sc.only))) (ys:=([(mkC (cartMsg 1 self t.node req key t.owner vc) sc.only)]:List MsgC)) Tryz.underlying57 ty48 rfl rfl rfl ar bb.sl (by first|omega|(simp only[lr];omega)) (by decide) ?_;intro af bP bQ bc ag ac be;replace a1:=a1.ext ab;have bg:¬own af ao:=ac.not aO a1.lt;replace a0:=a0.ext ab;have bh:¬own af aq:=ac.not aP a0.lt;replace a2:=((a2.ext a9).kp aa).ext ab;have bi:¬own af a3:=ac.not aD a2.lt;replace hA:=((hA.ext a9).keepO aa (noOne b4)).ext ab;have bj:∀q_,own af q_→¬cartD sa va q_:=ac.apart aQ hA.own_lt;replace hC:=((hC.ext a9).keepO aa (noOne b5)).ext ab;have bk:∀q_,own af q_→¬cartD sc vc q_:=ac.apart aR hC.own_lt;replace a4:=((a4.ext a9).keepO aa (noOne b6)).ext ab;have bl:∀q_,own af q_→¬own (some ⟨ah,0,none⟩:Option Addr) q_:=ac.apart aE a4.own_lt;replace a5:=((a5.ext a9).keepO aa (noOne b7)).ext ab;have bm:∀q_,own af q_→¬own (some ⟨ai,0,none⟩:Option Addr) q_:=ac.apart aF a5.own_lt;replace a6:=((a6.ext a9).keepO aa (noOne b8)).ext ab;have bn:∀q_,own af q_→¬own (some ⟨aj,0,none⟩:Option Addr) q_:=ac.apart aG a6.own_lt;replace K0:=((K0.ext a9).n1 aa).ext ab;have bo:∀q_,own af q_→w.heap.size≤q_:=ac.ge aH K0.size;clear ac;clear be;refine jG ?_;refine jV (litI (c:=((i+1:Nat):Int)) (x_add rfl rfl (by omega) (by omega)) rfl) ?_;refine jG ?_;have e:=map_take_succ (f:=fun t=>mkC (cartMsg 1 self t.node req key t.owner vc) sc.only) ht;refine ih1 (i+1) _ _ ?_ (by omega);rw[e];replace a1:=a1.keep ag aO;replace a0:=a0.keep ag aP;replace a2:=a2.keep ag aD;replace hA:=hA.keepO ag (fun q_ h1 h2=>aQ q_ h2 h1);replace hC:=hC.keepO ag (fun q_ h1 h2=>aR q_ h2 h1);replace a4:=a4.keepO ag (fun q_ h1 h2=>aE q_ h2 h1);replace a5:=a5.keepO ag (fun q_ h1 h2=>aF q_ h2 h1);replace a6:=a6.keepO ag (fun q_ h1 h2=>aG q_ h2 h1);replace K0:=K0.new ag aH;refine⟨_,_,⟨rfl,rfl,rfl,rfl,rfl,rfl,rfl,rfl,rfl,trivial⟩,K0,a1,a0,a2,hA,hC,a4,a5,a6,bc,bg,bh,bi,bj,bk,bl,bm,bn,bo,?_⟩
     ·omega
    ·intro hc55
     refine jG ?_;refine Run.ret3 (v:=jp a3) (x:= .slice (am) ((((ts.take i).map (fun t=>mkC (cartMsg 1 self t.node req key t.owner vc) sc.only))).length) (cm)) (y:= .int .i64 (0)) Tryz.func30 rfl rfl rfl rfl ?_;obtain⟨hz1,hz2⟩:=beg1_zero ap;rw[begE_ok hz1 hz2 hc39 (by omega)];rw[List.take_of_length_le (show ts.length≤i by omega)]at ar⊢;have hQ:=RqAt.mk0 (n:=ts.length) (⟨self,req,nd,now,true,id,knd,key,item,qty,price,va,sa,vc,sc,al,lc,ts,none,0,[],none,0,[],none,0,[],none,0,[],0,0,false,false,false,false⟩:Rq) a2 a4 a5 a6 az aA aB aT aU aV;have hz4:=hz1;unfold begA at hz4;have hI:RIn w0 (mkR (⟨self,req,nd,now,true,id,knd,key,item,qty,price,va,sa,vc,sc,al,lc,ts,none,0,[],none,0,[],none,0,[],none,0,[],0,0,false,false,false,false⟩:Rq) ts.length ah ai aj):=mkR_in hl0 hA0 hC0 hlc hoa hoc;have hok:=mkR_ok (R0:=(⟨self,req,nd,now,true,id,knd,key,item,qty,price,va,sa,vc,sc,al,lc,ts,none,0,[],none,0,[],none,0,[],none,0,[],0,0,false,false,false,false⟩:Rq)) (b1:=ah) (b2:=ai) (b3:=aj) (by simp only;omega) (by simpa using hll) rfl rfl (by simp only;omega)
     have hF0:∀q_,refS a3 (mkR (⟨self,req,nd,now,true,id,knd,key,item,qty,price,va,sa,vc,sc,al,lc,ts,none,0,[],none,0,[],none,0,[],none,0,[],0,0,false,false,false,false⟩:Rq) ts.length ah ai aj) q_→w.heap.size≤q_:=by
      intro q_ h_;rcases mkR_S q_ h_ with h_|h_|h_|h_
      ·have h2_:q_=a3:=h_;omega
      ·exact aW q_ h_
      ·exact aX q_ h_
      ·exact aY q_ h_
     have hF1:∀q_,refS a3 (mkR (⟨self,req,nd,now,true,id,knd,key,item,qty,price,va,sa,vc,sc,al,lc,ts,none,0,[],none,0,[],none,0,[],none,0,[],0,0,false,false,false,false⟩:Rq) ts.length ah ai aj) q_→¬own am q_:=by
      intro q_ h_;rcases mkR_S q_ h_ with h_|h_|h_|h_
      ·have h2_:q_=a3:=h_;exact fun z_=>aD (show own am a3 from h2_▸z_)
      ·exact fun z_=>aE q_ z_ h_
      ·exact fun z_=>aF q_ z_ h_
      ·exact fun z_=>aG q_ z_ h_
     exact⟨_,rfl,.inr ⟨rfl,a3,_,am,cm,rfl,⟨_,rfl,rfl,hQ,hok,hI⟩,ar,hF0,aH,hF1,K0⟩⟩
end Go.Proofs.YtocgdeefgohdhaaGreat
