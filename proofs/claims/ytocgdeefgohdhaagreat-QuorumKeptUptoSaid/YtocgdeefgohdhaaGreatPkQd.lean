/-
  Qd
-/
import Derived.Test.YtocgdeefgohdhaaGreatRows
import Derived.Test.YtocgdeefgohdhaaGreatPkQc
import Derived.Test.YtocgdeefgohdhaaGreatPkI
set_option linter.all false
set_option maxRecDepth 100000
set_option maxHeartbeats 4000000
namespace Go.Proofs.YtocgdeefgohdhaaGreat
attribute [local irreducible] RD RS St1 RL RA RT RT1 Run
structure TargetC where
 node:Int
 owner:Int
instance : Enc TargetC:=Enc.struct (fun t=>[.int .i64 t.node,.int .i64 t.owner]) 2 (fun _=>rfl) (fun _ v hv=>by simp at hv;rcases hv with rfl|rfl<;>rfl) (by decide)
theorem TargetC.ext' {a b:TargetC}(h0:a.node=b.node)(h1:a.owner=b.owner):a=b:=by cases a;cases b;simp_all
instance : DecidableEq TargetC:=fun a b=>if h:a.node=b.node∧a.owner=b.owner then isTrue (TargetC.ext' h.1 h.2)else isFalse (fun e=>h (by subst e;exact⟨rfl,rfl⟩))
theorem eqd_TargetC (m:Nat)(a b:TargetC)(w:World):(Op.equalIn (m+2) 53 (.agg #[.int .i64 a.node,.int .i64 a.owner]) (.agg #[.int .i64 b.node,.int .i64 b.owner])).run Tryz.prog w= .ok (decide (a=b)) w:=by
 have h:=run_equalIn_struct (P:=Tryz.prog) w (m+1) 53 #[.int .i64 a.node,.int .i64 a.owner] #[.int .i64 b.node,.int .i64 b.owner] Tryz.underlying53 (by kernel_rfl)
 have h2:=(run_eqFields_cons (P:=Tryz.prog) (d:=m+1) (xs:=#[.int .i64 a.node,.int .i64 a.owner]) (ys:=#[.int .i64 b.node,.int .i64 b.owner]) (fd:=(Tryz.prog.fieldsOf 53).toList[0]) (fs:=[(Tryz.prog.fieldsOf 53).toList[1]]) (r:=a.node==b.node) (by kernel_rfl) (run_part ty3 rfl) (run_part ty3 rfl) (fun w=>run_equalIn_int w m 3 .i64 .i64 a.node b.node Tryz.underlying3) (run_eqFields_cons (P:=Tryz.prog) (d:=m+1) (xs:=#[.int .i64 a.node,.int .i64 a.owner]) (ys:=#[.int .i64 b.node,.int .i64 b.owner]) (fd:=(Tryz.prog.fieldsOf 53).toList[1]) (fs:=[]) (r:=a.owner==b.owner) (by kernel_rfl) (run_part ty3 rfl) (run_part ty3 rfl) (fun w=>run_equalIn_int w m 3 .i64 .i64 a.owner b.owner Tryz.underlying3) (run_eqFields_nil (m+1) _ _))) w
 refine h.trans (h2.trans ?_)
 congr 1
 rw[Bool.eq_iff_iff]
 simp only[Bool.and_eq_true,beq_iff_eq,and_true,decide_eq_true_eq,bytes_eq]
 exact⟨fun h=>TargetC.ext' h.1 h.2,fun h=>by subst h;exact⟨rfl,rfl⟩⟩
theorem eq_TargetC (a b:TargetC)(w:World):(Op.equalIn 10000 53 (.agg #[.int .i64 a.node,.int .i64 a.owner]) (.agg #[.int .i64 b.node,.int .i64 b.owner])).run Tryz.prog w= .ok (decide (a=b)) w:=eqd_TargetC 9998 a b w
structure ToldC where
 id:Int
 status:Int
 cart:CartC
instance : Enc ToldC:=Enc.struct (fun t=>[.int .i64 ((t).id),.int .i64 ((t).status),.slice (((t).cart).entries.a) (((t).cart).entries.len) (((t).cart).entries.cap),.slice ((((t).cart).ctx).marks.a) ((((t).cart).ctx).marks.len) ((((t).cart).ctx).marks.cap),.slice ((((t).cart).ctx).cloud.a) ((((t).cart).ctx).cloud.len) ((((t).cart).ctx).cloud.cap)]) 5 (fun _=>rfl) (fun _ v hv=>by simp at hv;rcases hv with rfl|rfl|rfl|rfl|rfl<;>rfl) (by decide)
structure Mq where
 self:Int
 req:Int
 need:Int
 began:Int
 id:Int
 knd:Int
 key:ByteArray
 item:ByteArray
 qty:Int
 price:Int
 seen:MV
 ss:Six
 ta:Option Addr
 tc:Nat
 targets:List TargetC
 ga:Option Addr
 gc:Nat
 got:List Mg
 answered:Bool
 done:Bool
 made:Bool
 status:Int
 put:Bool
 kb:Nat
 cart:MV
 cs:Six
 fine:Int
 bad:Bool
structure PM where
 self:Int
 req:Int
 need:Int
 began:Int
 id:Int
 key:ByteArray
 seen:MV
 targets:List TargetC
 got:List MV
 answered:Bool
 done:Bool
 made:Bool
 status:Int
 put:Bool
 cart:MV
 fine:Int
 bad:Bool
abbrev Mq.pv (M:Mq):PM:=⟨M.self,M.req,M.need,M.began,M.id,M.key,M.seen,M.targets,M.got.map Mg.v,M.answered,M.done,M.made,M.status,M.put,M.cart,M.fine,M.bad⟩
abbrev c3 (v:MV)(s:Six):List Value:=[.slice s.ea v.ent.length s.ec,.slice s.ma v.mrk.length s.mc,.slice s.ca v.cl.length s.cc]
abbrev kT (b:Bool):TypeId:=match b with|true=>134|false=>141
abbrev Mq.cells (M:Mq):List Value:=[.int .i64 (M.self),.int .i64 (M.req),.int .i64 (M.need),.int .i64 (M.began),.int .i64 (M.id),.int .i64 (M.knd),.string (M.key),.string (M.item),.int .i64 (M.qty),.int .u64 (M.price),.slice (M.ss.ea) (M.seen.ent.length) (M.ss.ec),.slice (M.ss.ma) (M.seen.mrk.length) (M.ss.mc),.slice (M.ss.ca) (M.seen.cl.length) (M.ss.cc),.slice (M.ta) (M.targets.length) (M.tc),.slice (M.ga) ((M.got.map Mg.c).length) (M.gc),.bool (M.answered),.bool (M.done),.bool (M.made),.int .i64 (M.status),.iface (kT M.put) (jp M.kb)]
def restS (M:Mq):Nat→Prop:=fun q=>(M.targets≠ []∧own M.ta q)∨cartD M.ss M.seen q∨cartD M.cs M.cart q∨∃p∈M.got,cartD p.s p.v q
structure RestAt (w:World)(M:Mq):Prop where
 tg:SlOf w M.ta M.targets
 seen:CartR w M.ss M.seen
 cart:CartR w M.cs M.cart
 gots:∀p∈M.got,CartR w p.s p.v
def mqS (m:Nat)(M:Mq):Nat→Prop:=fun q=>q=m∨(q=M.kb∨(own M.ga q∨restS M q))
structure CartOk (v:MV)(s:Six):Prop where
 ok:VOk v
 ent:EntB v.ent
 cap:v.ent.length≤s.ec
structure MqOk (M:Mq):Prop where
 need:1≤M.need∧M.need≤5
 tc:M.targets.length≤M.tc
 tl:M.targets.length≤1048576
 gl:M.got.length≤M.targets.length
 seen:CartOk M.seen M.ss
 cart:CartOk M.cart M.cs
 gots:∀p∈M.got,CartOk p.v p.s
 fine:0≤M.fine∧M.fine≤M.got.length
 began:0≤M.began∧M.began≤1099511627776
structure MqAt (w:World)(m:Nat)(M:Mq):Prop where
 blk:Blk w m M.cells 99
 kput:M.put=true→Blk w M.kb (c3 M.cart M.cs) 136
 kget:M.put=false→Blk w M.kb (c3 M.cart M.cs++[.int .i64 M.fine,.bool M.bad]) 143
 got:OwnSl w 48 M.ga M.gc (M.got.map Mg.c)
 rest:RestAt w M
 nk:m≠M.kb
 ng:¬own M.ga m
 nkg:¬own M.ga M.kb
 nr:∀q,restS M q→q≠m∧q≠M.kb∧¬own M.ga q
section
variable {w w':World}{S:Nat→Prop}{m:Nat}{M:Mq}
theorem RestAt.own_lt (h:RestAt w M):∀q,restS M q→q<w.heap.size:=by
 rintro q (⟨h1,h2⟩|hq|hq|⟨p,hp,hq⟩)
 ·exact sl_lt h.tg h1 h2
 ·exact h.seen.own_lt q hq
 ·exact h.cart.own_lt q hq
 ·exact(h.gots p hp).own_lt q hq
theorem RestAt.keepO (h:RestAt w M)(k:Keeps S w w')(hn:∀q,restS M q→¬S q):RestAt w' M:=
 ⟨h.tg.keepN k fun x hx he=>hn x.block (.inl ⟨he,x,hx,rfl⟩),h.seen.keepO k fun q hq=>hn q (.inr (.inl hq)),h.cart.keepO k fun q hq=>hn q (.inr (.inr (.inl hq))),fun p hp=>(h.gots p hp).keepO k fun q hq=>hn q (.inr (.inr (.inr ⟨p,hp,hq⟩)))⟩
theorem RestAt.ext (h:RestAt w M)(k:Ext w w'):RestAt w' M:=⟨h.tg.ext k,h.seen.ext k,h.cart.ext k,fun p hp=>(h.gots p hp).ext k⟩
theorem MqAt.kb_lt (h:MqAt w m M):M.kb<w.heap.size:=by
 cases hp:M.put with
 |true=>exact(h.kput hp).lt
 |false=>exact(h.kget hp).lt
theorem MqAt.own_lt (h:MqAt w m M):∀q,mqS m M q→q<w.heap.size:=by
 rintro q (rfl|rfl|hq|hq)
 ·exact h.blk.lt
 ·exact h.kb_lt
 ·exact h.got.own_lt q hq
 ·exact h.rest.own_lt q hq
theorem MqAt.keepO (h:MqAt w m M)(k:Keeps S w w')(hn:∀q,mqS m M q→¬S q):MqAt w' m M:=
 ⟨h.blk.keep k (hn _ (.inl rfl)),fun e=>(h.kput e).keep k (hn _ (.inr (.inl rfl))),fun e=>(h.kget e).keep k (hn _ (.inr (.inl rfl))),h.got.keepO k fun q hq=>hn q (.inr (.inr (.inl hq))),h.rest.keepO k fun q hq=>hn q (.inr (.inr (.inr hq))),h.nk,h.ng,h.nkg,h.nr⟩
theorem MqAt.ext (h:MqAt w m M)(k:Ext w w'):MqAt w' m M:=h.keepO k fun _ _=>id
end
def MachAt (w:World)(m:Nat)(F:Nat→Prop)(Q:PM):Prop:=∃M:Mq,F=mqS m M∧Q=M.pv∧MqAt w m M∧MqOk M
section
variable {w w':World}{S F:Nat→Prop}{m:Nat}{Q:PM}
theorem MachAt.own_lt (h:MachAt w m F Q):∀q,F q→q<w.heap.size:=by obtain⟨M,rfl,rfl,h,-⟩:=h;exact h.own_lt
theorem MachAt.keepO (h:MachAt w m F Q)(k:Keeps S w w')(hn:∀q,F q→¬S q):MachAt w' m F Q:=by obtain⟨M,rfl,rfl,h,ho⟩:=h;exact⟨M,rfl,rfl,h.keepO k hn,ho⟩
theorem MachAt.ext (h:MachAt w m F Q)(k:Ext w w'):MachAt w' m F Q:=h.keepO k fun _ _ h=>h
end
def openP (Q:PM)(n:Int):Bool:=Q.targets.any (fun t=>decide (t.node=n))&& !(Q.got.any fun v=>decide (v.frm=n))
theorem any_c (l:List Mg)(n:Int):((l.map Mg.c).any fun x=>decide (x.frm=n))=((l.map Mg.v).any fun v=>decide (v.frm=n)):=by
 rw[List.any_map,List.any_map];rfl
attribute [local irreducible] X
theorem equal_t (a:Option Addr)(xs:List TargetC)(c:Nat)(d:Option Addr)(ys:List TargetC)(e:Nat)(w:World)(hs:SlOf w a xs)(ht:SlOf w d ys)(hl:xs.length≤4294967295):
  Calls Tryz.prog 34 #[.slice (a) (xs.length) (c),.slice (d) (ys.length) (e)] w (Ret (fun v w'=>v= .bool (decide (xs=ys))∧Ext w w')):=by
 refine calls_run (n:=26) Tryz.func34 rfl rfl rfl ?_;refine jG ?_;refine jF ?_ ?_
 ·intro hc10
  refine jG ?_;refine jJ Tryz.func34 ?_;exact⟨_,rfl,by rw[decide_eq_false (fun h=>hc10 (by rw[h]))],(Keeps.refl _ w)⟩
 ·intro hc10
  have hlen:xs.length=ys.length:=by omega
  refine jG ?_;refine Run.loop (ι:=Nat) (fun i ρ' w'=>Holds ρ' [(0,.slice (a) (xs.length) (c)),(1,.slice (d) (ys.length) (e)),(12,.int .i64 (((xs.length:Nat):Int))),(13,.int .i64 (((i:Nat):Int)))]∧Ext w w'∧(i≤xs.length)∧(SameB xs ys i)) (fun i=>xs.length-i) 0 ?_ ?_
  ·refine⟨⟨rfl,rfl,rfl,rfl,trivial⟩,(Keeps.refl _ w),?_,?_⟩
   ·omega
   ·exact SameB.zero _ _
  rintro i a4 a5 ⟨a3,K0,hi,hno⟩ ih1;obtain⟨ρ₀,rfl⟩:=a3.ex;clear a3;refine jG ?_;refine jF ?_ ?_
  ·intro hc14
   refine jG ?_;obtain⟨a6,a7,x,hx,a8,a0⟩:=hs.eo i;have hc_9_lt:=a0.lt;obtain⟨a9,aa,y,hy,ab,a1⟩:=ht.eo i;have hc_15_lt:=a1.lt;refine Run.drawR ?_;intro ac a2;replace a0:=(a0.ext K0).ext a2;replace a1:=(a1.ext K0).ext a2;refine jG ?_;refine jD (x_neA (by kernel_rfl) rfl rfl (eq_TargetC x y)) ?_;refine jG ?_;replace K0:=K0.ext a2;refine jF ?_ ?_
   ·intro hc24
    refine jG ?_;refine jJ Tryz.func34 ?_;exact⟨_,rfl,by rw[decide_eq_false (ne_of_at hx hy hc24)],K0⟩
   ·intro hc24
    refine jG ?_;refine jV (litI (c:=((i+1:Nat):Int)) (x_add rfl rfl (by omega) (by omega)) rfl) ?_;refine jG ?_;refine ih1 (i+1) _ _ ?_ (by omega);refine⟨⟨rfl,rfl,rfl,rfl,trivial⟩,K0,?_,?_⟩
    ·omega
    ·exact hno.step hx hy hc24
  ·intro hc14
   refine jG ?_;refine jJ Tryz.func34 ?_;exact⟨_,rfl,by rw[decide_eq_true (hno.all hlen (by omega))],K0⟩
theorem clone_t (a:Option Addr)(xs:List TargetC)(c:Nat)(w:World)(hs:SlOf w a xs)(hl:xs.length≤4294967295):
  Calls Tryz.prog 28 #[.slice (a) (xs.length) (c)] w (Ret (fun v w'=>∃a' c',v= .slice a' xs.length c'∧OwnSl w' 53 a' c' xs∧(∀b,own a' b→w.heap.size≤b)∧Ext w w')):=by
 refine calls_run (n:=8) Tryz.func28 rfl rfl rfl ?_;refine jG ?_;refine jV (x_slNil Tryz.underlying32 rfl rfl) ?_;refine jG ?_;refine Run.cond rfl (fun hc4=> ?_) (fun hc4=> ?_)
 ·skip
  refine jG ?_;refine jJ Tryz.func28 ?_;have hx:=hs.nil_of hc4;subst hx;exact⟨_,rfl,none,0,rfl,OwnSl.nil _ _,fun b h=>absurd h (own_none b),(Keeps.refl _ w)⟩
 ·skip
  refine jG ?_;refine jR<|St1.buildSlice ([]:List TargetC) Tryz.underlying32 ty53 rfl rfl (by first|decide|(simp[Enc.size])) ?_;intro ab ac a0 a4 a5;have a1:=geTr (Nat.le_refl _) (ge_new a0);clear a0;have K0:=(a5:Ext w _);refine jG ?_;refine jR<|St1.append (xs:=([]:List TargetC)) (ys:=xs) Tryz.underlying32 ty53 rfl rfl rfl a4 (hs.ext K0) (by first|omega|(simp only[lr];omega)) (by decide) ?_;intro a2 a6 ad a7 a8 a3 a9;have aa:∀q_,own a2 q_→w.heap.size≤q_:=a3.ge a1 K0.size;clear a3;clear a9;refine jG ?_;refine jJ Tryz.func28 ?_;replace K0:=K0.new a8 a1;exact⟨_,rfl,a2,a6,by rw[List.nil_append],by simpa using a7,aa,K0⟩
theorem indexFunc_t (a:Option Addr)(xs:List TargetC)(c:Nat)(gf:FuncId)(caps:List Value)(q:TargetC→Bool)(hen:Enters Tryz.prog gf)(w:World)(hs:SlOf w a xs)(hl:xs.length≤4294967295)(hq:∀x∈xs,∀w',Ext w w'→Calls Tryz.prog gf (Enc.val x::caps).toArray w' (Ret fun v w''=>v= .bool (q x)∧Ext w' w'')):
  Calls Tryz.prog 35 #[.slice (a) (xs.length) (c),.func (.func gf) #[] caps.toArray] w (Ret (fun v w'=>v= .int .i64 (findI q xs)∧Ext w w')):=by
 refine calls_run (n:=19) Tryz.func35 rfl rfl rfl ?_;refine jG ?_;refine Run.loop (ι:=Nat) (fun i ρ' w'=>Holds ρ' [(0,.slice (a) (xs.length) (c)),(1,.func (.func gf) #[] caps.toArray),(7,.int .i64 (((xs.length:Nat):Int))),(8,.int .i64 (((i:Nat):Int)))]∧Ext w w'∧(i≤xs.length)∧(NoB q xs i)) (fun i=>xs.length-i) 0 ?_ ?_
 ·refine⟨⟨rfl,rfl,rfl,rfl,trivial⟩,(Keeps.refl _ w),?_,?_⟩
  ·omega
  ·exact NoB.zero _ _
 rintro i a3 a4 ⟨a1,K0,hi,hno⟩ ih1;obtain⟨ρ₀,rfl⟩:=a1.ex;clear a1;refine jG ?_;refine jF ?_ ?_
 ·intro hc9
  obtain⟨a5,a6,e,hx,a7,a0⟩:=hs.eo i;have hc_7_lt:=a0.lt;replace a0:=a0.ext K0;refine jG ?_;refine jR<|St1.callV (first:=[]) (vals:= .agg #[.int .i64 ((e).node),.int .i64 ((e).owner)]::caps) hen rfl rfl (hq e (mem_of_at hx) _ K0) ?_;rintro _ a8 ⟨rfl,a2⟩;refine jG ?_;replace K0:=K0.ext a2;refine Run.cond rfl (fun hc16=> ?_) (fun hc16=> ?_)
  ·skip
   refine jG ?_;refine jJ Tryz.func35 ?_;exact⟨_,rfl,by rw[findI_at hx hc16 hno],K0⟩
  ·skip
   refine jG ?_;refine jV (litI (c:=((i+1:Nat):Int)) (x_add rfl rfl (by omega) (by omega)) rfl) ?_;refine jG ?_;refine ih1 (i+1) _ _ ?_ (by omega);refine⟨⟨rfl,rfl,rfl,rfl,trivial⟩,K0,?_,?_⟩
   ·omega
   ·exact hno.step hx hc16
 ·intro hc9
  refine jG ?_;refine jJ Tryz.func35 ?_;exact⟨_,rfl,by rw[findI_no hno (by omega)],K0⟩
theorem containsFunc_t (a:Option Addr)(xs:List TargetC)(c:Nat)(gf:FuncId)(caps:List Value)(q:TargetC→Bool)(hen:Enters Tryz.prog gf)(w:World)(hs:SlOf w a xs)(hl:xs.length≤4294967295)(hq:∀x∈xs,∀w',Ext w w'→Calls Tryz.prog gf (Enc.val x::caps).toArray w' (Ret fun v w''=>v= .bool (q x)∧Ext w' w'')):
  Calls Tryz.prog 8 #[.slice (a) (xs.length) (c),.func (.func gf) #[] caps.toArray] w (Ret (fun v w'=>v= .bool (xs.any q)∧Ext w w')):=by
 refine calls_run (n:=9) Tryz.func8 rfl rfl rfl ?_;refine jG ?_;refine jR<|jC (indexFunc_t _ _ _ _ _ q hen _ hs (by omega) hq) ?_;rintro _ a1 ⟨rfl,a0⟩;have K0:=(a0:Ext w _);refine jG ?_;refine jJ Tryz.func8 ?_;exact⟨_,rfl,by rw[findI_ge],K0⟩
theorem indexFunc_g (a:Option Addr)(xs:List MsgC)(c:Nat)(gf:FuncId)(caps:List Value)(q:MsgC→Bool)(hen:Enters Tryz.prog gf)(w:World)(hs:SlOf w a xs)(hl:xs.length≤4294967295)(hq:∀x∈xs,∀w',Ext w w'→Calls Tryz.prog gf (Enc.val x::caps).toArray w' (Ret fun v w''=>v= .bool (q x)∧Ext w' w'')):
  Calls Tryz.prog 93 #[.slice (a) (xs.length) (c),.func (.func gf) #[] caps.toArray] w (Ret (fun v w'=>v= .int .i64 (findI q xs)∧Ext w w')):=by
 refine calls_run (n:=19) Tryz.func93 rfl rfl rfl ?_;refine jG ?_;refine Run.loop (ι:=Nat) (fun i ρ' w'=>Holds ρ' [(0,.slice (a) (xs.length) (c)),(1,.func (.func gf) #[] caps.toArray),(7,.int .i64 (((xs.length:Nat):Int))),(8,.int .i64 (((i:Nat):Int)))]∧Ext w w'∧(i≤xs.length)∧(NoB q xs i)) (fun i=>xs.length-i) 0 ?_ ?_
 ·refine⟨⟨rfl,rfl,rfl,rfl,trivial⟩,(Keeps.refl _ w),?_,?_⟩
  ·omega
  ·exact NoB.zero _ _
 rintro i a3 a4 ⟨a1,K0,hi,hno⟩ ih1;obtain⟨ρ₀,rfl⟩:=a1.ex;clear a1;refine jG ?_;refine jF ?_ ?_
 ·intro hc9
  obtain⟨a5,a6,e,hx,a7,a0⟩:=hs.eo i;have hc_7_lt:=a0.lt;replace a0:=a0.ext K0;refine jG ?_;refine jR<|St1.callV (first:=[]) (vals:= .agg #[.int .i64 ((e).kind),.int .i64 ((e).frm),.int .i64 ((e).to),.int .i64 ((e).req),.string ((e).key),.slice (((e).cart).entries.a) (((e).cart).entries.len) (((e).cart).entries.cap),.slice ((((e).cart).ctx).marks.a) ((((e).cart).ctx).marks.len) ((((e).cart).ctx).marks.cap),.slice ((((e).cart).ctx).cloud.a) ((((e).cart).ctx).cloud.len) ((((e).cart).ctx).cloud.cap),.int .i64 ((e).owner),.int .i64 ((e).part),.int .i64 ((e).n),.int .i64 (((e).ring).parts),.int .i64 (((e).ring).copies),.int .i64 (((e).ring).spots),.slice (((e).ring).members.a) (((e).ring).members.len) (((e).ring).members.cap),.slice ((e).peers.a) ((e).peers.len) ((e).peers.cap),.slice ((e).sums.a) ((e).sums.len) ((e).sums.cap)]::caps) hen rfl rfl (hq e (mem_of_at hx) _ K0) ?_;rintro _ a8 ⟨rfl,a2⟩;refine jG ?_;replace K0:=K0.ext a2;refine Run.cond rfl (fun hc16=> ?_) (fun hc16=> ?_)
  ·skip
   refine jG ?_;refine jJ Tryz.func93 ?_;exact⟨_,rfl,by rw[findI_at hx hc16 hno],K0⟩
  ·skip
   refine jG ?_;refine jV (litI (c:=((i+1:Nat):Int)) (x_add rfl rfl (by omega) (by omega)) rfl) ?_;refine jG ?_;refine ih1 (i+1) _ _ ?_ (by omega);refine⟨⟨rfl,rfl,rfl,rfl,trivial⟩,K0,?_,?_⟩
   ·omega
   ·exact hno.step hx hc16
 ·intro hc9
  refine jG ?_;refine jJ Tryz.func93 ?_;exact⟨_,rfl,by rw[findI_no hno (by omega)],K0⟩
theorem containsFunc_g (a:Option Addr)(xs:List MsgC)(c:Nat)(gf:FuncId)(caps:List Value)(q:MsgC→Bool)(hen:Enters Tryz.prog gf)(w:World)(hs:SlOf w a xs)(hl:xs.length≤4294967295)(hq:∀x∈xs,∀w',Ext w w'→Calls Tryz.prog gf (Enc.val x::caps).toArray w' (Ret fun v w''=>v= .bool (q x)∧Ext w' w'')):
  Calls Tryz.prog 76 #[.slice (a) (xs.length) (c),.func (.func gf) #[] caps.toArray] w (Ret (fun v w'=>v= .bool (xs.any q)∧Ext w w')):=by
 refine calls_run (n:=9) Tryz.func76 rfl rfl rfl ?_;refine jG ?_;refine jR<|jC (indexFunc_g _ _ _ _ _ q hen _ hs (by omega) hq) ?_;rintro _ a1 ⟨rfl,a0⟩;have K0:=(a0:Ext w _);refine jG ?_;refine jJ Tryz.func76 ?_;exact⟨_,rfl,by rw[findI_ge],K0⟩
theorem live_ (m:Nat)(M:Mq)(w:World)(hM:MqAt w m M)(hok:MqOk M):
  Calls Tryz.prog 43 #[jp m] w (Ret (fun v w'=>v= .bool (M.made&& !M.done)∧Ext w w')):=by
 have hM0:=hM;have hok0:=hok;obtain⟨hb,hkp,hkg,hgt,hr,hnk,hng,hnkg,hnr⟩:=hM;obtain⟨⟨hnd1,hnd2⟩,htc,htl,hgl,hsok,hcok,hgok,hfine,hbeg⟩:=hok;have hgm:(M.got.map Mg.c).length=M.got.length:=List.length_map ..;refine calls_run (n:=18) Tryz.func43 rfl rfl rfl ?_;refine jG ?_;refine jV (litT (x_ptrNotNil Tryz.underlying36 rfl rfl) rfl) ?_;refine jG ?_;refine jV (x_andT rfl rfl rfl) ?_;refine jG ?_;refine jV (x_and rfl rfl rfl) ?_;refine jG ?_;refine jJ Tryz.func43 ?_;exact⟨_,rfl,rfl,(Keeps.refl _ w)⟩
theorem done_ (m:Nat)(M:Mq)(w:World)(hM:MqAt w m M)(hok:MqOk M):
  Calls Tryz.prog 16 #[jp m] w (Ret (fun v w'=>v= .bool (!(M.made&& !M.done))∧Ext w w')):=by
 refine calls_run (n:=6) Tryz.func16 rfl rfl rfl ?_;refine jG ?_;refine jR<|jC (live_ m M _ hM hok) ?_;rintro _ a1 ⟨rfl,a0⟩;have K0:=(a0:Ext w _);refine jG ?_;refine jJ Tryz.func16 ?_;exact⟨_,rfl,rfl,K0⟩
theorem open1_ (t:TargetC)(b:Nat)(n:Int)(w:World)(hx:Blk w b [.int .i64 n] 3):
  Calls Tryz.prog 75 #[.agg #[.int .i64 ((t).node),.int .i64 ((t).owner)],jp b] w (Ret (fun v w'=>v= .bool (decide (t.node=n))∧Ext w w')):=by
 refine calls_run (n:=8) Tryz.func75 rfl rfl rfl ?_;refine jG ?_;refine jR<|jB ?_;intro a2 a3 a0 a4 a1;have a5:=ltLe hx.lt a0;have:w.heap.size≤a2:=a0;clear a0;have K0:=(a1:Ext w _);replace hx:=hx.ext a1;refine jG ?_;refine jJ Tryz.func75 ?_;exact⟨_,rfl,congrArg Value.bool (by rw[Bool.eq_iff_iff];simp),K0⟩
theorem open2_ (x:MsgC)(b:Nat)(n:Int)(w:World)(hx:Blk w b [.int .i64 n] 3):
  Calls Tryz.prog 77 #[.agg #[.int .i64 ((x).kind),.int .i64 ((x).frm),.int .i64 ((x).to),.int .i64 ((x).req),.string ((x).key),.slice (((x).cart).entries.a) (((x).cart).entries.len) (((x).cart).entries.cap),.slice ((((x).cart).ctx).marks.a) ((((x).cart).ctx).marks.len) ((((x).cart).ctx).marks.cap),.slice ((((x).cart).ctx).cloud.a) ((((x).cart).ctx).cloud.len) ((((x).cart).ctx).cloud.cap),.int .i64 ((x).owner),.int .i64 ((x).part),.int .i64 ((x).n),.int .i64 (((x).ring).parts),.int .i64 (((x).ring).copies),.int .i64 (((x).ring).spots),.slice (((x).ring).members.a) (((x).ring).members.len) (((x).ring).members.cap),.slice ((x).peers.a) ((x).peers.len) ((x).peers.cap),.slice ((x).sums.a) ((x).sums.len) ((x).sums.cap)],jp b] w (Ret (fun v w'=>v= .bool (decide (x.frm=n))∧Ext w w')):=by
 refine calls_run (n:=8) Tryz.func77 rfl rfl rfl ?_;refine jG ?_;refine jR<|jB ?_;intro a2 a3 a0 a4 a1;have a5:=ltLe hx.lt a0;have:w.heap.size≤a2:=a0;clear a0;have K0:=(a1:Ext w _);replace hx:=hx.ext a1;refine jG ?_;refine jJ Tryz.func77 ?_;exact⟨_,rfl,congrArg Value.bool (by rw[Bool.eq_iff_iff];simp),K0⟩
theorem open_ (m:Nat)(M:Mq)(n:Int)(w:World)(hM:MqAt w m M)(hok:MqOk M):
  Calls Tryz.prog 44 #[jp m,.int .i64 (n)] w (Ret (fun v w'=>v= .bool (openP M.pv n)∧Ext w w')):=by
 have hM0:=hM;have hok0:=hok;obtain⟨hb,hkp,hkg,hgt,hr,hnk,hng,hnkg,hnr⟩:=hM;obtain⟨⟨hnd1,hnd2⟩,htc,htl,hgl,hsok,hcok,hgok,hfine,hbeg⟩:=hok;have hgm:(M.got.map Mg.c).length=M.got.length:=List.length_map ..;refine calls_run (n:=22) Tryz.func44 rfl rfl rfl ?_;refine jG ?_;refine jR<|jB ?_;intro a0 a6 a2 a1 a4;have a7:=ltLe hb.lt a2;have:w.heap.size≤a0:=a2;clear a2;have K0:=(a4:Ext w _);replace hb:=hb.ext a4;refine jG ?_;refine jV (x_mkFunc (a:=[]) (c:=[jp a0]) rfl rfl) ?_;refine jR<|jC (containsFunc_t _ _ _ 75 _ (fun t=>decide (t.node=n)) en75.h _ (hr.tg.ext K0) (by omega) (fun x _ w' K'=>open1_ x a0 n w' (a1.ext K'))) ?_;rintro _ a8 ⟨rfl,a3⟩;replace hb:=hb.ext a3;refine jG ?_;refine jW ?_ (hx:=by exact fun hg=>(x_mkFunc (a:=[]) (c:=[jp a0]) rfl rfl));replace a1:=a1.ext a3;replace K0:=K0.ext a3;refine RL.gcall (vals:=[.slice (M.ga) ((M.got.map Mg.c).length) (M.gc),.func (.func 77) #[] #[jp a0]]) (wantedT rfl rfl rfl rfl) en76.h (fun hg=>(mcons (gvr hg) (mcons (gvr hg) mnil))) (fun hg=>(containsFunc_g _ _ _ 77 _ (fun x=>decide (x.frm=n)) en77.h _ (hgt.sl.ext K0) (by omega) (fun x _ w' K'=>open2_ x a0 n w' (a1.ext K')))) ?_;intro a9 a5;refine jG ?_;refine jV (x_and rfl rfl rfl) ?_;refine jG ?_;refine jJ Tryz.func44 ?_;replace K0:=K0.ext a5;exact⟨_,rfl,congrArg Value.bool (by unfold openP;rw[any_c]),K0⟩
theorem msgq_ (m:Nat)(M:Mq)(k n:Int)(w:World)(hb:Blk w m M.cells 99):
  Calls Tryz.prog 68 #[jp m,.int .i64 (k),.int .i64 (n)] w (Ret (fun v w'=>v= .agg #[.int .i64 (((mkC ({nilV with kind:=k,frm:=M.self,to:=n,req:=M.req,key:=M.key,owner:= -1}:MV) nilS)).kind),.int .i64 (((mkC ({nilV with kind:=k,frm:=M.self,to:=n,req:=M.req,key:=M.key,owner:= -1}:MV) nilS)).frm),.int .i64 (((mkC ({nilV with kind:=k,frm:=M.self,to:=n,req:=M.req,key:=M.key,owner:= -1}:MV) nilS)).to),.int .i64 (((mkC ({nilV with kind:=k,frm:=M.self,to:=n,req:=M.req,key:=M.key,owner:= -1}:MV) nilS)).req),.string (((mkC ({nilV with kind:=k,frm:=M.self,to:=n,req:=M.req,key:=M.key,owner:= -1}:MV) nilS)).key),.slice ((((mkC ({nilV with kind:=k,frm:=M.self,to:=n,req:=M.req,key:=M.key,owner:= -1}:MV) nilS)).cart).entries.a) ((((mkC ({nilV with kind:=k,frm:=M.self,to:=n,req:=M.req,key:=M.key,owner:= -1}:MV) nilS)).cart).entries.len) ((((mkC ({nilV with kind:=k,frm:=M.self,to:=n,req:=M.req,key:=M.key,owner:= -1}:MV) nilS)).cart).entries.cap),.slice (((((mkC ({nilV with kind:=k,frm:=M.self,to:=n,req:=M.req,key:=M.key,owner:= -1}:MV) nilS)).cart).ctx).marks.a) (((((mkC ({nilV with kind:=k,frm:=M.self,to:=n,req:=M.req,key:=M.key,owner:= -1}:MV) nilS)).cart).ctx).marks.len) (((((mkC ({nilV with kind:=k,frm:=M.self,to:=n,req:=M.req,key:=M.key,owner:= -1}:MV) nilS)).cart).ctx).marks.cap),.slice (((((mkC ({nilV with kind:=k,frm:=M.self,to:=n,req:=M.req,key:=M.key,owner:= -1}:MV) nilS)).cart).ctx).cloud.a) (((((mkC ({nilV with kind:=k,frm:=M.self,to:=n,req:=M.req,key:=M.key,owner:= -1}:MV) nilS)).cart).ctx).cloud.len) (((((mkC ({nilV with kind:=k,frm:=M.self,to:=n,req:=M.req,key:=M.key,owner:= -1}:MV) nilS)).cart).ctx).cloud.cap),.int .i64 (((mkC ({nilV with kind:=k,frm:=M.self,to:=n,req:=M.req,key:=M.key,owner:= -1}:MV) nilS)).owner),.int .i64 (((mkC ({nilV with kind:=k,frm:=M.self,to:=n,req:=M.req,key:=M.key,owner:= -1}:MV) nilS)).part),.int .i64 (((mkC ({nilV with kind:=k,frm:=M.self,to:=n,req:=M.req,key:=M.key,owner:= -1}:MV) nilS)).n),.int .i64 ((((mkC ({nilV with kind:=k,frm:=M.self,to:=n,req:=M.req,key:=M.key,owner:= -1}:MV) nilS)).ring).parts),.int .i64 ((((mkC ({nilV with kind:=k,frm:=M.self,to:=n,req:=M.req,key:=M.key,owner:= -1}:MV) nilS)).ring).copies),.int .i64 ((((mkC ({nilV with kind:=k,frm:=M.self,to:=n,req:=M.req,key:=M.key,owner:= -1}:MV) nilS)).ring).spots),.slice ((((mkC ({nilV with kind:=k,frm:=M.self,to:=n,req:=M.req,key:=M.key,owner:= -1}:MV) nilS)).ring).members.a) ((((mkC ({nilV with kind:=k,frm:=M.self,to:=n,req:=M.req,key:=M.key,owner:= -1}:MV) nilS)).ring).members.len) ((((mkC ({nilV with kind:=k,frm:=M.self,to:=n,req:=M.req,key:=M.key,owner:= -1}:MV) nilS)).ring).members.cap),.slice (((mkC ({nilV with kind:=k,frm:=M.self,to:=n,req:=M.req,key:=M.key,owner:= -1}:MV) nilS)).peers.a) (((mkC ({nilV with kind:=k,frm:=M.self,to:=n,req:=M.req,key:=M.key,owner:= -1}:MV) nilS)).peers.len) (((mkC ({nilV with kind:=k,frm:=M.self,to:=n,req:=M.req,key:=M.key,owner:= -1}:MV) nilS)).peers.cap),.slice (((mkC ({nilV with kind:=k,frm:=M.self,to:=n,req:=M.req,key:=M.key,owner:= -1}:MV) nilS)).sums.a) (((mkC ({nilV with kind:=k,frm:=M.self,to:=n,req:=M.req,key:=M.key,owner:= -1}:MV) nilS)).sums.len) (((mkC ({nilV with kind:=k,frm:=M.self,to:=n,req:=M.req,key:=M.key,owner:= -1}:MV) nilS)).sums.cap)]∧Ext w w')):=by
 refine calls_run (n:=23) Tryz.func68 rfl rfl rfl ?_;refine jG ?_;refine jR<|jA ?_;intro a4 a6 a1 a0 a3;have a7:=ltLe hb.lt a1;have:w.heap.size≤a4:=a1;clear a1;have K0:=(a3:Ext w _);refine jG ?_;refine Run.drawS [16] [0,1,2,3,1004,5,6,7,8,1009,10,11,12,13,1014,15,2016] ?_;intro a8 a2;replace hb:=(hb.ext a3).ext a2;refine jM (jb hb Jn) ?_;refine jG ?_;refine jP ?_ (hx:=by exact fun _=>(x_build (cells:=#[.int .i64 (k),.int .i64 (M.self),.int .i64 (n),.int .i64 (M.req),.string (M.key),.slice (none) (0) (0),.slice (none) (0) (0),.slice (none) (0) (0),.int .i64 (-1),.int .i64 (0),.int .i64 (0),.int .i64 (0),.int .i64 (0),.int .i64 (0),.slice (none) (0) (0),.slice (none) (0) (0),.slice (none) (0) (0)]) (by kernel_rfl)));replace a0:=a0.ext a2;refine jU rfl<|jS a0 ?_;intro a9 a0 a5;refine jG ?_;refine Run.retC (cs:=#[.int .i64 (k),.int .i64 (M.self),.int .i64 (n),.int .i64 (M.req),.string (M.key),.slice (none) (0) (0),.slice (none) (0) (0),.slice (none) (0) (0),.int .i64 (-1),.int .i64 (0),.int .i64 (0),.int .i64 (0),.int .i64 (0),.int .i64 (0),.slice (none) (0) (0),.slice (none) (0) (0),.slice (none) (0) (0)]) Tryz.func68 rfl ty48 rfl rfl a0.cl ?_;replace K0:=(K0.ext a2).n1 a5;exact⟨_,rfl,rfl,K0⟩
theorem toldY_ (m:Nat)(M:Mq)(v:MV)(s:Six)(w:World)(hM:MqAt w m M)(hok:MqOk M)(hR:CartR w s v)(hv:VOk v):
  Calls Tryz.prog 56 #[jp m,.int .i64 (200),.agg #[.slice (s.ea) (v.ent.length) (s.ec),.slice (s.ma) (v.mrk.length) (s.mc),.slice (s.ca) (v.cl.length) (s.cc)]] w (Ret (fun r w'=>∃s',r= .agg #[.int .i64 (M.id),.int .i64 (200),.slice (s'.ea) (v.ent.length) (s'.ec),.slice (s'.ma) (v.mrk.length) (s'.mc),.slice (s'.ca) (v.cl.length) (s'.cc)]∧CartO w' s' v∧CartA s'∧(∀q,cartS s' q→w.heap.size≤q)∧Ext w w')):=by
 have hM0:=hM;have hok0:=hok;obtain⟨hb,hkp,hkg,hgt,hr,hnk,hng,hnkg,hnr⟩:=hM;obtain⟨⟨hnd1,hnd2⟩,htc,htl,hgl,hsok,hcok,hgok,hfine,hbeg⟩:=hok;have hgm:(M.got.map Mg.c).length=M.got.length:=List.length_map ..;refine calls_run (n:=19) Tryz.func56 rfl rfl rfl ?_;refine jG ?_;refine jR<|jB ?_;intro ac ag a7 a2 a8;have ah:=ltLe hb.lt a7;have:w.heap.size≤ac:=a7;clear a7;have K0:=(a8:Ext w _);refine jR<|jA ?_;intro ai aj a3 a1 a5;replace hb:=hb.ext a8;have ak:=ltLe hb.lt a3;have al:=ltLe a2.lt a3;replace hR:=hR.ext a8;have am:=ltNo hR.own_lt a3;have:=Nat.le_trans K0.size a3;clear a3;refine jG ?_;refine Run.condF rfl ?_;refine jG ?_;refine Run.drawS [9] [0,1,2,3,1004,5,1006,2007,8,2009] ?_;intro an a4;replace hb:=(hb.ext a5).ext a4;replace a2:=(a2.ext a5).ext a4;refine jM (jb hb (jb a2 Jn)) ?_;refine jG ?_;replace hR:=(hR.ext a5).ext a4;refine jU rfl<|jC (qcopied_ v s _ hR (by assumption)) ?_;rintro _ ao ⟨a0,rfl,a9,ad,aa,a6⟩;replace a1:=a1.ext a4;have ae:=notNew aa a1.lt;replace K0:=(K0.ext a5).ext a4;have af:=geTr K0.size aa;clear aa;replace hb:=hb.ext a6;replace a2:=a2.ext a6;refine jG ?_;refine jP ?_ (hx:=by exact fun _=>(x_build (cells:=#[.int .i64 (M.id),.int .i64 (200),.slice (a0.ea) (v.ent.length) (a0.ec),.slice (a0.ma) (v.mrk.length) (a0.mc),.slice (a0.ca) (v.cl.length) (a0.cc)]) (by kernel_rfl)));replace a1:=a1.ext a6;refine jU rfl<|jS a1 ?_;intro ap a1 ab;refine jG ?_;refine Run.retC (cs:=#[.int .i64 (M.id),.int .i64 (200),.slice (a0.ea) (v.ent.length) (a0.ec),.slice (a0.ma) (v.mrk.length) (a0.mc),.slice (a0.ca) (v.cl.length) (a0.cc)]) Tryz.func56 rfl ty63 rfl rfl a1.cl ?_;replace K0:=(K0.ext a6).n1 ab;replace a9:=a9.keepO ab (noOne ae);exact⟨_,rfl,a0,rfl,a9,ad,af,K0⟩
theorem toldN_ (m:Nat)(M:Mq)(stt:Int)(v:MV)(s:Six)(w:World)(hM:MqAt w m M)(hok:MqOk M)(hR:CartR w s v)(hn:¬stt=200):
  Calls Tryz.prog 56 #[jp m,.int .i64 (stt),.agg #[.slice (s.ea) (v.ent.length) (s.ec),.slice (s.ma) (v.mrk.length) (s.mc),.slice (s.ca) (v.cl.length) (s.cc)]] w (Ret (fun r w'=>∃s',r= .agg #[.int .i64 (M.id),.int .i64 (stt),.slice (s'.ea) (nilV.ent.length) (s'.ec),.slice (s'.ma) (nilV.mrk.length) (s'.mc),.slice (s'.ca) (nilV.cl.length) (s'.cc)]∧CartO w' s' nilV∧CartA s'∧(∀q,cartS s' q→w.heap.size≤q)∧Ext w w')):=by
 have hM0:=hM;have hok0:=hok;obtain⟨hb,hkp,hkg,hgt,hr,hnk,hng,hnkg,hnr⟩:=hM;obtain⟨⟨hnd1,hnd2⟩,htc,htl,hgl,hsok,hcok,hgok,hfine,hbeg⟩:=hok;have hgm:(M.got.map Mg.c).length=M.got.length:=List.length_map ..;refine calls_run (n:=19) Tryz.func56 rfl rfl rfl ?_;refine jG ?_;refine jR<|jB ?_;intro ad aj a6 a1 aa;have ak:=ltLe hb.lt a6;have ae:=ltNo hR.own_lt a6;have:w.heap.size≤ad:=a6;clear a6;have K0:=(aa:Ext w _);refine jR<|jA ?_;intro al am a3 a2 a7;replace hb:=hb.ext aa;have an:=ltLe hb.lt a3;have ao:=ltLe a1.lt a3;replace hR:=hR.ext aa;have af:=ltNo hR.own_lt a3;have:=Nat.le_trans K0.size a3;clear a3;refine jG ?_;replace hb:=hb.ext a7;replace hR:=hR.ext a7;replace a1:=a1.ext a7;replace K0:=K0.ext a7;refine jF ?_ ?_
 ·intro hc8
  refine jG ?_;refine jV (x_build (cells:=#[.slice (none) (0) (0),.slice (none) (0) (0),.slice (none) (0) (0)]) (by kernel_rfl)) ?_;refine jR<|jS a1 ?_;intro ap a1 a8;refine jG ?_;refine Run.drawS [9] [0,1,2,3,1004,5,1006,2007,8,2009] ?_;intro aq a4;replace hb:=(hb.kp a8).ext a4;replace a1:=a1.ext a4;refine jM (jb hb (jb a1 Jn)) ?_;refine jG ?_;refine jU rfl<|jC (qcopied_ nilV nilS _ nil_R.cart nil_ok) ?_;rintro _ ar ⟨a0,rfl,ab,ag,ac,a5⟩;replace a2:=(a2.kp a8).ext a4;have ah:=notNew ac a2.lt;replace K0:=(K0.n1 a8).ext a4;have ai:=geTr K0.size ac;clear ac;replace hb:=hb.ext a5;replace a1:=a1.ext a5;refine jG ?_;refine jP ?_ (hx:=by exact fun _=>(x_build (cells:=#[.int .i64 (M.id),.int .i64 (stt),.slice (a0.ea) (nilV.ent.length) (a0.ec),.slice (a0.ma) (nilV.mrk.length) (a0.mc),.slice (a0.ca) (nilV.cl.length) (a0.cc)]) (by kernel_rfl)));replace a2:=a2.ext a5;refine jU rfl<|jS a2 ?_;intro au a2 a9;refine jG ?_;refine Run.retC (cs:=#[.int .i64 (M.id),.int .i64 (stt),.slice (a0.ea) (nilV.ent.length) (a0.ec),.slice (a0.ma) (nilV.mrk.length) (a0.mc),.slice (a0.ca) (nilV.cl.length) (a0.cc)]) Tryz.func56 rfl ty63 rfl rfl a2.cl ?_;replace hR:=(((hR.keepO a8 (noOne ae)).ext a4).ext a5).keepO a9 (noOne af);replace K0:=(K0.ext a5).n1 a9;replace hb:=hb.kp a9;replace ab:=ab.keepO a9 (noOne ah);exact⟨_,rfl,a0,rfl,ab,ag,ai,K0⟩
 ·intro hc8
  exact absurd hc8 hn
end Go.Proofs.YtocgdeefgohdhaaGreat
