/-
  Qd, Qe, Qf
-/
import Derived.Test.YtocgdeefgohdhaaGreatRows
import Derived.Test.YtocgdeefgohdhaaGreatPqQc
import Derived.Test.YtocgdeefgohdhaaGreatPqI
set_option linter.all false
set_option maxRecDepth 100000
set_option maxHeartbeats 4000000
namespace Go.Proofs.YtocgdeefgohdhaaGreat
open Go.Proofs.Tryz
attribute [local irreducible] RD RS AD RL RA RT BH Al
structure Au where
 node:Int
 owner:Int
instance : Enc Au:=Enc.struct (fun t=>[.int .i64 t.node,.int .i64 t.owner]) 2 (fun _=>rfl) (fun _ v hv=>by simp at hv;rcases hv with rfl|rfl<;>rfl) Zd
theorem Au.ext' {a b:Au}(h0:a.node=b.node)(h1:a.owner=b.owner):a=b:=by cases a;cases b;simp_all
instance : DecidableEq Au:=fun a b=>if h:a.node=b.node∧a.owner=b.owner then isTrue (Au.ext' h.1 h.2)else isFalse (fun e=>h (by subst e;exact⟨rfl,rfl⟩))
theorem K9 (m:Nat)(a b:Au)(w:World):(Op.equalIn (m+2) 53 (.agg #[.int .i64 a.node,.int .i64 a.owner]) (.agg #[.int .i64 b.node,.int .i64 b.owner])).run prog w= .ok (decide (a=b)) w:=by
 have h:=run_equalIn_struct (P:=prog) w (m+1) 53 #[.int .i64 a.node,.int .i64 a.owner] #[.int .i64 b.node,.int .i64 b.owner] underlying53 Zk
 have h2:=(Ax (P:=prog) (d:=m+1) (xs:=#[.int .i64 a.node,.int .i64 a.owner]) (ys:=#[.int .i64 b.node,.int .i64 b.owner]) (fd:=(prog.fieldsOf 53).toList[0]) (fs:=[(prog.fieldsOf 53).toList[1]]) (r:=a.node==b.node) Zk (AH ty3 rfl) (AH ty3 rfl) (fun w=>run_equalIn_int w m 3 .i64 .i64 a.node b.node underlying3) (Ax (P:=prog) (d:=m+1) (xs:=#[.int .i64 a.node,.int .i64 a.owner]) (ys:=#[.int .i64 b.node,.int .i64 b.owner]) (fd:=(prog.fieldsOf 53).toList[1]) (fs:=[]) (r:=a.owner==b.owner) Zk (AH ty3 rfl) (AH ty3 rfl) (fun w=>run_equalIn_int w m 3 .i64 .i64 a.owner b.owner underlying3) (BC (m+1) _ _))) w
 refine h.trans (h2.trans ?_)
 congr 1
 rw[Bool.eq_iff_iff]
 simp only[Bool.and_eq_true,beq_iff_eq,and_true,decide_eq_true_eq,CW]
 exact⟨fun h=>Au.ext' h.1 h.2,fun h=>by subst h;exact⟨rfl,rfl⟩⟩
theorem LZ (a b:Au)(w:World):(Op.equalIn 10000 53 (.agg #[.int .i64 a.node,.int .i64 a.owner]) (.agg #[.int .i64 b.node,.int .i64 b.owner])).run prog w= .ok (decide (a=b)) w:=K9 9998 a b w
structure AM where
 id:Int
 status:Int
 cart:AX
instance : Enc AM:=Enc.struct (fun t=>[.int .i64 ((t).id),.int .i64 ((t).status),.slice (((t).cart).entries.a) (((t).cart).entries.len) (((t).cart).entries.cap),.slice ((((t).cart).ctx).marks.a) ((((t).cart).ctx).marks.len) ((((t).cart).ctx).marks.cap),.slice ((((t).cart).ctx).cloud.a) ((((t).cart).ctx).cloud.len) ((((t).cart).ctx).cloud.cap)]) 5 (fun _=>rfl) (fun _ v hv=>by simp at hv;rcases hv with rfl|rfl|rfl|rfl|rfl<;>rfl) Zd
structure Mq where
 self:Int
 req:Int
 need:Int
 began:Int
 id:Int
 knd:Int
 key:ByteArray
 item:ByteArray
 qty:Int
 price:Int
 seen:MV
 ss:A6
 ta:Option Addr
 tc:Nat
 targets:List Au
 ga:Option Addr
 gc:Nat
 got:List Mg
 answered:Bool
 done:Bool
 made:Bool
 status:Int
 put:Bool
 kb:Nat
 cart:MV
 cs:A6
 fine:Int
 bad:Bool
structure PM where
 self:Int
 req:Int
 need:Int
 began:Int
 id:Int
 key:ByteArray
 seen:MV
 targets:List Au
 got:List MV
 answered:Bool
 done:Bool
 made:Bool
 status:Int
 put:Bool
 cart:MV
 fine:Int
 bad:Bool
abbrev Mq.pv (M:Mq):PM:=⟨M.self,M.req,M.need,M.began,M.id,M.key,M.seen,M.targets,M.got.map Mg.v,M.answered,M.done,M.made,M.status,M.put,M.cart,M.fine,M.bad⟩
abbrev c3 (v:MV)(s:A6):List Value:=[.slice s.ea v.ent.length s.ec,.slice s.ma v.mrk.length s.mc,.slice s.ca v.cl.length s.cc]
abbrev kT (b:Bool):TypeId:=match b with|true=>134|false=>141
abbrev Mq.cells (M:Mq):List Value:=[.int .i64 M.self,.int .i64 M.req,.int .i64 M.need,.int .i64 M.began,.int .i64 M.id,.int .i64 M.knd,.string M.key,.string M.item,.int .i64 M.qty,.int .u64 M.price,.slice M.ss.ea M.seen.ent.length M.ss.ec,.slice M.ss.ma M.seen.mrk.length M.ss.mc,.slice M.ss.ca M.seen.cl.length M.ss.cc,.slice M.ta M.targets.length M.tc,.slice M.ga ((M.got.map Mg.c).length) M.gc,.bool M.answered,.bool M.done,.bool M.made,.int .i64 M.status,.iface (kT M.put) (jp M.kb)]
def A4 (M:Mq):Nat→Prop:=fun q=>(M.targets≠ []∧own M.ta q)∨AP M.ss M.seen q∨AP M.cs M.cart q∨∃p∈M.got,AP p.s p.v q
structure Cs (w:World)(M:Mq):Prop where
 tg:At w M.ta M.targets
 seen:AE w M.ss M.seen
 cart:AE w M.cs M.cart
 gots:∀p∈M.got,AE w p.s p.v
def Dx (m:Nat)(M:Mq):Nat→Prop:=fun q=>q=m∨(q=M.kb∨(own M.ga q∨A4 M q))
structure AV (v:MV)(s:A6):Prop where
 ok:Fl v
 ent:EE v.ent
 cap:v.ent.length≤s.ec
structure Ds (M:Mq):Prop where
 need:1≤M.need∧M.need≤5
 tc:M.targets.length≤M.tc
 tl:M.targets.length≤1048576
 gl:M.got.length≤M.targets.length
 seen:AV M.seen M.ss
 cart:AV M.cart M.cs
 gots:∀p∈M.got,AV p.v p.s
 fine:0≤M.fine∧M.fine≤M.got.length
 began:0≤M.began∧M.began≤1099511627776
structure Cv (w:World)(m:Nat)(M:Mq):Prop where
 blk:AI w m M.cells 99
 kput:M.put=true→AI w M.kb (c3 M.cart M.cs) 136
 kget:M.put=false→AI w M.kb (c3 M.cart M.cs++[.int .i64 M.fine,.bool M.bad]) 143
 got:Ag w 48 M.ga M.gc (M.got.map Mg.c)
 rest:Cs w M
 nk:m≠M.kb
 ng:¬own M.ga m
 nkg:¬own M.ga M.kb
 nr:∀q,A4 M q→q≠m∧q≠M.kb∧¬own M.ga q
section
variable {w w':World}{S:Nat→Prop}{m:Nat}{M:Mq}
theorem Cs.own_lt (h:Cs w M):∀q,A4 M q→q<w.heap.size:=by
 rintro q (⟨h1,h2⟩|hq|hq|⟨p,hp,hq⟩)
 ·exact Fv h.tg h1 h2
 ·exact h.seen.own_lt q hq
 ·exact h.cart.own_lt q hq
 ·exact(h.gots p hp).own_lt q hq
theorem Cs.keepO (h:Cs w M)(k:Ao S w w')(hn:∀q,A4 M q→¬S q):Cs w' M:=
 ⟨h.tg.keepN k fun x hx he=>hn x.block (.inl ⟨he,x,hx,rfl⟩),h.seen.keepO k fun q hq=>hn q (.inr (.inl hq)),h.cart.keepO k fun q hq=>hn q (.inr (.inr (.inl hq))),fun p hp=>(h.gots p hp).keepO k fun q hq=>hn q (.inr (.inr (.inr ⟨p,hp,hq⟩)))⟩
theorem Cs.ext (h:Cs w M)(k:As w w'):Cs w' M:=⟨h.tg.ext k,h.seen.ext k,h.cart.ext k,fun p hp=>(h.gots p hp).ext k⟩
theorem Cv.kb_lt (h:Cv w m M):M.kb<w.heap.size:=by
 cases hp:M.put with
 |true=>exact(h.kput hp).lt
 |false=>exact(h.kget hp).lt
theorem Cv.own_lt (h:Cv w m M):∀q,Dx m M q→q<w.heap.size:=by
 rintro q (rfl|rfl|hq|hq)
 ·exact h.blk.lt
 ·exact h.kb_lt
 ·exact h.got.own_lt q hq
 ·exact h.rest.own_lt q hq
theorem Cv.keepO (h:Cv w m M)(k:Ao S w w')(hn:∀q,Dx m M q→¬S q):Cv w' m M:=
 ⟨h.blk.keep k (hn _ (.inl rfl)),fun e=>(h.kput e).keep k (hn _ (.inr (.inl rfl))),fun e=>(h.kget e).keep k (hn _ (.inr (.inl rfl))),h.got.keepO k fun q hq=>hn q (.inr (.inr (.inl hq))),h.rest.keepO k fun q hq=>hn q (.inr (.inr (.inr hq))),h.nk,h.ng,h.nkg,h.nr⟩
theorem Cv.ext (h:Cv w m M)(k:As w w'):Cv w' m M:=h.keepO k fun _ _=>id
end
def B3 (w:World)(m:Nat)(F:Nat→Prop)(Q:PM):Prop:=∃M:Mq,F=Dx m M∧Q=M.pv∧Cv w m M∧Ds M
section
variable {w w':World}{S F:Nat→Prop}{m:Nat}{Q:PM}
theorem B3.own_lt (h:B3 w m F Q):∀q,F q→q<w.heap.size:=by obtain⟨M,rfl,rfl,h,-⟩:=h;exact h.own_lt
theorem B3.keepO (h:B3 w m F Q)(k:Ao S w w')(hn:∀q,F q→¬S q):B3 w' m F Q:=by obtain⟨M,rfl,rfl,h,ho⟩:=h;exact⟨M,rfl,rfl,h.keepO k hn,ho⟩
theorem B3.ext (h:B3 w m F Q)(k:As w w'):B3 w' m F Q:=h.keepO k fun _ _ h=>h
end
def Dg (Q:PM)(n:Int):Bool:=Q.targets.any (fun t=>decide (t.node=n))&& !(Q.got.any fun v=>decide (v.frm=n))
theorem SN (l:List Mg)(n:Int):((l.map Mg.c).any fun x=>decide (x.frm=n))=((l.map Mg.v).any fun v=>decide (v.frm=n)):=by
 rw[List.any_map,List.any_map];rfl
attribute [local irreducible] X
theorem HN (a:Option Addr)(xs:List Au)(c:Nat)(d:Option Addr)(ys:List Au)(e:Nat)(w:World)(hs:At w a xs)(ht:At w d ys)(hl:xs.length≤4294967295):
  Calls prog 34 #[.slice a xs.length c,.slice d ys.length e] w (AU (fun v w'=>v= .bool (decide (xs=ys))∧As w w')):=by
 refine Af (n:=26) func34 rfl rfl rfl ?_;refine jG ?_;refine jF ?_ ?_
 ·intro hc10
  refine jG ?_;refine jJ func34 ?_;exact⟨_,rfl,by rw[decide_eq_false (fun h=>hc10 (by rw[h]))],(Ao.refl _ w)⟩
 ·intro hc10
  have hlen:xs.length=ys.length:=by omega
  refine jG ?_;refine Al.loop (ι:=Nat) (fun i ρ' w'=>AG ρ' [(0,.slice a xs.length c),(1,.slice d ys.length e),(12,.int .i64 ((xs.length:Nat):Int)),(13,.int .i64 ((i:Nat):Int))]∧As w w'∧(i≤xs.length)∧(CJ xs ys i)) (fun i=>xs.length-i) 0 ?_ ?_
  ·refine⟨⟨rfl,rfl,rfl,rfl,trivial⟩,(Ao.refl _ w),?_,?_⟩
   ·omega
   ·exact CJ.zero _ _
  rintro i a4 a5 ⟨a3,K0,hi,hno⟩ ih1;obtain⟨ρ₀,rfl⟩:=a3.ex;clear a3;refine jG ?_;refine jF ?_ ?_
  ·intro hc14
   refine jG ?_;obtain⟨a6,a7,x,hx,a8,a0⟩:=hs.eo i;have hc_9_lt:=a0.lt;obtain⟨a9,aa,y,hy,ab,a1⟩:=ht.eo i;have hc_15_lt:=a1.lt;refine Al.drawR ?_;intro ac a2;replace a0:=(a0.ext K0).ext a2;replace a1:=(a1.ext K0).ext a2;refine jG ?_;refine jD (Ew Zk rfl rfl (LZ x y)) ?_;refine jG ?_;replace K0:=K0.ext a2;refine jF ?_ ?_
   ·intro hc24
    refine jG ?_;refine jJ func34 ?_;exact⟨_,rfl,by rw[decide_eq_false (DJ hx hy hc24)],K0⟩
   ·intro hc24
    refine jG ?_;refine jV (Ay (c:=((i+1:Nat):Int)) (Aq rfl rfl Zo Zo) rfl) ?_;refine jG ?_;refine ih1 (i+1) _ _ ?_ Zo;refine⟨⟨rfl,rfl,rfl,rfl,trivial⟩,K0,?_,?_⟩
    ·omega
    ·exact hno.step hx hy hc24
  ·intro hc14
   refine jG ?_;refine jJ func34 ?_;exact⟨_,rfl,by rw[decide_eq_true (hno.all hlen Zo)],K0⟩
theorem BJ (a:Option Addr)(xs:List Au)(c:Nat)(w:World)(hs:At w a xs)(hl:xs.length≤4294967295):
  Calls prog 28 #[.slice a xs.length c] w (AU (fun v w'=>∃a' c',v= .slice a' xs.length c'∧Ag w' 53 a' c' xs∧(∀b,own a' b→w.heap.size≤b)∧As w w')):=by
 refine Af (n:=8) func28 rfl rfl rfl ?_;refine jG ?_;refine jV (E3 underlying32 rfl rfl) ?_;refine jG ?_;refine Al.cond rfl (fun hc4=> ?_) (fun hc4=> ?_)
 ·skip
  refine jG ?_;refine jJ func28 ?_;have hx:=hs.nil_of hc4;subst hx;exact⟨_,rfl,none,0,rfl,Ag.nil _ _,fun b h=>absurd h (Ad b),(Ao.refl _ w)⟩
 ·skip
  refine jG ?_;refine jR<|AD.buildSlice ([]:List Au) underlying32 ty53 rfl rfl Ze ?_;intro ab ac a0 a4 a5;have a1:=Az (Nat.le_refl _) (Av a0);clear a0;have K0:=(a5:As w _);refine jG ?_;refine jR<|AD.append (xs:=([]:List Au)) (ys:=xs) underlying32 ty53 rfl rfl rfl a4 (hs.ext K0) Zr Zd ?_;intro a2 a6 ad a7 a8 a3 a9;have aa:∀q_,own a2 q_→w.heap.size≤q_:=a3.ge a1 K0.size;clear a3;clear a9;refine jG ?_;refine jJ func28 ?_;replace K0:=K0.new a8 a1;exact⟨_,rfl,a2,a6,by rw[List.nil_append],by simpa using a7,aa,K0⟩
theorem La (a:Option Addr)(xs:List Au)(c:Nat)(gf:FuncId)(caps:List Value)(q:Au→Bool)(hen:Du prog gf)(w:World)(hs:At w a xs)(hl:xs.length≤4294967295)(hq:∀x∈xs,∀w',As w w'→Calls prog gf (Enc.val x::caps).toArray w' (AU fun v w''=>v= .bool (q x)∧As w' w'')):
  Calls prog 35 #[.slice a xs.length c,.func (.func gf) #[] caps.toArray] w (AU (fun v w'=>v= .int .i64 (FV q xs)∧As w w')):=by
 refine Af (n:=19) func35 rfl rfl rfl ?_;refine jG ?_;refine Al.loop (ι:=Nat) (fun i ρ' w'=>AG ρ' [(0,.slice a xs.length c),(1,.func (.func gf) #[] caps.toArray),(7,.int .i64 ((xs.length:Nat):Int)),(8,.int .i64 ((i:Nat):Int))]∧As w w'∧(i≤xs.length)∧(Ep q xs i)) (fun i=>xs.length-i) 0 ?_ ?_
 ·refine⟨⟨rfl,rfl,rfl,rfl,trivial⟩,(Ao.refl _ w),?_,?_⟩
  ·omega
  ·exact Ep.zero _ _
 rintro i a3 a4 ⟨a1,K0,hi,hno⟩ ih1;obtain⟨ρ₀,rfl⟩:=a1.ex;clear a1;refine jG ?_;refine jF ?_ ?_
 ·intro hc9
  obtain⟨a5,a6,e,hx,a7,a0⟩:=hs.eo i;have hc_7_lt:=a0.lt;replace a0:=a0.ext K0;refine jG ?_;refine jR<|AD.callV (first:=[]) (vals:= .agg #[.int .i64 ((e).node),.int .i64 ((e).owner)]::caps) hen rfl rfl (hq e (AT hx) _ K0) ?_;rintro _ a8 ⟨rfl,a2⟩;refine jG ?_;replace K0:=K0.ext a2;refine Al.cond rfl (fun hc16=> ?_) (fun hc16=> ?_)
  ·skip
   refine jG ?_;refine jJ func35 ?_;exact⟨_,rfl,by rw[Gp hx hc16 hno],K0⟩
  ·skip
   refine jG ?_;refine jV (Ay (c:=((i+1:Nat):Int)) (Aq rfl rfl Zo Zo) rfl) ?_;refine jG ?_;refine ih1 (i+1) _ _ ?_ Zo;refine⟨⟨rfl,rfl,rfl,rfl,trivial⟩,K0,?_,?_⟩
   ·omega
   ·exact hno.step hx hc16
 ·intro hc9
  refine jG ?_;refine jJ func35 ?_;exact⟨_,rfl,by rw[Gq hno Zo],K0⟩
theorem FB (a:Option Addr)(xs:List Au)(c:Nat)(gf:FuncId)(caps:List Value)(q:Au→Bool)(hen:Du prog gf)(w:World)(hs:At w a xs)(hl:xs.length≤4294967295)(hq:∀x∈xs,∀w',As w w'→Calls prog gf (Enc.val x::caps).toArray w' (AU fun v w''=>v= .bool (q x)∧As w' w'')):
  Calls prog 8 #[.slice a xs.length c,.func (.func gf) #[] caps.toArray] w (AU (fun v w'=>v= .bool (xs.any q)∧As w w')):=by
 refine Af (n:=9) func8 rfl rfl rfl ?_;refine jG ?_;refine jR<|jC (La _ _ _ _ _ q hen _ hs Zo hq) ?_;rintro _ a1 ⟨rfl,a0⟩;have K0:=(a0:As w _);refine jG ?_;refine jJ func8 ?_;exact⟨_,rfl,by rw[Gs],K0⟩
theorem Lb (a:Option Addr)(xs:List Cd)(c:Nat)(gf:FuncId)(caps:List Value)(q:Cd→Bool)(hen:Du prog gf)(w:World)(hs:At w a xs)(hl:xs.length≤4294967295)(hq:∀x∈xs,∀w',As w w'→Calls prog gf (Enc.val x::caps).toArray w' (AU fun v w''=>v= .bool (q x)∧As w' w'')):
  Calls prog 93 #[.slice a xs.length c,.func (.func gf) #[] caps.toArray] w (AU (fun v w'=>v= .int .i64 (FV q xs)∧As w w')):=by
 refine Af (n:=19) func93 rfl rfl rfl ?_;refine jG ?_;refine Al.loop (ι:=Nat) (fun i ρ' w'=>AG ρ' [(0,.slice a xs.length c),(1,.func (.func gf) #[] caps.toArray),(7,.int .i64 ((xs.length:Nat):Int)),(8,.int .i64 ((i:Nat):Int))]∧As w w'∧(i≤xs.length)∧(Ep q xs i)) (fun i=>xs.length-i) 0 ?_ ?_
 ·refine⟨⟨rfl,rfl,rfl,rfl,trivial⟩,(Ao.refl _ w),?_,?_⟩
  ·omega
  ·exact Ep.zero _ _
 rintro i a3 a4 ⟨a1,K0,hi,hno⟩ ih1;obtain⟨ρ₀,rfl⟩:=a1.ex;clear a1;refine jG ?_;refine jF ?_ ?_
 ·intro hc9
  obtain⟨a5,a6,e,hx,a7,a0⟩:=hs.eo i;have hc_7_lt:=a0.lt;replace a0:=a0.ext K0;refine jG ?_;refine jR<|AD.callV (first:=[]) (vals:= .agg #[.int .i64 ((e).kind),.int .i64 ((e).frm),.int .i64 ((e).to),.int .i64 ((e).req),.string ((e).key),.slice (((e).cart).entries.a) (((e).cart).entries.len) (((e).cart).entries.cap),.slice ((((e).cart).ctx).marks.a) ((((e).cart).ctx).marks.len) ((((e).cart).ctx).marks.cap),.slice ((((e).cart).ctx).cloud.a) ((((e).cart).ctx).cloud.len) ((((e).cart).ctx).cloud.cap),.int .i64 ((e).owner),.int .i64 ((e).part),.int .i64 ((e).n),.int .i64 (((e).ring).parts),.int .i64 (((e).ring).copies),.int .i64 (((e).ring).spots),.slice (((e).ring).members.a) (((e).ring).members.len) (((e).ring).members.cap),.slice ((e).peers.a) ((e).peers.len) ((e).peers.cap),.slice ((e).sums.a) ((e).sums.len) ((e).sums.cap)]::caps) hen rfl rfl (hq e (AT hx) _ K0) ?_;rintro _ a8 ⟨rfl,a2⟩;refine jG ?_;replace K0:=K0.ext a2;refine Al.cond rfl (fun hc16=> ?_) (fun hc16=> ?_)
  ·skip
   refine jG ?_;refine jJ func93 ?_;exact⟨_,rfl,by rw[Gp hx hc16 hno],K0⟩
  ·skip
   refine jG ?_;refine jV (Ay (c:=((i+1:Nat):Int)) (Aq rfl rfl Zo Zo) rfl) ?_;refine jG ?_;refine ih1 (i+1) _ _ ?_ Zo;refine⟨⟨rfl,rfl,rfl,rfl,trivial⟩,K0,?_,?_⟩
   ·omega
   ·exact hno.step hx hc16
 ·intro hc9
  refine jG ?_;refine jJ func93 ?_;exact⟨_,rfl,by rw[Gq hno Zo],K0⟩
theorem It (a:Option Addr)(xs:List Cd)(c:Nat)(gf:FuncId)(caps:List Value)(q:Cd→Bool)(hen:Du prog gf)(w:World)(hs:At w a xs)(hl:xs.length≤4294967295)(hq:∀x∈xs,∀w',As w w'→Calls prog gf (Enc.val x::caps).toArray w' (AU fun v w''=>v= .bool (q x)∧As w' w'')):
  Calls prog 76 #[.slice a xs.length c,.func (.func gf) #[] caps.toArray] w (AU (fun v w'=>v= .bool (xs.any q)∧As w w')):=by
 refine Af (n:=9) func76 rfl rfl rfl ?_;refine jG ?_;refine jR<|jC (Lb _ _ _ _ _ q hen _ hs Zo hq) ?_;rintro _ a1 ⟨rfl,a0⟩;have K0:=(a0:As w _);refine jG ?_;refine jJ func76 ?_;exact⟨_,rfl,by rw[Gs],K0⟩
theorem DQ (m:Nat)(M:Mq)(w:World)(hM:Cv w m M)(hok:Ds M):
  Calls prog 43 #[jp m] w (AU (fun v w'=>v= .bool (M.made&& !M.done)∧As w w')):=by
 have hM0:=hM;have hok0:=hok;obtain⟨hb,hkp,hkg,hgt,hr,hnk,hng,hnkg,hnr⟩:=hM;obtain⟨⟨hnd1,hnd2⟩,htc,htl,hgl,hsok,hcok,hgok,hfine,hbeg⟩:=hok;have hgm:(M.got.map Mg.c).length=M.got.length:=List.length_map ..;refine Af (n:=18) func43 rfl rfl rfl ?_;refine jG ?_;refine jV (A3 (Hi underlying36 rfl rfl) rfl) ?_;refine jG ?_;refine jV (BA rfl rfl rfl) ?_;refine jG ?_;refine jV (AN rfl rfl rfl) ?_;refine jG ?_;refine jJ func43 ?_;exact⟨_,rfl,rfl,(Ao.refl _ w)⟩
theorem SO (m:Nat)(M:Mq)(w:World)(hM:Cv w m M)(hok:Ds M):
  Calls prog 16 #[jp m] w (AU (fun v w'=>v= .bool (!(M.made&& !M.done))∧As w w')):=by
 refine Af (n:=6) func16 rfl rfl rfl ?_;refine jG ?_;refine jR<|jC (DQ m M _ hM hok) ?_;rintro _ a1 ⟨rfl,a0⟩;have K0:=(a0:As w _);refine jG ?_;refine jJ func16 ?_;exact⟨_,rfl,rfl,K0⟩
theorem R4 (t:Au)(b:Nat)(n:Int)(w:World)(hx:AI w b [.int .i64 n] 3):
  Calls prog 75 #[.agg #[.int .i64 ((t).node),.int .i64 ((t).owner)],jp b] w (AU (fun v w'=>v= .bool (decide (t.node=n))∧As w w')):=by
 refine Af (n:=8) func75 rfl rfl rfl ?_;refine jG ?_;refine jR<|jB ?_;intro a2 a3 a0 a4 a1;have a5:=Aj hx.lt a0;have:w.heap.size≤a2:=a0;clear a0;have K0:=(a1:As w _);replace hx:=hx.ext a1;refine jG ?_;refine jJ func75 ?_;exact⟨_,rfl,congrArg Value.bool Zq,K0⟩
theorem R5 (x:Cd)(b:Nat)(n:Int)(w:World)(hx:AI w b [.int .i64 n] 3):
  Calls prog 77 #[.agg #[.int .i64 ((x).kind),.int .i64 ((x).frm),.int .i64 ((x).to),.int .i64 ((x).req),.string ((x).key),.slice (((x).cart).entries.a) (((x).cart).entries.len) (((x).cart).entries.cap),.slice ((((x).cart).ctx).marks.a) ((((x).cart).ctx).marks.len) ((((x).cart).ctx).marks.cap),.slice ((((x).cart).ctx).cloud.a) ((((x).cart).ctx).cloud.len) ((((x).cart).ctx).cloud.cap),.int .i64 ((x).owner),.int .i64 ((x).part),.int .i64 ((x).n),.int .i64 (((x).ring).parts),.int .i64 (((x).ring).copies),.int .i64 (((x).ring).spots),.slice (((x).ring).members.a) (((x).ring).members.len) (((x).ring).members.cap),.slice ((x).peers.a) ((x).peers.len) ((x).peers.cap),.slice ((x).sums.a) ((x).sums.len) ((x).sums.cap)],jp b] w (AU (fun v w'=>v= .bool (decide (x.frm=n))∧As w w')):=by
 refine Af (n:=8) func77 rfl rfl rfl ?_;refine jG ?_;refine jR<|jB ?_;intro a2 a3 a0 a4 a1;have a5:=Aj hx.lt a0;have:w.heap.size≤a2:=a0;clear a0;have K0:=(a1:As w _);replace hx:=hx.ext a1;refine jG ?_;refine jJ func77 ?_;exact⟨_,rfl,congrArg Value.bool Zq,K0⟩
theorem M5 (m:Nat)(M:Mq)(n:Int)(w:World)(hM:Cv w m M)(hok:Ds M):
  Calls prog 44 #[jp m,.int .i64 n] w (AU (fun v w'=>v= .bool (Dg M.pv n)∧As w w')):=by
 have hM0:=hM;have hok0:=hok;obtain⟨hb,hkp,hkg,hgt,hr,hnk,hng,hnkg,hnr⟩:=hM;obtain⟨⟨hnd1,hnd2⟩,htc,htl,hgl,hsok,hcok,hgok,hfine,hbeg⟩:=hok;have hgm:(M.got.map Mg.c).length=M.got.length:=List.length_map ..;refine Af (n:=22) func44 rfl rfl rfl ?_;refine jG ?_;refine jR<|jB ?_;intro a0 a6 a2 a1 a4;have a7:=Aj hb.lt a2;have:w.heap.size≤a0:=a2;clear a2;have K0:=(a4:As w _);replace hb:=hb.ext a4;refine jG ?_;refine jV (EM (a:=[]) (c:=[jp a0]) rfl rfl) ?_;refine jR<|jC (FB _ _ _ 75 _ (fun t=>decide (t.node=n)) en75.h _ (hr.tg.ext K0) Zo (fun x _ w' K'=>R4 x a0 n w' (a1.ext K'))) ?_;rintro _ a8 ⟨rfl,a3⟩;replace hb:=hb.ext a3;refine jG ?_;refine jW ?_ (hx:=by exact fun hg=>(EM (a:=[]) (c:=[jp a0]) rfl rfl));replace a1:=a1.ext a3;replace K0:=K0.ext a3;refine RL.gcall (vals:=[.slice M.ga ((M.got.map Mg.c).length) M.gc,.func (.func 77) #[] #[jp a0]]) (A8 rfl rfl rfl rfl) en76.h (fun hg=>(Bm (Bh hg) (Bm (Bh hg) Di))) (fun hg=>(It _ _ _ 77 _ (fun x=>decide (x.frm=n)) en77.h _ (hgt.sl.ext K0) Zo (fun x _ w' K'=>R5 x a0 n w' (a1.ext K')))) ?_;intro a9 a5;refine jG ?_;refine jV (AN rfl rfl rfl) ?_;refine jG ?_;refine jJ func44 ?_;replace K0:=K0.ext a5;exact⟨_,rfl,congrArg Value.bool (by unfold Dg;rw[SN]),K0⟩
theorem M6 (m:Nat)(M:Mq)(k n:Int)(w:World)(hb:AI w m M.cells 99):
  Calls prog 68 #[jp m,.int .i64 k,.int .i64 n] w (AU (fun v w'=>v= .agg #[.int .i64 ((An ({nilV with kind:=k,frm:=M.self,to:=n,req:=M.req,key:=M.key,owner:= -1}:MV) nilS).kind),.int .i64 ((An ({nilV with kind:=k,frm:=M.self,to:=n,req:=M.req,key:=M.key,owner:= -1}:MV) nilS).frm),.int .i64 ((An ({nilV with kind:=k,frm:=M.self,to:=n,req:=M.req,key:=M.key,owner:= -1}:MV) nilS).to),.int .i64 ((An ({nilV with kind:=k,frm:=M.self,to:=n,req:=M.req,key:=M.key,owner:= -1}:MV) nilS).req),.string ((An ({nilV with kind:=k,frm:=M.self,to:=n,req:=M.req,key:=M.key,owner:= -1}:MV) nilS).key),.slice (((An ({nilV with kind:=k,frm:=M.self,to:=n,req:=M.req,key:=M.key,owner:= -1}:MV) nilS).cart).entries.a) (((An ({nilV with kind:=k,frm:=M.self,to:=n,req:=M.req,key:=M.key,owner:= -1}:MV) nilS).cart).entries.len) (((An ({nilV with kind:=k,frm:=M.self,to:=n,req:=M.req,key:=M.key,owner:= -1}:MV) nilS).cart).entries.cap),.slice ((((An ({nilV with kind:=k,frm:=M.self,to:=n,req:=M.req,key:=M.key,owner:= -1}:MV) nilS).cart).ctx).marks.a) ((((An ({nilV with kind:=k,frm:=M.self,to:=n,req:=M.req,key:=M.key,owner:= -1}:MV) nilS).cart).ctx).marks.len) ((((An ({nilV with kind:=k,frm:=M.self,to:=n,req:=M.req,key:=M.key,owner:= -1}:MV) nilS).cart).ctx).marks.cap),.slice ((((An ({nilV with kind:=k,frm:=M.self,to:=n,req:=M.req,key:=M.key,owner:= -1}:MV) nilS).cart).ctx).cloud.a) ((((An ({nilV with kind:=k,frm:=M.self,to:=n,req:=M.req,key:=M.key,owner:= -1}:MV) nilS).cart).ctx).cloud.len) ((((An ({nilV with kind:=k,frm:=M.self,to:=n,req:=M.req,key:=M.key,owner:= -1}:MV) nilS).cart).ctx).cloud.cap),.int .i64 ((An ({nilV with kind:=k,frm:=M.self,to:=n,req:=M.req,key:=M.key,owner:= -1}:MV) nilS).owner),.int .i64 ((An ({nilV with kind:=k,frm:=M.self,to:=n,req:=M.req,key:=M.key,owner:= -1}:MV) nilS).part),.int .i64 ((An ({nilV with kind:=k,frm:=M.self,to:=n,req:=M.req,key:=M.key,owner:= -1}:MV) nilS).n),.int .i64 (((An ({nilV with kind:=k,frm:=M.self,to:=n,req:=M.req,key:=M.key,owner:= -1}:MV) nilS).ring).parts),.int .i64 (((An ({nilV with kind:=k,frm:=M.self,to:=n,req:=M.req,key:=M.key,owner:= -1}:MV) nilS).ring).copies),.int .i64 (((An ({nilV with kind:=k,frm:=M.self,to:=n,req:=M.req,key:=M.key,owner:= -1}:MV) nilS).ring).spots),.slice (((An ({nilV with kind:=k,frm:=M.self,to:=n,req:=M.req,key:=M.key,owner:= -1}:MV) nilS).ring).members.a) (((An ({nilV with kind:=k,frm:=M.self,to:=n,req:=M.req,key:=M.key,owner:= -1}:MV) nilS).ring).members.len) (((An ({nilV with kind:=k,frm:=M.self,to:=n,req:=M.req,key:=M.key,owner:= -1}:MV) nilS).ring).members.cap),.slice ((An ({nilV with kind:=k,frm:=M.self,to:=n,req:=M.req,key:=M.key,owner:= -1}:MV) nilS).peers.a) ((An ({nilV with kind:=k,frm:=M.self,to:=n,req:=M.req,key:=M.key,owner:= -1}:MV) nilS).peers.len) ((An ({nilV with kind:=k,frm:=M.self,to:=n,req:=M.req,key:=M.key,owner:= -1}:MV) nilS).peers.cap),.slice ((An ({nilV with kind:=k,frm:=M.self,to:=n,req:=M.req,key:=M.key,owner:= -1}:MV) nilS).sums.a) ((An ({nilV with kind:=k,frm:=M.self,to:=n,req:=M.req,key:=M.key,owner:= -1}:MV) nilS).sums.len) ((An ({nilV with kind:=k,frm:=M.self,to:=n,req:=M.req,key:=M.key,owner:= -1}:MV) nilS).sums.cap)]∧As w w')):=by
 refine Af (n:=23) func68 rfl rfl rfl ?_;refine jG ?_;refine jR<|jA ?_;intro a4 a6 a1 a0 a3;have a7:=Aj hb.lt a1;have:w.heap.size≤a4:=a1;clear a1;have K0:=(a3:As w _);refine jG ?_;refine Al.drawS [16] [0,1,2,3,1004,5,6,7,8,1009,10,11,12,13,1014,15,2016] ?_;intro a8 a2;replace hb:=(hb.ext a3).ext a2;refine jM (jb hb Jn) ?_;refine jG ?_;refine jP ?_ (hx:=by exact fun _=>(Ar (cells:=#[.int .i64 k,.int .i64 M.self,.int .i64 n,.int .i64 M.req,.string M.key,.slice none 0 0,.slice none 0 0,.slice none 0 0,.int .i64 (-1),.int .i64 0,.int .i64 0,.int .i64 0,.int .i64 0,.int .i64 0,.slice none 0 0,.slice none 0 0,.slice none 0 0]) Zk));replace a0:=a0.ext a2;refine jU rfl<|jS a0 ?_;intro a9 a0 a5;refine jG ?_;refine Al.retC (cs:=#[.int .i64 k,.int .i64 M.self,.int .i64 n,.int .i64 M.req,.string M.key,.slice none 0 0,.slice none 0 0,.slice none 0 0,.int .i64 (-1),.int .i64 0,.int .i64 0,.int .i64 0,.int .i64 0,.int .i64 0,.slice none 0 0,.slice none 0 0,.slice none 0 0]) func68 rfl ty48 rfl rfl a0.cl ?_;replace K0:=(K0.ext a2).n1 a5;exact⟨_,rfl,rfl,K0⟩
theorem J3 (m:Nat)(M:Mq)(v:MV)(s:A6)(w:World)(hM:Cv w m M)(hok:Ds M)(hR:AE w s v)(hv:Fl v):
  Calls prog 56 #[jp m,.int .i64 200,.agg #[.slice s.ea v.ent.length s.ec,.slice s.ma v.mrk.length s.mc,.slice s.ca v.cl.length s.cc]] w (AU (fun r w'=>∃s',r= .agg #[.int .i64 M.id,.int .i64 200,.slice s'.ea v.ent.length s'.ec,.slice s'.ma v.mrk.length s'.mc,.slice s'.ca v.cl.length s'.cc]∧BF w' s' v∧CN s'∧(∀q,Aw s' q→w.heap.size≤q)∧As w w')):=by
 have hM0:=hM;have hok0:=hok;obtain⟨hb,hkp,hkg,hgt,hr,hnk,hng,hnkg,hnr⟩:=hM;obtain⟨⟨hnd1,hnd2⟩,htc,htl,hgl,hsok,hcok,hgok,hfine,hbeg⟩:=hok;have hgm:(M.got.map Mg.c).length=M.got.length:=List.length_map ..;refine Af (n:=19) func56 rfl rfl rfl ?_;refine jG ?_;refine jR<|jB ?_;intro ac ag a7 a2 a8;have ah:=Aj hb.lt a7;have:w.heap.size≤ac:=a7;clear a7;have K0:=(a8:As w _);refine jR<|jA ?_;intro ai aj a3 a1 a5;replace hb:=hb.ext a8;have ak:=Aj hb.lt a3;have al:=Aj a2.lt a3;replace hR:=hR.ext a8;have am:=Ak hR.own_lt a3;have:=Nat.le_trans K0.size a3;clear a3;refine jG ?_;refine Al.condF rfl ?_;refine jG ?_;refine Al.drawS [9] [0,1,2,3,1004,5,1006,2007,8,2009] ?_;intro an a4;replace hb:=(hb.ext a5).ext a4;replace a2:=(a2.ext a5).ext a4;refine jM (jb hb (jb a2 Jn)) ?_;refine jG ?_;replace hR:=(hR.ext a5).ext a4;refine jU rfl<|jC (DP v s _ hR Za) ?_;rintro _ ao ⟨a0,rfl,a9,ad,aa,a6⟩;replace a1:=a1.ext a4;have ae:=Ae aa a1.lt;replace K0:=(K0.ext a5).ext a4;have af:=Az K0.size aa;clear aa;replace hb:=hb.ext a6;replace a2:=a2.ext a6;refine jG ?_;refine jP ?_ (hx:=by exact fun _=>(Ar (cells:=#[.int .i64 M.id,.int .i64 200,.slice a0.ea v.ent.length a0.ec,.slice a0.ma v.mrk.length a0.mc,.slice a0.ca v.cl.length a0.cc]) Zk));replace a1:=a1.ext a6;refine jU rfl<|jS a1 ?_;intro ap a1 ab;refine jG ?_;refine Al.retC (cs:=#[.int .i64 M.id,.int .i64 200,.slice a0.ea v.ent.length a0.ec,.slice a0.ma v.mrk.length a0.mc,.slice a0.ca v.cl.length a0.cc]) func56 rfl ty63 rfl rfl a1.cl ?_;replace K0:=(K0.ext a6).n1 ab;replace a9:=a9.keepO ab (Aa ae);exact⟨_,rfl,a0,rfl,a9,ad,af,K0⟩
theorem Da (m:Nat)(M:Mq)(stt:Int)(v:MV)(s:A6)(w:World)(hM:Cv w m M)(hok:Ds M)(hR:AE w s v)(hn:¬stt=200):
  Calls prog 56 #[jp m,.int .i64 stt,.agg #[.slice s.ea v.ent.length s.ec,.slice s.ma v.mrk.length s.mc,.slice s.ca v.cl.length s.cc]] w (AU (fun r w'=>∃s',r= .agg #[.int .i64 M.id,.int .i64 stt,.slice s'.ea nilV.ent.length s'.ec,.slice s'.ma nilV.mrk.length s'.mc,.slice s'.ca nilV.cl.length s'.cc]∧BF w' s' nilV∧CN s'∧(∀q,Aw s' q→w.heap.size≤q)∧As w w')):=by
 have hM0:=hM;have hok0:=hok;obtain⟨hb,hkp,hkg,hgt,hr,hnk,hng,hnkg,hnr⟩:=hM;obtain⟨⟨hnd1,hnd2⟩,htc,htl,hgl,hsok,hcok,hgok,hfine,hbeg⟩:=hok;have hgm:(M.got.map Mg.c).length=M.got.length:=List.length_map ..;refine Af (n:=19) func56 rfl rfl rfl ?_;refine jG ?_;refine jR<|jB ?_;intro ad aj a6 a1 aa;have ak:=Aj hb.lt a6;have ae:=Ak hR.own_lt a6;have:w.heap.size≤ad:=a6;clear a6;have K0:=(aa:As w _);refine jR<|jA ?_;intro al am a3 a2 a7;replace hb:=hb.ext aa;have an:=Aj hb.lt a3;have ao:=Aj a1.lt a3;replace hR:=hR.ext aa;have af:=Ak hR.own_lt a3;have:=Nat.le_trans K0.size a3;clear a3;refine jG ?_;replace hb:=hb.ext a7;replace hR:=hR.ext a7;replace a1:=a1.ext a7;replace K0:=K0.ext a7;refine jF ?_ ?_
 ·intro hc8
  refine jG ?_;refine jV (Ar (cells:=#[.slice none 0 0,.slice none 0 0,.slice none 0 0]) Zk) ?_;refine jR<|jS a1 ?_;intro ap a1 a8;refine jG ?_;refine Al.drawS [9] [0,1,2,3,1004,5,1006,2007,8,2009] ?_;intro aq a4;replace hb:=(hb.kp a8).ext a4;replace a1:=a1.ext a4;refine jM (jb hb (jb a1 Jn)) ?_;refine jG ?_;refine jU rfl<|jC (DP nilV nilS _ nil_R.cart nil_ok) ?_;rintro _ ar ⟨a0,rfl,ab,ag,ac,a5⟩;replace a2:=(a2.kp a8).ext a4;have ah:=Ae ac a2.lt;replace K0:=(K0.n1 a8).ext a4;have ai:=Az K0.size ac;clear ac;replace hb:=hb.ext a5;replace a1:=a1.ext a5;refine jG ?_;refine jP ?_ (hx:=by exact fun _=>(Ar (cells:=#[.int .i64 M.id,.int .i64 stt,.slice a0.ea nilV.ent.length a0.ec,.slice a0.ma nilV.mrk.length a0.mc,.slice a0.ca nilV.cl.length a0.cc]) Zk));replace a2:=a2.ext a5;refine jU rfl<|jS a2 ?_;intro au a2 a9;refine jG ?_;refine Al.retC (cs:=#[.int .i64 M.id,.int .i64 stt,.slice a0.ea nilV.ent.length a0.ec,.slice a0.ma nilV.mrk.length a0.mc,.slice a0.ca nilV.cl.length a0.cc]) func56 rfl ty63 rfl rfl a2.cl ?_;replace hR:=(((hR.keepO a8 (Aa ae)).ext a4).ext a5).keepO a9 (Aa af);replace K0:=(K0.ext a5).n1 a9;replace hb:=hb.kp a9;replace ab:=ab.keepO a9 (Aa ah);exact⟨_,rfl,a0,rfl,ab,ag,ai,K0⟩
 ·intro hc8
  exact absurd hc8 hn
end Go.Proofs.YtocgdeefgohdhaaGreat
namespace Go.Proofs.YtocgdeefgohdhaaGreat
open Go.Proofs.Tryz
attribute [local irreducible] RD RS AD RL RA RT BH Al
def keptN :List MV→Nat
 |[]=>0
 |v::l=>(if v.n=0 then 1 else 0)+keptN l
def DR (l:List MV):Bool:=l.any fun v=>decide (v.n≠0)&&decide (v.n=7)
theorem Ha (l:List MV)(v:MV):keptN (l++[v])=keptN l+(if v.n=0 then 1 else 0):=by
 induction l with
 |nil=>simp[keptN]
 |cons x l ih=>rw[List.cons_append,keptN,keptN,ih];omega
theorem keptN_le :∀l:List MV,keptN l≤l.length
 |[]=>Nat.le_refl _
 |v::l=>by have:=keptN_le l;rw[keptN,List.length_cons];split<;>omega
theorem Iu {l:List MV}{i:Nat}{v:MV}(h:l[i]? =some v):keptN (l.take (i+1))=keptN (l.take i)+(if v.n=0 then 1 else 0):=by rw[BG h,Ha]
theorem Iv {l:List MV}{i:Nat}{v:MV}(h:l[i]? =some v):DR (l.take (i+1))=(DR (l.take i)||(decide (v.n≠0)&&decide (v.n=7))):=by
 unfold DR;rw[BG h,List.any_append];simp
theorem L0 (l:List MV):keptN (l.take 0)=0:=rfl
theorem L1 (l:List MV):DR (l.take 0)=false:=rfl
def Bg (Q:PM):Int:=
 if Q.need≤keptN Q.got then 200 else if Q.need≤(Q.targets.length:Int)-((Q.got.length:Int)-keptN Q.got)then 0 else if DR Q.got=true then 507 else 500
def Hs (Q:PM)(s:Int):Int:=if s=0 then 0 else Q.id
def AK (v:MV)(s:Int):MV:=if s=200 then v else nilV
theorem Fo {w:World}:BF w nilS nilV:=⟨Ag.nil _ _,Ag.nil _ _,Ag.nil _ _⟩
theorem nil_CA :CN nilS:=⟨fun _ h=>absurd h (Ad _),fun _ h=>absurd h (Ad _),fun _ h=>absurd h (Ad _)⟩
theorem nil_CS :∀q,¬Aw nilS q:=by rintro q (h|h|h)<;>exact Ad _ h
section
variable {Q :PM}
theorem Lc (h:Q.need≤keptN Q.got):Bg Q=200:=by rw[Bg,if_pos h]
theorem L2 (h:¬Q.need≤keptN Q.got)(h2:Q.need≤(Q.targets.length:Int)-((Q.got.length:Int)-keptN Q.got)):Bg Q=0:=by rw[Bg,if_neg h,if_pos h2]
theorem Ld (h:¬Q.need≤keptN Q.got)(h2:¬Q.need≤(Q.targets.length:Int)-((Q.got.length:Int)-keptN Q.got))(h3:DR Q.got=true):Bg Q=507:=by rw[Bg,if_neg h,if_neg h2,if_pos h3]
theorem Le (h:¬Q.need≤keptN Q.got)(h2:¬Q.need≤(Q.targets.length:Int)-((Q.got.length:Int)-keptN Q.got))(h3:DR Q.got=false):Bg Q=500:=by rw[Bg,if_neg h,if_neg h2,if_neg (by simp[h3])]
end
attribute [local irreducible] X
theorem HO (p:Option Addr)(v:MV)(s:A6)(w:World):
  Calls prog 152 #[.pointer p,.agg #[.int .i64 ((An v s).kind),.int .i64 ((An v s).frm),.int .i64 ((An v s).to),.int .i64 ((An v s).req),.string ((An v s).key),.slice s.ea v.ent.length s.ec,.slice s.ma v.mrk.length s.mc,.slice s.ca v.cl.length s.cc,.int .i64 ((An v s).owner),.int .i64 ((An v s).part),.int .i64 ((An v s).n),.int .i64 (((An v s).ring).parts),.int .i64 (((An v s).ring).copies),.int .i64 (((An v s).ring).spots),.slice s.ba v.mem.length s.bc,.slice s.pa v.pe.length s.pc,.slice s.sa v.su.length s.sc]] w (AU (fun r w'=>r= .bool (decide (v.kind=2))∧As w w')):=by
 refine Af (n:=8) func152 rfl rfl rfl ?_;refine jG ?_;refine jR<|jB ?_;intro a1 a3 a0 a4 a2;have:w.heap.size≤a1:=a0;clear a0;have K0:=(a2:As w _);refine jG ?_;refine jJ func152 ?_;exact⟨_,rfl,congrArg Value.bool Zq,K0⟩
theorem HP (p:Option Addr)(v:MV)(s:A6)(w:World):
  Calls prog 155 #[.pointer p,.agg #[.int .i64 ((An v s).kind),.int .i64 ((An v s).frm),.int .i64 ((An v s).to),.int .i64 ((An v s).req),.string ((An v s).key),.slice s.ea v.ent.length s.ec,.slice s.ma v.mrk.length s.mc,.slice s.ca v.cl.length s.cc,.int .i64 ((An v s).owner),.int .i64 ((An v s).part),.int .i64 ((An v s).n),.int .i64 (((An v s).ring).parts),.int .i64 (((An v s).ring).copies),.int .i64 (((An v s).ring).spots),.slice s.ba v.mem.length s.bc,.slice s.pa v.pe.length s.pc,.slice s.sa v.su.length s.sc]] w (AU (fun r w'=>r= .bool (decide (v.kind=4))∧As w w')):=by
 refine Af (n:=8) func155 rfl rfl rfl ?_;refine jG ?_;refine jR<|jB ?_;intro a1 a3 a0 a4 a2;have:w.heap.size≤a1:=a0;clear a0;have K0:=(a2:As w _);refine jG ?_;refine jJ func155 ?_;exact⟨_,rfl,congrArg Value.bool Zq,K0⟩
theorem L3 (p:Option Addr)(m:Nat)(w:World):
  Calls prog 151 #[.pointer p,jp m] w (AU (fun r w'=>r= .slice none 0 0∧As w w')):=by
 refine Af (n:=5) func151 rfl rfl rfl ?_;refine jG ?_;refine jJ func151 ?_;exact⟨_,rfl,rfl,(Ao.refl _ w)⟩
theorem QN (m:Nat)(M:Mq)(w:World)(hM:Cv w m M)(hok:Ds M)(hput:M.put=true):
  Calls prog 150 #[jp M.kb,jp m] w (AU (fun r w'=>∃s',r= .tuple #[.agg #[.int .i64 (Hs M.pv (Bg M.pv)),.int .i64 (Bg M.pv),.slice (((An (AK M.cart (Bg M.pv)) s').cart).entries.a) (((An (AK M.cart (Bg M.pv)) s').cart).entries.len) (((An (AK M.cart (Bg M.pv)) s').cart).entries.cap),.slice ((((An (AK M.cart (Bg M.pv)) s').cart).ctx).marks.a) ((((An (AK M.cart (Bg M.pv)) s').cart).ctx).marks.len) ((((An (AK M.cart (Bg M.pv)) s').cart).ctx).marks.cap),.slice ((((An (AK M.cart (Bg M.pv)) s').cart).ctx).cloud.a) ((((An (AK M.cart (Bg M.pv)) s').cart).ctx).cloud.len) ((((An (AK M.cart (Bg M.pv)) s').cart).ctx).cloud.cap)],.bool (decide ((Bg M.pv)≠0))]∧BF w' s' (AK M.cart (Bg M.pv))∧CN s'∧(∀q,Aw s' q→w.heap.size≤q)∧As w w')):=by
 have hM0:=hM;have hok0:=hok;obtain⟨hb,hkp,hkg,hgt,hr,hnk,hng,hnkg,hnr⟩:=hM;obtain⟨⟨hnd1,hnd2⟩,htc,htl,hgl,hsok,hcok,hgok,hfine,hbeg⟩:=hok;have hgm:(M.got.map Mg.c).length=M.got.length:=List.length_map ..;have hk:=hkp hput;have hgm2:(M.got.map Mg.v).length=M.got.length:=List.length_map ..;refine Af (n:=69) func150 rfl rfl rfl ?_;refine jG ?_;refine jR<|jA ?_;intro ae aC a5 a0 af;have aD:=Aj hb.lt a5;have aE:=Aj hk.lt a5;have:w.heap.size≤ae:=a5;clear a5;have K0:=(af:As w _);replace hb:=hb.ext af;refine jG ?_;replace hk:=hk.ext af;refine Al.loop (ι:=Nat) (fun i ρ' w'=>∃rf:Int,AG ρ' [(0,jp M.kb),(1,jp m),(4,jp ae),(6,.int .i64 ((keptN ((M.got.map Mg.v).take i):Nat):Int)),(7,.int .i64 rf),(8,.bool (DR ((M.got.map Mg.v).take i))),(14,.slice M.ga ((M.got.map Mg.c).length) M.gc),(15,.int .i64 (((M.got.map Mg.c).length:Nat):Int)),(16,.int .i64 ((i:Nat):Int))]∧As w w'∧(AI w' m [.int .i64 M.self,.int .i64 M.req,.int .i64 M.need,.int .i64 M.began,.int .i64 M.id,.int .i64 M.knd,.string M.key,.string M.item,.int .i64 M.qty,.int .u64 M.price,.slice M.ss.ea M.seen.ent.length M.ss.ec,.slice M.ss.ma M.seen.mrk.length M.ss.mc,.slice M.ss.ca M.seen.cl.length M.ss.cc,.slice M.ta M.targets.length M.tc,.slice M.ga ((M.got.map Mg.c).length) M.gc,.bool M.answered,.bool M.done,.bool M.made,.int .i64 M.status,.iface (kT M.put) (jp M.kb)] 99)∧(AI w' M.kb [.slice M.cs.ea M.cart.ent.length M.cs.ec,.slice M.cs.ma M.cart.mrk.length M.cs.mc,.slice M.cs.ca M.cart.cl.length M.cs.cc] 136)∧(AI w' ae [.int .i64 0,.int .i64 0,.slice none 0 0,.slice none 0 0,.slice none 0 0] 63)∧(i≤M.got.length)∧(rf=((i:Nat):Int)-((keptN ((M.got.map Mg.v).take i):Nat):Int))) (fun i=>M.got.length-i) 0 ?_ ?_
 ·rw[L0,L1]
  refine⟨0,⟨rfl,rfl,rfl,rfl,rfl,rfl,rfl,rfl,rfl,trivial⟩,K0,hb,hk,a0,?_,?_⟩
  ·omega
  ·rfl
 clear hb hk a0;clear K0;rintro i aF aG ⟨rf,an,K0,hb,hk,a0,hi,hrf⟩ ih1;obtain⟨ρ₀,rfl⟩:=an.ex;clear an;refine jG ?_;refine jF ?_ ?_
 ·intro hc17
  obtain⟨aH,aI,x,hx,aJ,a6⟩:=hgt.sl.eo i;have hc_14_lt:=a6.lt;replace a6:=a6.ext K0;refine jG ?_;refine jR<|jA ?_;intro aK aL a4 ao a7;have aM:=Aj hb.lt a4;have aN:=Aj hk.lt a4;have aO:=Aj a0.lt a4;have aP:=Aj a6.lt a4;have:=Nat.le_trans K0.size a4;clear a4;refine jR<|jS ao ?_;intro aQ ao a8;obtain⟨p,hp,hxe,hv⟩:=K7 hx;have hxn:x.n=p.v.n:=by rw[hxe]
  have hkl:=keptN_le ((M.got.map Mg.v).take i);have htl2:((M.got.map Mg.v).take i).length=i:=by rw[List.length_take];omega
  refine jG ?_;replace hb:=(hb.ext a7).kp a8;replace hk:=(hk.ext a7).kp a8;replace a0:=(a0.ext a7).kp a8;replace K0:=(K0.ext a7).n1 a8;refine jF ?_ ?_
  ·intro hc22
   refine jG ?_;refine jV (Ay (c:=(((keptN ((M.got.map Mg.v).take i))+1:Nat):Int)) (Aq rfl rfl Zo Zo) rfl) ?_;refine jG ?_;refine jV (Ay (c:=((i+1:Nat):Int)) (Aq rfl rfl Zo Zo) rfl) ?_;refine jG ?_;have e:=Iu hv;rw[if_pos Zo]at e;have e2:=Iv hv;rw[show decide (p.v.n≠0)=false from decide_eq_false Zo,Bool.false_and,Bool.or_false]at e2;refine ih1 (i+1) _ _ ?_ Zo;rw[e,e2];refine⟨rf,⟨rfl,rfl,rfl,rfl,rfl,rfl,rfl,rfl,rfl,trivial⟩,K0,hb,hk,a0,?_,?_⟩
   ·omega
   ·omega
  ·intro hc22
   refine jG ?_;refine jV (Aq rfl rfl Zo Zo) ?_;refine jG ?_;refine jV (Ba rfl rfl rfl) ?_;refine jG ?_;refine jV (Ay (c:=((i+1:Nat):Int)) (Aq rfl rfl Zo Zo) rfl) ?_;refine jG ?_;have e:=Iu hv;rw[if_neg Zo,Nat.add_zero]at e;have e2:=Iv hv;rw[show decide (p.v.n≠0)=true from decide_eq_true Zo,Bool.true_and,show decide (p.v.n=7)=(x.n==7)by rw[hxn,Bool.eq_iff_iff];simp]at e2;refine ih1 (i+1) _ _ ?_ Zo;rw[e,e2];refine⟨(rf+1),⟨rfl,rfl,rfl,rfl,rfl,rfl,rfl,rfl,rfl,trivial⟩,K0,hb,hk,a0,?_,?_⟩
   ·omega
   ·omega
 ·intro hc17
  refine jG ?_;refine jF ?_ ?_
  ·intro hc34
   refine jG ?_;refine jR<|jC (J3 m M M.cart M.cs _ (hM0.ext K0) hok0 (hr.cart.ext K0) hcok.ok) ?_;rintro _ aR ⟨a1,rfl,ag,ar,ah,a9⟩;have au:=Ae ah a0.lt;have av:=Az K0.size ah;clear ah;replace a0:=a0.ext a9;refine jR<|jS a0 ?_;intro aS a0 aa;refine jG ?_;refine Al.retCT (x:= .bool true) (cs:=#[.int .i64 M.id,.int .i64 200,.slice a1.ea M.cart.ent.length a1.ec,.slice a1.ma M.cart.mrk.length a1.mc,.slice a1.ca M.cart.cl.length a1.cc]) func150 rfl ty63 rfl rfl a0.cl rfl ?_;have hkt:(M.got.map Mg.v).take i=(M.got.map Mg.v):=List.take_of_length_le Zo;rw[hkt]at hrf hc34;rw[Lc (Q:=M.pv) hc34];replace hb:=(hb.ext a9).kp aa;replace hk:=(hk.ext a9).kp aa;replace K0:=(K0.ext a9).n1 aa;replace ag:=ag.keepO aa (Aa au);exact⟨_,rfl,a1,rfl,ag,ar,av,K0⟩
  ·intro hc34
   refine jG ?_;refine Al.drawR ?_;intro aT ab;replace hb:=hb.ext ab;refine jG ?_;refine jD (B6 rfl rfl Zo Zo) ?_;refine jG ?_;replace hk:=hk.ext ab;replace a0:=a0.ext ab;replace K0:=K0.ext ab;refine jF ?_ ?_
   ·intro hc47
    refine jG ?_;refine jV (Ar (cells:=#[.int .i64 0,.int .i64 0,.slice none 0 0,.slice none 0 0,.slice none 0 0]) Zk) ?_;refine jR<|jS a0 ?_;intro aU a0 ai;refine jG ?_;refine Al.retCT (x:= .bool false) (cs:=#[.int .i64 0,.int .i64 0,.slice none 0 0,.slice none 0 0,.slice none 0 0]) func150 rfl ty63 rfl rfl a0.cl rfl ?_;have hkt:(M.got.map Mg.v).take i=(M.got.map Mg.v):=List.take_of_length_le Zo;rw[hkt]at hrf hc34;rw[L2 (Q:=M.pv) Zp Zp];replace hb:=hb.kp ai;replace hk:=hk.kp ai;replace K0:=K0.n1 ai;exact⟨_,rfl,nilS,rfl,Fo,nil_CA,fun q h_=>absurd h_ (nil_CS q),K0⟩
   ·intro hc47
    refine jG ?_;refine Al.cond rfl (fun hc61=> ?_) (fun hc61=> ?_)
    ·skip
     refine jG ?_;refine jV (Ar (cells:=#[.slice none 0 0,.slice none 0 0,.slice none 0 0]) Zk) ?_;refine jR<|jC (Da m M 507 nilV nilS _ (hM0.ext K0) hok0 nil_R.cart Zd) ?_;rintro _ aV ⟨a2,rfl,aj,aw,ak,ac⟩;have ax:=Ae ak a0.lt;have ay:=Az K0.size ak;clear ak;replace a0:=a0.ext ac;refine jR<|jS a0 ?_;intro aW a0 ad;refine jG ?_;refine Al.retCT (x:= .bool true) (cs:=#[.int .i64 M.id,.int .i64 507,.slice a2.ea nilV.ent.length a2.ec,.slice a2.ma nilV.mrk.length a2.mc,.slice a2.ca nilV.cl.length a2.cc]) func150 rfl ty63 rfl rfl a0.cl rfl ?_;have hkt:(M.got.map Mg.v).take i=(M.got.map Mg.v):=List.take_of_length_le Zo;rw[hkt]at hrf hc34;rw[Ld (Q:=M.pv) Zp Zp (by rw[hkt]at hc61;exact hc61)];replace hb:=(hb.ext ac).kp ad;replace hk:=(hk.ext ac).kp ad;replace K0:=(K0.ext ac).n1 ad;replace aj:=aj.keepO ad (Aa ax);exact⟨_,rfl,a2,rfl,aj,aw,ay,K0⟩
    ·skip
     refine jG ?_;refine jV (Ar (cells:=#[.slice none 0 0,.slice none 0 0,.slice none 0 0]) Zk) ?_;refine jR<|jC (Da m M 500 nilV nilS _ (hM0.ext K0) hok0 nil_R.cart Zd) ?_;rintro _ aX ⟨a3,rfl,al,az,am,ap⟩;have aA:=Ae am a0.lt;have aB:=Az K0.size am;clear am;replace a0:=a0.ext ap;refine jR<|jS a0 ?_;intro aY a0 aq;refine jG ?_;refine Al.retCT (x:= .bool true) (cs:=#[.int .i64 M.id,.int .i64 500,.slice a3.ea nilV.ent.length a3.ec,.slice a3.ma nilV.mrk.length a3.mc,.slice a3.ca nilV.cl.length a3.cc]) func150 rfl ty63 rfl rfl a0.cl rfl ?_;have hkt:(M.got.map Mg.v).take i=(M.got.map Mg.v):=List.take_of_length_le Zo;rw[hkt]at hrf hc34;rw[Le (Q:=M.pv) Zp Zp (by rw[hkt]at hc61;exact hc61)];replace K0:=(K0.ext ap).n1 aq;replace al:=al.keepO aq (Aa aA);exact⟨_,rfl,a3,rfl,al,az,aB,K0⟩
end Go.Proofs.YtocgdeefgohdhaaGreat
namespace Go.Proofs.YtocgdeefgohdhaaGreat
open Go.Proofs.Tryz
attribute [local irreducible] RD RS AD RL RA RT BH Al
def N8 (n:Int):Prop:=0≤n∧n<8
instance (n :Int):Decidable (N8 n):=by unfold N8;infer_instance
def Eu (l:List Au)(i:Nat):Prop:=∀j t,j<i→l[j]? =some t→N8 t.node∧∀x∈l.take j,x.node≠t.node
def C1 (self req need began:Int):Prop:=¬N8 self∨req<1∨1099511627776<req∨need<1∨5<need∨began<0∨1099511627776<began
instance (a b c d:Int):Decidable (C1 a b c d):=by unfold C1;infer_instance
open Classical in
noncomputable def CA (self req need began:Int)(l:List Au)(e:Int):Int:=
 if C1 self req need began then 1 else if ¬Eu l l.length then 1 else if e≠0 then e else if (l.length:Int)<need then 7 else 0
section
variable {self req need began e:Int}{l:List Au}{i:Nat}{t:Au}
theorem Js (l:List Au):Eu l 0:=fun j _ h=>absurd h (Nat.not_lt_zero j)
theorem Jt (h:Eu l i)(ht:l[i]? =some t)(h1:N8 t.node)(h2:∀x∈l.take i,x.node≠t.node):Eu l (i+1):=fun j u hj hu=>by
 by_cases c:j=i
 ·subst c;rw[ht]at hu;cases hu;exact⟨h1,h2⟩
 ·exact h j u Zo hu
theorem M7 (ht:l[i]? =some t)(h:¬(N8 t.node∧∀x∈l.take i,x.node≠t.node)):¬Eu l l.length:=fun h2=>h (h2 i t (List.getElem?_eq_some_iff.1 ht).1 ht)
theorem L4 (h:C1 self req need began):CA self req need began l e=1:=by rw[CA,if_pos h]
theorem L5 (h:¬C1 self req need began)(h2:¬Eu l l.length):CA self req need began l e=1:=by rw[CA,if_neg h,if_pos h2]
theorem J4 (h:¬C1 self req need began)(h2:Eu l l.length)(h3:e≠0):CA self req need began l e=e:=by rw[CA,if_neg h,if_neg (not_not_intro h2),if_pos h3]
theorem J5 (h:¬C1 self req need began)(h2:Eu l l.length)(h3:e=0)(h4:(l.length:Int)<need):CA self req need began l e=7:=by rw[CA,if_neg h,if_neg (not_not_intro h2),if_neg (not_not_intro h3),if_pos h4]
theorem J6 (h:¬C1 self req need began)(h2:Eu l l.length)(h3:e=0)(h4:¬(l.length:Int)<need):CA self req need began l e=0:=by rw[CA,if_neg h,if_neg (not_not_intro h2),if_neg (not_not_intro h3),if_neg h4]
theorem EY (h:CA self req need began l e=0):¬C1 self req need began∧Eu l l.length∧e=0∧¬(l.length:Int)<need:=by
 by_cases h1:C1 self req need began
 ·rw[L4 h1]at h;omega
 by_cases h2:Eu l l.length
 ·by_cases h3:e=0
  ·by_cases h4:(l.length:Int)<need
   ·rw[J5 h1 h2 h3 h4]at h;omega
   ·exact⟨h1,h2,h3,h4⟩
  ·rw[J4 h1 h2 h3]at h;exact absurd h h3
 ·rw[L5 h1 h2]at h;omega
end
def Th (M:Mq):Nat→Prop:=fun q=>M.targets≠ []∧own M.ta q
structure Qd (w:World)(M:Mq):Prop where
 sl:At w M.ta M.targets
section
variable {w w':World}{S:Nat→Prop}{M:Mq}
theorem Qd.own_lt (h:Qd w M):∀q,Th M q→q<w.heap.size:=fun _ ⟨h1,h2⟩=>Fv h.sl h1 h2
theorem Qd.keepO (h:Qd w M)(k:Ao S w w')(hn:∀q,Th M q→¬S q):Qd w' M:=⟨h.sl.keepN k fun x hx he=>hn x.block ⟨he,x,hx,rfl⟩⟩
theorem Qd.ext (h:Qd w M)(k:As w w'):Qd w' M:=⟨h.sl.ext k⟩
end
attribute [local irreducible] X
theorem Rk (n:Int)(w:World):
  Calls prog 84 #[.int .i64 n] w (AU (fun v w'=>v= .bool (decide (N8 n))∧As w w')):=by
 refine Af (n:=9) func84 rfl rfl rfl ?_;refine jG ?_;refine jV (AN rfl rfl rfl) ?_;refine jG ?_;refine jJ func84 ?_;exact⟨_,rfl,congrArg Value.bool (by rw[Bool.eq_iff_iff];simp only[Bool.and_eq_true,decide_eq_true_eq];exact Iff.rfl),(Ao.refl _ w)⟩
theorem SP (x t:Au)(b:Nat)(w:World)(hx:AI w b [.int .i64 t.node,.int .i64 t.owner] 53):
  Calls prog 85 #[.agg #[.int .i64 ((x).node),.int .i64 ((x).owner)],jp b] w (AU (fun v w'=>v= .bool (decide (x.node=t.node))∧As w w')):=by
 refine Af (n:=9) func85 rfl rfl rfl ?_;refine jG ?_;refine jR<|jB ?_;intro a2 a3 a0 a4 a1;have a5:=Aj hx.lt a0;have:w.heap.size≤a2:=a0;clear a0;have K0:=(a1:As w _);replace hx:=hx.ext a1;refine jG ?_;refine jJ func85 ?_;exact⟨_,rfl,congrArg Value.bool Zq,K0⟩
theorem L6 (m:Nat)(M:Mq)(e E:Int)(w:World)(hE:CA M.self M.req M.need M.began M.targets e=E)(hb:AI w m M.cells 99)(htg:Qd w M)(hse:AE w M.ss M.seen)(hsok:AV M.seen M.ss)(htc:M.targets.length≤M.tc)(hd:¬Th M m)(hds:¬AP M.ss M.seen m)(hl:M.targets.length≤4294967295):
  Calls prog 66 #[jp m,.int .i64 e] w (AU (fun v w'=>v= .int .i64 E∧((E≠0∧Ao (one m) w w')∨(E=0∧∃s',AI w' m ({M with made:=true,ss:=s'}:Mq).cells 99∧BF w' s' M.seen∧CN s'∧(∀q,Aw s' q→w.heap.size≤q)∧Ao (one m) w w')))):=by
 have hnew:=0;refine Af (n:=111) func66 rfl rfl rfl ?_;refine jG ?_;refine jR<|AD.callV (vals:=[.int .i64 M.self]) en84.h rfl rfl (Rk M.self _) ?_;rintro _ am ⟨rfl,a3⟩;have K0:=(a3:As w _).to (S:=(one m));replace hb:=hb.ext a3;refine jG ?_;refine jV (Ba rfl rfl rfl) ?_;refine jG ?_;refine jV (Ba rfl rfl rfl) ?_;refine jG ?_;refine jV (Ba rfl rfl rfl) ?_;refine jG ?_;refine jV (Ba rfl rfl rfl) ?_;refine jG ?_;refine jV (Ba rfl rfl rfl) ?_;refine jG ?_;refine jV (Ba rfl rfl rfl) ?_;refine jG ?_;replace htg:=htg.ext a3;replace hse:=hse.ext a3;refine jF ?_ ?_
 ·intro hc56
  refine jG ?_;refine jJ func66 ?_;rw[←hE,L4 (by unfold C1;unfold N8 at hc56⊢;omega)];exact⟨_,rfl,rfl,.inl ⟨by decide,K0⟩⟩
 ·intro hc56
  have hnb:¬C1 M.self M.req M.need M.began:=by unfold C1;unfold N8 at hc56⊢;omega
  refine jG ?_;refine Al.loop (ι:=Nat) (fun i ρ' w'=>AG ρ' [(0,jp m),(1,.int .i64 e),(5,.func (.func 84) #[] #[]),(60,.slice M.ta M.targets.length M.tc),(61,.int .i64 ((M.targets.length:Nat):Int)),(62,.int .i64 ((i:Nat):Int))]∧Ao (one m) w w'∧(AI w' m [.int .i64 M.self,.int .i64 M.req,.int .i64 M.need,.int .i64 M.began,.int .i64 M.id,.int .i64 M.knd,.string M.key,.string M.item,.int .i64 M.qty,.int .u64 M.price,.slice M.ss.ea M.seen.ent.length M.ss.ec,.slice M.ss.ma M.seen.mrk.length M.ss.mc,.slice M.ss.ca M.seen.cl.length M.ss.cc,.slice M.ta M.targets.length M.tc,.slice M.ga ((M.got.map Mg.c).length) M.gc,.bool M.answered,.bool M.done,.bool M.made,.int .i64 M.status,.iface (kT M.put) (jp M.kb)] 99)∧(Qd w' M)∧(AE w' M.ss M.seen)∧(i≤M.targets.length)∧(Eu M.targets i)) (fun i=>M.targets.length-i) 0 ?_ ?_
  ·refine⟨⟨rfl,rfl,rfl,rfl,rfl,rfl,trivial⟩,K0,hb,htg,hse,?_,?_⟩
   ·omega
   ·exact Js _
  clear hb htg hse;clear K0;rintro i an ao ⟨ab,K0,hb,htg,hse,hi,hto⟩ ih1;obtain⟨ρ₀,rfl⟩:=ab.ex;clear ab;refine jG ?_;refine jF ?_ ?_
  ·intro hc63
   obtain⟨ap,aq,t,ht,ar,af⟩:=htg.sl.eo i;refine jG ?_;refine jR<|jA ?_;intro a8 au a0 a1 a4;have av:=Aj hb.lt a0;have aw:=Aj af.lt a0;have ag:=Ak htg.own_lt a0;have ah:=Ak hse.own_lt a0;have:=Nat.le_trans K0.size a0;clear a0;refine jG ?_;refine jR<|jS a1 ?_;intro ax a1 a5;replace K0:=K0.ext a4;replace K0:=K0.n1 a5;have htl:(M.targets.take i).length=i:=by rw[List.length_take];omega
   refine jG ?_;refine jR<|AD.callV (vals:=[.int .i64 ((t).node)]) en84.h rfl rfl (Rk ((t).node) _) ?_;rintro _ ay ⟨rfl,a2⟩;replace hb:=((hb.ext a4).kp a5).ext a2;refine jG ?_;refine jW ?_ (hx:=by exact fun hg=>(EN (m':=(M.targets.take i).length) (BL underlying32 ty53 (Bh hg) (Bh hg) Zo) Zt));refine jW ?_ (hx:=by exact fun hg=>(EM (a:=[]) (c:=[jp a8]) rfl rfl));replace htg:=((htg.ext a4).keepO a5 (Aa ag)).ext a2;replace a1:=a1.ext a2;refine RL.gcall (vals:=[.slice M.ta ((M.targets.take i).length) M.tc,.func (.func 85) #[] #[jp a8]]) (Bw rfl rfl rfl rfl) en8.h (fun hg=>(Bm (Bh hg) (Bm (Bh hg) Di))) (fun hg=>(FB _ _ _ 85 _ (fun x=>decide (x.node=t.node)) en85.h _ (htg.sl.take i) Zo (fun x _ w' K'=>SP x t a8 w' (a1.ext K')))) ?_;intro az a6;refine jV (Ba rfl rfl rfl) ?_;refine jG ?_;replace hse:=(((hse.ext a4).keepO a5 (Aa ah)).ext a2).ext a6;replace K0:=(K0.ext a2).ext a6;replace hb:=hb.ext a6;replace htg:=htg.ext a6;refine jF ?_ ?_
   ·intro hc81
    refine jG ?_;refine jJ func66 ?_;rw[←hE,L5 hnb (M7 ht (fun h_=>hc81.elim (fun h2=>h2 h_.1) (fun h2=>by obtain⟨y,hy,he⟩:=List.any_eq_true.1 h2;exact h_.2 y hy (of_decide_eq_true he))))];exact⟨_,rfl,rfl,.inl ⟨by decide,K0⟩⟩
   ·intro hc81
    refine jG ?_;refine jV (Ay (c:=((i+1:Nat):Int)) (Aq rfl rfl Zo Zo) rfl) ?_;refine jG ?_;refine ih1 (i+1) _ _ ?_ Zo;refine⟨⟨rfl,rfl,rfl,rfl,rfl,rfl,trivial⟩,K0,hb,htg,hse,?_,?_⟩
    ·omega
    ·exact Jt hto ht hc81.1 (fun x hx e_=>by have h_:=hc81.2;rw[List.any_eq_false]at h_;exact h_ x hx (decide_eq_true e_))
  ·intro hc63
   have hto0:Eu M.targets M.targets.length:=by rw[←(show i=M.targets.length by omega)];exact hto
   refine jG ?_;refine jF ?_ ?_
   ·intro hc83
    refine jG ?_;refine jJ func66 ?_;rw[←hE,J4 hnb hto0 hc83];exact⟨_,rfl,rfl,.inl ⟨by exact hc83,K0⟩⟩
   ·intro hc83
    refine jG ?_;refine Al.drawR ?_;intro aA a7;replace hb:=hb.ext a7;refine jG ?_;replace htg:=htg.ext a7;replace hse:=hse.ext a7;replace K0:=K0.ext a7;refine jF ?_ ?_
    ·intro hc87
     refine jG ?_;refine jJ func66 ?_;rw[←hE,J5 hnb hto0 hc83 Zo];exact⟨_,rfl,rfl,.inl ⟨by decide,K0⟩⟩
    ·intro hc87
     refine jG ?_;refine jR<|jS hb ?_;intro aB hb ac;replace K0:=K0.tf ac rfl;refine jG ?_;replace hse:=hse.keepO ac (Aa hds);refine jR<|jC (DP M.seen M.ss _ hse hsok.ok) ?_;rintro _ aC ⟨ai,rfl,a9,aj,aa,ad⟩;have ak:=Ae aa hb.lt;have al:=Az K0.size aa;clear aa;refine jG ?_;replace hb:=hb.ext ad;refine jR<|jS hb ?_;intro aD hb ae;replace K0:=K0.ext ad;replace K0:=K0.tf ae rfl;refine jG ?_;refine jJ func66 ?_;rw[←hE,J6 hnb hto0 hc83 Zo];replace a9:=a9.keepO ae (Aa ak);exact⟨_,rfl,rfl,.inr ⟨rfl,ai,hb,a9,aj,fun q_ h_=>al q_ h_,K0⟩⟩
end Go.Proofs.YtocgdeefgohdhaaGreat
