/-
  Qh
-/
import Derived.Test.YtocgdeefgohdhaaGreatRows
import Derived.Test.YtocgdeefgohdhaaGreatPkQg
import Derived.Test.YtocgdeefgohdhaaGreatPkMake
import Derived.Test.YtocgdeefgohdhaaGreatPkFrame
import Derived.Test.YtocgdeefgohdhaaGreatPkI
set_option linter.all false
set_option maxRecDepth 100000
set_option maxHeartbeats 4000000
namespace Go.Proofs.YtocgdeefgohdhaaGreat
attribute [local irreducible] RD RS St1 RL RA RT RT1 Run
structure Rq where
 self:Int
 req:Int
 need:Int
 begun:Int
 put:Bool
 id:Int
 knd:Int
 key:ByteArray
 item:ByteArray
 qty:Int
 price:Int
 seen:MV
 ss:Six
 cart:MV
 cs:Six
 la:Option Addr
 lc:Nat
 l:List TargetC
 aa:Option Addr
 ac:Nat
 ans:List Bool
 ha:Option Addr
 hc:Nat
 there:List Bool
 ca:Option Addr
 cc:Nat
 carts:List Mg
 oa:Option Addr
 oc:Nat
 order:List Int
 kept:Int
 refused:Int
 full:Bool
 told:Bool
 ok:Bool
 done:Bool
structure RM where
 self:Int
 req:Int
 need:Int
 begun:Int
 put:Bool
 id:Int
 key:ByteArray
 seen:MV
 cart:MV
 l:List TargetC
 ans:List Bool
 there:List Bool
 carts:List MV
 order:List Int
 kept:Int
 refused:Int
 full:Bool
 told:Bool
 ok:Bool
 done:Bool
def Mg.k (m:Mg):CartC:=(mkC m.v m.s).cart
abbrev Rq.pv (R:Rq):RM:=⟨R.self,R.req,R.need,R.begun,R.put,R.id,R.key,R.seen,R.cart,R.l,R.ans,R.there,R.carts.map Mg.v,R.order,R.kept,R.refused,R.full,R.told,R.ok,R.done⟩
abbrev Rq.cells (R:Rq):List Value:=[.int .i64 (R.self),.int .i64 (R.req),.int .i64 (R.need),.int .i64 (R.begun),.bool (R.put),.int .i64 (R.id),.int .i64 (R.knd),.string (R.key),.string (R.item),.int .i64 (R.qty),.int .u64 (R.price),.slice (R.ss.ea) (R.seen.ent.length) (R.ss.ec),.slice (R.ss.ma) (R.seen.mrk.length) (R.ss.mc),.slice (R.ss.ca) (R.seen.cl.length) (R.ss.cc),.slice (R.cs.ea) (R.cart.ent.length) (R.cs.ec),.slice (R.cs.ma) (R.cart.mrk.length) (R.cs.mc),.slice (R.cs.ca) (R.cart.cl.length) (R.cs.cc),.slice (R.la) (R.l.length) (R.lc),.slice (R.aa) (R.ans.length) (R.ac),.slice (R.ha) (R.there.length) (R.hc),.slice (R.ca) ((R.carts.map Mg.k).length) (R.cc),.slice (R.oa) (R.order.length) (R.oc),.int .i64 (R.kept),.int .i64 (R.refused),.bool (R.full),.bool (R.told),.bool (R.ok),.bool (R.done)]
structure RIn (w:World)(R:Rq):Prop where
 tg:SlOf w R.la R.l
 seen:CartR w R.ss R.seen
 cart:CartR w R.cs R.cart
 carts:∀m∈R.carts,CartR w m.s m.v
 tc:R.l.length≤R.lc
 sok:CartOk R.seen R.ss
 cok:CartOk R.cart R.cs
 csok:∀m∈R.carts,CartOk m.v m.s
def refS (x:Nat)(R:Rq):Nat→Prop:=fun q=>q=x∨(own R.aa q∨(own R.ha q∨(own R.ca q∨own R.oa q)))
structure RqAt (w:World)(x:Nat)(R:Rq):Prop where
 blk:Blk w x R.cells 118
 ans:OwnSl w 4 R.aa R.ac R.ans
 there:OwnSl w 4 R.ha R.hc R.there
 carts:OwnSl w 29 R.ca R.cc (R.carts.map Mg.k)
 order:OwnSl w 3 R.oa R.oc R.order
 na:¬own R.aa x
 nh:¬own R.ha x
 nc:¬own R.ca x
 no:¬own R.oa x
 ah:∀q,own R.aa q→¬own R.ha q
 ac:∀q,own R.aa q→¬own R.ca q
 ao:∀q,own R.aa q→¬own R.oa q
 hc:∀q,own R.ha q→¬own R.ca q
 ho:∀q,own R.ha q→¬own R.oa q
 co:∀q,own R.ca q→¬own R.oa q
structure RqOk (R:Rq):Prop where
 need:1≤R.need∧R.need≤5
 ll:R.l.length≤1048576
 al:R.ans.length=R.l.length
 hl:R.there.length=R.l.length
 cl:R.carts.length=R.l.length
 ol:R.order.length≤R.l.length
 oi:∀i∈R.order,0≤i∧i<R.l.length
 kr:0≤R.kept∧0≤R.refused∧R.kept+R.refused≤R.l.length
 began:0≤R.begun∧R.begun≤1099511627776
section
variable {w w':World}{S:Nat→Prop}{x:Nat}{R:Rq}
theorem RIn.ext (h:RIn w R)(k:Ext w w'):RIn w' R:=⟨h.tg.ext k,h.seen.ext k,h.cart.ext k,fun m hm=>(h.carts m hm).ext k,h.tc,h.sok,h.cok,h.csok⟩
theorem RqAt.own_lt (h:RqAt w x R):∀q,refS x R q→q<w.heap.size:=by
 rintro q (rfl|hq|hq|hq|hq)
 ·exact h.blk.lt
 ·exact h.ans.own_lt q hq
 ·exact h.there.own_lt q hq
 ·exact h.carts.own_lt q hq
 ·exact h.order.own_lt q hq
theorem RqAt.keepO (h:RqAt w x R)(k:Keeps S w w')(hn:∀q,refS x R q→¬S q):RqAt w' x R:=
 ⟨h.blk.keep k (hn _ (.inl rfl)),h.ans.keepO k fun q hq=>hn q (.inr (.inl hq)),h.there.keepO k fun q hq=>hn q (.inr (.inr (.inl hq))),h.carts.keepO k fun q hq=>hn q (.inr (.inr (.inr (.inl hq)))),h.order.keepO k fun q hq=>hn q (.inr (.inr (.inr (.inr hq)))),h.na,h.nh,h.nc,h.no,h.ah,h.ac,h.ao,h.hc,h.ho,h.co⟩
theorem RqAt.ext (h:RqAt w x R)(k:Ext w w'):RqAt w' x R:=h.keepO k fun _ _=>id
end
def RefAt (w0 w:World)(x:Nat)(F:Nat→Prop)(Q:RM):Prop:=∃R:Rq,F=refS x R∧Q=R.pv∧RqAt w x R∧RqOk R∧RIn w0 R
section
variable {w0 w w':World}{S F:Nat→Prop}{x:Nat}{Q:RM}
theorem RefAt.own_lt (h:RefAt w0 w x F Q):∀q,F q→q<w.heap.size:=by obtain⟨R,rfl,rfl,h,-⟩:=h;exact h.own_lt
theorem RefAt.keepO (h:RefAt w0 w x F Q)(k:Keeps S w w')(hn:∀q,F q→¬S q):RefAt w0 w' x F Q:=by obtain⟨R,rfl,rfl,h,ho⟩:=h;exact⟨R,rfl,rfl,h.keepO k hn,ho⟩
theorem RefAt.ext (h:RefAt w0 w x F Q)(k:Ext w w'):RefAt w0 w' x F Q:=h.keepO k fun _ _ h=>h
end
open Classical in
noncomputable def beg1 (self req need began:Int)(l:List TargetC):Int:=if begA self req need began∨¬tgOk l l.length then 1 else 0
theorem beg1_a {self req need began:Int}{l:List TargetC}(h:begA self req need began):beg1 self req need began l=1:=by rw[beg1,if_pos (.inl h)]
theorem beg1_t {self req need began:Int}{l:List TargetC}(h2:¬tgOk l l.length):beg1 self req need began l=1:=by rw[beg1,if_pos (.inr h2)]
theorem beg1_ok {self req need began:Int}{l:List TargetC}(h:¬begA self req need began)(h2:tgOk l l.length):beg1 self req need began l=0:=by rw[beg1,if_neg (fun h3=>h3.elim h (fun h4=>h4 h2))]
attribute [local irreducible] X
theorem rnode_ (n:Int)(w:World):
  Calls Tryz.prog 89 #[.int .i64 (n)] w (Ret (fun v w'=>v= .bool (decide (okN n))∧Ext w w')):=by
 refine calls_run (n:=9) Tryz.func89 rfl rfl rfl ?_;refine jG ?_;refine jV (x_and rfl rfl rfl) ?_;refine jG ?_;refine jJ Tryz.func89 ?_;exact⟨_,rfl,congrArg Value.bool (by rw[Bool.eq_iff_iff];simp only[Bool.and_eq_true,decide_eq_true_eq];exact Iff.rfl),(Keeps.refl _ w)⟩
theorem used_ (a:Option Addr)(xs:List TargetC)(c:Nat)(n:Int)(w:World)(hs:SlOf w a xs)(hl:xs.length≤4294967295):
  Calls Tryz.prog 90 #[.slice (a) (xs.length) (c),.int .i64 (n)] w (Ret (fun v w'=>v= .bool (xs.any fun t=>decide (t.node=n))∧Ext w w')):=by
 refine calls_run (n:=18) Tryz.func90 rfl rfl rfl ?_;refine jG ?_;refine Run.loop (ι:=Nat) (fun i ρ' w'=>Holds ρ' [(1,.int .i64 (n)),(7,.slice (a) (xs.length) (c)),(8,.int .i64 (((xs.length:Nat):Int))),(9,.int .i64 (((i:Nat):Int)))]∧Ext w w'∧(i≤xs.length)∧(NoB (fun t=>decide (t.node=n)) xs i)) (fun i=>xs.length-i) 0 ?_ ?_
 ·refine⟨⟨rfl,rfl,rfl,rfl,trivial⟩,(Keeps.refl _ w),?_,?_⟩
  ·omega
  ·exact NoB.zero _ _
 rintro i a6 a7 ⟨a2,K0,hi,hno⟩ ih1;obtain⟨ρ₀,rfl⟩:=a2.ex;clear a2;refine jG ?_;refine jF ?_ ?_
 ·intro hc10
  obtain⟨a8,a9,t,hx,aa,a0⟩:=hs.eo i;have hc_7_lt:=a0.lt;replace a0:=a0.ext K0;refine jG ?_;refine jR<|jA ?_;intro ab ac a1 a3 a4;have ad:=ltLe a0.lt a1;have:=Nat.le_trans K0.size a1;clear a1;refine jR<|jS a3 ?_;intro ae a3 a5;refine jG ?_;replace K0:=(K0.ext a4).n1 a5;refine jF ?_ ?_
  ·intro hc16
   refine jG ?_;refine jJ Tryz.func90 ?_;exact⟨_,rfl,by rw[any_at hx (decide_eq_true hc16)],K0⟩
  ·intro hc16
   refine jG ?_;refine jV (litI (c:=((i+1:Nat):Int)) (x_add rfl rfl (by omega) (by omega)) rfl) ?_;refine jG ?_;refine ih1 (i+1) _ _ ?_ (by omega);refine⟨⟨rfl,rfl,rfl,rfl,trivial⟩,K0,?_,?_⟩
   ·omega
   ·exact hno.step hx (decide_eq_false hc16)
 ·intro hc10
  refine jG ?_;refine jJ Tryz.func90 ?_;exact⟨_,rfl,by rw[any_no hno (by omega)],K0⟩
theorem rbegin_ (self req nd now:Int)(id knd qty price:Int)(key item:ByteArray)(va:MV)(sa:Six)(al:Option Addr)(ts:List TargetC)(lc:Nat)(E:Int)(w:World)(hE:beg1 self req nd now ts=E)(hA:CartR w sa va)(hl:SlOf w al ts)(hll:ts.length≤1048576)(hlc:ts.length≤lc):
  Calls Tryz.prog 69 #[.int .i64 (self),.int .i64 (req),.agg #[.int .i64 (id),.int .i64 (knd),.string (key),.string (item),.int .i64 (qty),.int .u64 (price),.slice (sa.ea) (va.ent.length) (sa.ec),.slice (sa.ma) (va.mrk.length) (sa.mc),.slice (sa.ca) (va.cl.length) (sa.cc)],.slice (al) (ts.length) (lc),.int .i64 (nd),.int .i64 (now)] w (Ret (fun r w'=>(E≠0∧r= .tuple #[.pointer none,.int .i64 E]∧Ext w w')∨(E=0∧∃x b1 b2 b3,r= .tuple #[jp x,.int .i64 0]∧Blk w' x [.int .i64 (self),.int .i64 (req),.int .i64 (nd),.int .i64 (now),.bool (false),.int .i64 (id),.int .i64 (knd),.string (key),.string (item),.int .i64 (qty),.int .u64 (price),.slice (sa.ea) (va.ent.length) (sa.ec),.slice (sa.ma) (va.mrk.length) (sa.mc),.slice (sa.ca) (va.cl.length) (sa.cc),.slice (none) (0) (0),.slice (none) (0) (0),.slice (none) (0) (0),.slice (al) (ts.length) (lc),.slice ((some ⟨b1,0,none⟩:Option Addr)) (ts.length) (ts.length),.slice ((some ⟨b2,0,none⟩:Option Addr)) (ts.length) (ts.length),.slice ((some ⟨b3,0,none⟩:Option Addr)) (ts.length) (ts.length),.slice (none) (0) (0),.int .i64 (0),.int .i64 (0),.bool (false),.bool (false),.bool (false),.bool (false)] 118∧OwnSl w' 4 (some ⟨b1,0,none⟩:Option Addr) ts.length (List.replicate ts.length false)∧OwnSl w' 4 (some ⟨b2,0,none⟩:Option Addr) ts.length (List.replicate ts.length false)∧OwnSl w' 29 (some ⟨b3,0,none⟩:Option Addr) ts.length (List.replicate ts.length (Mg.k ⟨nilV,nilS⟩))∧¬own (some ⟨b1,0,none⟩:Option Addr) x∧¬own (some ⟨b2,0,none⟩:Option Addr) x∧¬own (some ⟨b3,0,none⟩:Option Addr) x∧(∀q,own (some ⟨b1,0,none⟩:Option Addr) q→¬own (some ⟨b2,0,none⟩:Option Addr) q)∧(∀q,own (some ⟨b1,0,none⟩:Option Addr) q→¬own (some ⟨b3,0,none⟩:Option Addr) q)∧(∀q,own (some ⟨b2,0,none⟩:Option Addr) q→¬own (some ⟨b3,0,none⟩:Option Addr) q)∧(∀q,own (some ⟨b1,0,none⟩:Option Addr) q→w.heap.size≤q)∧(∀q,own (some ⟨b2,0,none⟩:Option Addr) q→w.heap.size≤q)∧(∀q,own (some ⟨b3,0,none⟩:Option Addr) q→w.heap.size≤q)∧w.heap.size≤x∧Ext w w'))):=by
 refine calls_run (n:=80) Tryz.func69 rfl rfl rfl ?_;refine jG ?_;refine jR<|jB ?_;intro aw cF be a0 bg;have:w.heap.size≤aw:=be;clear be;have K0:=(bg:Ext w _);refine jG ?_;refine jR<|jC (rnode_ self _) ?_;rintro _ cG ⟨rfl,aW⟩;refine jG ?_;refine jV (x_or rfl rfl rfl) ?_;refine jG ?_;refine jV (x_or rfl rfl rfl) ?_;refine jG ?_;refine jV (x_or rfl rfl rfl) ?_;refine jG ?_;refine jV (x_or rfl rfl rfl) ?_;refine jG ?_;refine jV (x_or rfl rfl rfl) ?_;refine jG ?_;refine jV (x_or rfl rfl rfl) ?_;refine jG ?_;replace hA:=(hA.ext bg).ext aW;replace a0:=a0.ext aW;replace K0:=K0.ext aW;refine jF ?_ ?_
 ·intro hc43
  refine jG ?_;refine jK Tryz.func69 ?_;rw[←hE,beg1_a (by unfold begA;unfold okN at hc43⊢;omega)];exact⟨_,rfl,.inl ⟨by decide,rfl,K0⟩⟩
 ·intro hc43
  have hnb:¬begA self req nd now:=by unfold begA;unfold okN at hc43⊢;omega
  refine jG ?_;refine Run.loop (ι:=Nat) (fun i ρ' w'=>Holds ρ' [(0,.int .i64 (self)),(1,.int .i64 (req)),(3,.slice (al) (ts.length) (lc)),(4,.int .i64 (nd)),(5,.int .i64 (now)),(8,jp aw),(44,.slice (al) (ts.length) (lc)),(45,.int .i64 (((ts.length:Nat):Int))),(46,.int .i64 (((i:Nat):Int)))]∧Ext w w'∧(Blk w' aw [.int .i64 (id),.int .i64 (knd),.string (key),.string (item),.int .i64 (qty),.int .u64 (price),.slice (sa.ea) (va.ent.length) (sa.ec),.slice (sa.ma) (va.mrk.length) (sa.mc),.slice (sa.ca) (va.cl.length) (sa.cc)] 31)∧(CartR w' sa va)∧(i≤ts.length)∧(tgOk ts i)) (fun i=>ts.length-i) 0 ?_ ?_
  ·refine⟨⟨rfl,rfl,rfl,rfl,rfl,rfl,rfl,rfl,rfl,trivial⟩,K0,a0,hA,?_,?_⟩
   ·omega
   ·exact tgOk_zero _
  clear hA a0;clear K0;rintro i cH cI ⟨bh,K0,a0,hA,hi,hto⟩ ih1;obtain⟨ρ₀,rfl⟩:=bh.ex;clear bh;refine jG ?_;refine jF ?_ ?_
  ·intro hc47
   obtain⟨cJ,cK,t,ht,cL,ax⟩:=hl.eo i;have hc_15_lt:=ax.lt;replace ax:=ax.ext K0;refine jG ?_;refine jR<|jA ?_;intro cM cN an a4 aX;have cO:=ltLe a0.lt an;have cP:=ltLe ax.lt an;have bC:=ltNo hA.own_lt an;have:=Nat.le_trans K0.size an;clear an;refine jG ?_;refine jR<|jS a4 ?_;intro cQ a4 aY;have htl:(ts.take i).length=i:=by rw[List.length_take];omega
   refine jG ?_;refine Run.drawS [] [0,1001,2002,3,4,5,6,7,8,1009,2010,11] ?_;intro cR ay;replace a4:=a4.ext ay;refine jM (jb a4 Jn) ?_;refine jG ?_;refine jU rfl<|jC (rnode_ ((t).node) _) ?_;rintro _ cS ⟨rfl,az⟩;replace a4:=a4.ext az;refine jG ?_;refine jQ ?_ (hx:=by exact fun _ hg=>(litSl (m':=(ts.take i).length) (x_sliceTo Tryz.underlying32 ty53 (gvr hg) (gvr hg) (by omega)) (by rw[List.length_take];omega)));refine jG ?_;replace K0:=(((K0.ext aX).n1 aY).ext ay).ext az;refine jZ (fun hg=>(used_ _ (ts.take i) _ ((t).node) _ ((hl.ext K0).take i) (by omega))) ?_;intro cT aA;replace a4:=a4.ext aA;refine jG ?_;refine jP ?_ (hx:=by exact fun _=>(x_or rfl rfl rfl));refine jG ?_;replace a0:=((((a0.ext aX).kp aY).ext ay).ext az).ext aA;replace hA:=((((hA.ext aX).keepO aY (noOne bC)).ext ay).ext az).ext aA;replace K0:=K0.ext aA;refine jF ?_ ?_
   ·intro hc62
    refine jG ?_;refine jK Tryz.func69 ?_;rw[←hE,beg1_t (tgOk_no ht (fun h_=>hc62.elim (fun h2=>h2 h_.1) (fun h2=>by obtain⟨y,hy,he⟩:=List.any_eq_true.1 h2;exact h_.2 y hy (of_decide_eq_true he))))];exact⟨_,rfl,.inl ⟨by decide,rfl,K0⟩⟩
   ·intro hc62
    refine jG ?_;refine jV (litI (c:=((i+1:Nat):Int)) (x_add rfl rfl (by omega) (by omega)) rfl) ?_;refine jG ?_;refine ih1 (i+1) _ _ ?_ (by omega);refine⟨⟨rfl,rfl,rfl,rfl,rfl,rfl,rfl,rfl,rfl,trivial⟩,K0,a0,hA,?_,?_⟩
    ·omega
    ·exact tgOk_step hto ht hc62.1 (fun x hx e_=>by have h_:=hc62.2;rw[List.any_eq_false]at h_;exact h_ x hx (decide_eq_true e_))
  ·intro hc47
   refine jG ?_;refine Run.drawT [] (m:=16) (by kernel_rfl) rfl ?_;intro cU aZ;refine⟨fun w'=>Blk w' aw [.int .i64 (id),.int .i64 (knd),.string (key),.string (item),.int .i64 (qty),.int .u64 (price),.slice (sa.ea) (va.ent.length) (sa.ec),.slice (sa.ma) (va.mrk.length) (sa.mc),.slice (sa.ca) (va.cl.length) (sa.cc)] 31∧True,?_⟩;replace a0:=a0.ext aZ;refine RT.takeP 0 rfl (by kernel_rfl) (.inr ⟨a0,trivial⟩) (fun _=>(x_moveI rfl)) ?_;refine RT.takeP 1 rfl (by kernel_rfl) (.inr ⟨a0,trivial⟩) (fun _=>(x_moveI rfl)) ?_;refine RT.takeP 2 rfl (by kernel_rfl) (.inr ⟨a0,trivial⟩) (fun _=>(x_moveI rfl)) ?_;refine RT.takeP 3 rfl (by kernel_rfl) (.inr ⟨a0,trivial⟩) (fun _=>(x_moveI rfl)) ?_;refine RT.take 4 rfl (by kernel_rfl) ⟨a0,trivial⟩ (by rintro _ ⟨a0,-⟩;exact(x_lds ty31 rfl rfl (a0.cl.drop 0 9))) ?_;refine RT.takeP 5 rfl (by kernel_rfl) (.inr ⟨a0,trivial⟩) (fun _=>(x_moveSl rfl)) ?_;refine RT.takeP 6 rfl (by kernel_rfl) (.inr ⟨a0,trivial⟩) (fun _=>(x_moveI rfl)) ?_;refine RT.takeP 8 rfl (by kernel_rfl) (.inr ⟨a0,trivial⟩) (fun _=>(x_moveI rfl)) ?_;refine RT.takeP 10 rfl (by kernel_rfl) (.inr ⟨a0,trivial⟩) (fun _=>(x_moveI rfl)) ?_;replace hA:=hA.ext aZ;replace K0:=K0.ext aZ;refine RT.fork3 7 9 11 (by kernel_rfl) ?_ ?_ ?_
   ·refine RT1.st rfl<|St1.makeN (c:=ts.length) false Tryz.underlying115 ty4 rfl rfl rfl (by decide) (by omega) ?_
    intro aB cV bi a1 b0;have bj:=geTr K0.size (ge_new bi);clear bi;replace a0:=a0.ext b0;refine⟨.inr ⟨a0,trivial⟩,?_⟩;replace hA:=hA.ext b0;replace K0:=K0.ext b0;refine RT.fork2 9 11 (by kernel_rfl) ?_ ?_
    ·refine RT1.st rfl<|St1.makeN (c:=ts.length) false Tryz.underlying115 ty4 rfl rfl rfl (by decide) (by omega) ?_
     intro bk cW b4 a5 aC;have bD:=apartNew (ge_new b4) a1.own_lt;have bE:=geTr K0.size (ge_new b4);clear b4;replace a0:=a0.ext aC;refine⟨.inr ⟨a0,trivial⟩,?_⟩;refine RT.st 11 rfl (by kernel_rfl) rfl<|St1.makeN (c:=ts.length) (Mg.k ⟨nilV,nilS⟩) Tryz.underlying40 ty29 rfl rfl rfl (by decide) (by omega) ?_;intro bl cX aD aE ao;replace a1:=a1.ext aC;have bF:=apartNew (ge_new aD) a1.own_lt;have bG:=apartNew (ge_new aD) a5.own_lt;replace K0:=K0.ext aC;have bH:=geTr K0.size (ge_new aD);clear aD;replace a0:=a0.ext ao;refine⟨.inr ⟨a0,trivial⟩,?_⟩;refine RT.takeP 12 rfl (by kernel_rfl) (.inr ⟨a0,trivial⟩) (fun _=>(x_build (cells:=#[.int .i64 (self),.int .i64 (req),.int .i64 (nd),.int .i64 (now),.bool (false),.int .i64 (id),.int .i64 (knd),.string (key),.string (item),.int .i64 (qty),.int .u64 (price),.slice (sa.ea) (va.ent.length) (sa.ec),.slice (sa.ma) (va.mrk.length) (sa.mc),.slice (sa.ca) (va.cl.length) (sa.cc),.slice (none) (0) (0),.slice (none) (0) (0),.slice (none) (0) (0),.slice (al) (ts.length) (lc),.slice (some ⟨aB,0,none⟩) (ts.length) (ts.length),.slice (some ⟨bk,0,none⟩) (ts.length) (ts.length),.slice (some ⟨bl,0,none⟩) (ts.length) (ts.length),.slice (none) (0) (0),.int .i64 (0),.int .i64 (0),.bool (false),.bool (false),.bool (false),.bool (false)]) (by kernel_rfl))) ?_;refine RT.st 13 rfl (by kernel_rfl) rfl<|jB ?_;intro bI cY ab bJ ac;have cZ:=ltLe a0.lt ab;replace a1:=a1.ext ao;have bK:=ltNo a1.own_lt ab;replace a5:=a5.ext ao;have bL:=ltNo a5.own_lt ab;have bM:=ltNo aE.own_lt ab;replace K0:=K0.ext ao;have:=Nat.le_trans K0.size ab;clear ab;replace a0:=a0.ext ac;refine⟨.inr ⟨a0,trivial⟩,?_⟩;refine RT.takeP 14 rfl (by kernel_rfl) (.inr ⟨a0,trivial⟩) (fun _=>(x_assignP rfl)) ?_;refine RT.takeP 15 rfl (by kernel_rfl) (.inr ⟨a0,trivial⟩) (fun _=>(x_assignI rfl)) ?_;refine RT.done (by kernel_rfl) ?_;refine jK Tryz.func69 ?_;rw[←hE,beg1_ok hnb (by rw[←(show i=ts.length by omega)];exact hto)];replace hA:=((hA.ext aC).ext ao).ext ac;replace a1:=a1.ext ac;replace a5:=a5.ext ac;replace aE:=aE.ext ac;replace K0:=K0.ext ac;exact⟨_,rfl,.inr ⟨rfl,bI,aB,bk,bl,rfl,bJ,a1,a5,aE,bK,bL,bM,(fun q_ h1 h2=>bD q_ h2 h1),(fun q_ h1 h2=>bF q_ h2 h1),(fun q_ h1 h2=>bG q_ h2 h1),bj,bE,bH,by omega,K0⟩⟩
    ·refine RT1.st rfl<|St1.makeN (c:=ts.length) (Mg.k ⟨nilV,nilS⟩) Tryz.underlying40 ty29 rfl rfl rfl (by decide) (by omega) ?_
     intro bm d0 b5 a6 aF;have bN:=apartNew (ge_new b5) a1.own_lt;have bO:=geTr K0.size (ge_new b5);clear b5;replace a0:=a0.ext aF;refine⟨.inr ⟨a0,trivial⟩,?_⟩;refine RT.st 9 rfl (by kernel_rfl) rfl<|St1.makeN (c:=ts.length) false Tryz.underlying115 ty4 rfl rfl rfl (by decide) (by omega) ?_;intro bn d1 aG aH ap;replace a1:=a1.ext aF;have bP:=apartNew (ge_new aG) a1.own_lt;have bQ:=apartNew (ge_new aG) a6.own_lt;replace K0:=K0.ext aF;have bR:=geTr K0.size (ge_new aG);clear aG;replace a0:=a0.ext ap;refine⟨.inr ⟨a0,trivial⟩,?_⟩;refine RT.takeP 12 rfl (by kernel_rfl) (.inr ⟨a0,trivial⟩) (fun _=>(x_build (cells:=#[.int .i64 (self),.int .i64 (req),.int .i64 (nd),.int .i64 (now),.bool (false),.int .i64 (id),.int .i64 (knd),.string (key),.string (item),.int .i64 (qty),.int .u64 (price),.slice (sa.ea) (va.ent.length) (sa.ec),.slice (sa.ma) (va.mrk.length) (sa.mc),.slice (sa.ca) (va.cl.length) (sa.cc),.slice (none) (0) (0),.slice (none) (0) (0),.slice (none) (0) (0),.slice (al) (ts.length) (lc),.slice (some ⟨aB,0,none⟩) (ts.length) (ts.length),.slice (some ⟨bn,0,none⟩) (ts.length) (ts.length),.slice (some ⟨bm,0,none⟩) (ts.length) (ts.length),.slice (none) (0) (0),.int .i64 (0),.int .i64 (0),.bool (false),.bool (false),.bool (false),.bool (false)]) (by kernel_rfl))) ?_;refine RT.st 13 rfl (by kernel_rfl) rfl<|jB ?_;intro bS d2 ad bT ae;have d3:=ltLe a0.lt ad;replace a1:=a1.ext ap;have bU:=ltNo a1.own_lt ad;replace a6:=a6.ext ap;have bV:=ltNo a6.own_lt ad;have bW:=ltNo aH.own_lt ad;replace K0:=K0.ext ap;have:=Nat.le_trans K0.size ad;clear ad;replace a0:=a0.ext ae;refine⟨.inr ⟨a0,trivial⟩,?_⟩;refine RT.takeP 14 rfl (by kernel_rfl) (.inr ⟨a0,trivial⟩) (fun _=>(x_assignP rfl)) ?_;refine RT.takeP 15 rfl (by kernel_rfl) (.inr ⟨a0,trivial⟩) (fun _=>(x_assignI rfl)) ?_;refine RT.done (by kernel_rfl) ?_;refine jK Tryz.func69 ?_;rw[←hE,beg1_ok hnb (by rw[←(show i=ts.length by omega)];exact hto)];replace hA:=((hA.ext aF).ext ap).ext ae;replace a1:=a1.ext ae;replace a6:=a6.ext ae;replace aH:=aH.ext ae;replace K0:=K0.ext ae;exact⟨_,rfl,.inr ⟨rfl,bS,aB,bn,bm,rfl,bT,a1,aH,a6,bU,bW,bV,(fun q_ h1 h2=>bP q_ h2 h1),(fun q_ h1 h2=>bN q_ h2 h1),bQ,bj,bR,bO,by omega,K0⟩⟩
   ·refine RT1.st rfl<|St1.makeN (c:=ts.length) false Tryz.underlying115 ty4 rfl rfl rfl (by decide) (by omega) ?_
    intro aI d4 bo a2 b6;have bp:=geTr K0.size (ge_new bo);clear bo;replace a0:=a0.ext b6;refine⟨.inr ⟨a0,trivial⟩,?_⟩;replace hA:=hA.ext b6;replace K0:=K0.ext b6;refine RT.fork2 7 11 (by kernel_rfl) ?_ ?_
    ·refine RT1.st rfl<|St1.makeN (c:=ts.length) false Tryz.underlying115 ty4 rfl rfl rfl (by decide) (by omega) ?_
     intro bq d5 b7 a7 aJ;have bX:=apartNew (ge_new b7) a2.own_lt;have bY:=geTr K0.size (ge_new b7);clear b7;replace a0:=a0.ext aJ;refine⟨.inr ⟨a0,trivial⟩,?_⟩;refine RT.st 11 rfl (by kernel_rfl) rfl<|St1.makeN (c:=ts.length) (Mg.k ⟨nilV,nilS⟩) Tryz.underlying40 ty29 rfl rfl rfl (by decide) (by omega) ?_;intro bs d6 aK aL aq;replace a2:=a2.ext aJ;have bZ:=apartNew (ge_new aK) a2.own_lt;have c0:=apartNew (ge_new aK) a7.own_lt;replace K0:=K0.ext aJ;have c1:=geTr K0.size (ge_new aK);clear aK;replace a0:=a0.ext aq;refine⟨.inr ⟨a0,trivial⟩,?_⟩;refine RT.takeP 12 rfl (by kernel_rfl) (.inr ⟨a0,trivial⟩) (fun _=>(x_build (cells:=#[.int .i64 (self),.int .i64 (req),.int .i64 (nd),.int .i64 (now),.bool (false),.int .i64 (id),.int .i64 (knd),.string (key),.string (item),.int .i64 (qty),.int .u64 (price),.slice (sa.ea) (va.ent.length) (sa.ec),.slice (sa.ma) (va.mrk.length) (sa.mc),.slice (sa.ca) (va.cl.length) (sa.cc),.slice (none) (0) (0),.slice (none) (0) (0),.slice (none) (0) (0),.slice (al) (ts.length) (lc),.slice (some ⟨bq,0,none⟩) (ts.length) (ts.length),.slice (some ⟨aI,0,none⟩) (ts.length) (ts.length),.slice (some ⟨bs,0,none⟩) (ts.length) (ts.length),.slice (none) (0) (0),.int .i64 (0),.int .i64 (0),.bool (false),.bool (false),.bool (false),.bool (false)]) (by kernel_rfl))) ?_;refine RT.st 13 rfl (by kernel_rfl) rfl<|jB ?_;intro c2 d7 af c4 ag;have d8:=ltLe a0.lt af;replace a2:=a2.ext aq;have c5:=ltNo a2.own_lt af;replace a7:=a7.ext aq;have c6:=ltNo a7.own_lt af;have c7:=ltNo aL.own_lt af;replace K0:=K0.ext aq;have:=Nat.le_trans K0.size af;clear af;replace a0:=a0.ext ag;refine⟨.inr ⟨a0,trivial⟩,?_⟩;refine RT.takeP 14 rfl (by kernel_rfl) (.inr ⟨a0,trivial⟩) (fun _=>(x_assignP rfl)) ?_;refine RT.takeP 15 rfl (by kernel_rfl) (.inr ⟨a0,trivial⟩) (fun _=>(x_assignI rfl)) ?_;refine RT.done (by kernel_rfl) ?_;refine jK Tryz.func69 ?_;rw[←hE,beg1_ok hnb (by rw[←(show i=ts.length by omega)];exact hto)];replace hA:=((hA.ext aJ).ext aq).ext ag;replace a2:=a2.ext ag;replace a7:=a7.ext ag;replace aL:=aL.ext ag;replace K0:=K0.ext ag;exact⟨_,rfl,.inr ⟨rfl,c2,bq,aI,bs,rfl,c4,a7,a2,aL,c6,c5,c7,bX,(fun q_ h1 h2=>c0 q_ h2 h1),(fun q_ h1 h2=>bZ q_ h2 h1),bY,bp,c1,by omega,K0⟩⟩
    ·refine RT1.st rfl<|St1.makeN (c:=ts.length) (Mg.k ⟨nilV,nilS⟩) Tryz.underlying40 ty29 rfl rfl rfl (by decide) (by omega) ?_
     intro bt d9 b8 a8 aM;have c8:=apartNew (ge_new b8) a2.own_lt;have c9:=geTr K0.size (ge_new b8);clear b8;replace a0:=a0.ext aM;refine⟨.inr ⟨a0,trivial⟩,?_⟩;refine RT.st 7 rfl (by kernel_rfl) rfl<|St1.makeN (c:=ts.length) false Tryz.underlying115 ty4 rfl rfl rfl (by decide) (by omega) ?_;intro bu da aN aO ar;replace a2:=a2.ext aM;have cb:=apartNew (ge_new aN) a2.own_lt;have cd:=apartNew (ge_new aN) a8.own_lt;replace K0:=K0.ext aM;have ce:=geTr K0.size (ge_new aN);clear aN;replace a0:=a0.ext ar;refine⟨.inr ⟨a0,trivial⟩,?_⟩;refine RT.takeP 12 rfl (by kernel_rfl) (.inr ⟨a0,trivial⟩) (fun _=>(x_build (cells:=#[.int .i64 (self),.int .i64 (req),.int .i64 (nd),.int .i64 (now),.bool (false),.int .i64 (id),.int .i64 (knd),.string (key),.string (item),.int .i64 (qty),.int .u64 (price),.slice (sa.ea) (va.ent.length) (sa.ec),.slice (sa.ma) (va.mrk.length) (sa.mc),.slice (sa.ca) (va.cl.length) (sa.cc),.slice (none) (0) (0),.slice (none) (0) (0),.slice (none) (0) (0),.slice (al) (ts.length) (lc),.slice (some ⟨bu,0,none⟩) (ts.length) (ts.length),.slice (some ⟨aI,0,none⟩) (ts.length) (ts.length),.slice (some ⟨bt,0,none⟩) (ts.length) (ts.length),.slice (none) (0) (0),.int .i64 (0),.int .i64 (0),.bool (false),.bool (false),.bool (false),.bool (false)]) (by kernel_rfl))) ?_;refine RT.st 13 rfl (by kernel_rfl) rfl<|jB ?_;intro cf db ah cg ai;have dc:=ltLe a0.lt ah;replace a2:=a2.ext ar;have ch:=ltNo a2.own_lt ah;replace a8:=a8.ext ar;have ci:=ltNo a8.own_lt ah;have cj:=ltNo aO.own_lt ah;replace K0:=K0.ext ar;have:=Nat.le_trans K0.size ah;clear ah;replace a0:=a0.ext ai;refine⟨.inr ⟨a0,trivial⟩,?_⟩;refine RT.takeP 14 rfl (by kernel_rfl) (.inr ⟨a0,trivial⟩) (fun _=>(x_assignP rfl)) ?_;refine RT.takeP 15 rfl (by kernel_rfl) (.inr ⟨a0,trivial⟩) (fun _=>(x_assignI rfl)) ?_;refine RT.done (by kernel_rfl) ?_;refine jK Tryz.func69 ?_;rw[←hE,beg1_ok hnb (by rw[←(show i=ts.length by omega)];exact hto)];replace hA:=((hA.ext aM).ext ar).ext ai;replace a2:=a2.ext ai;replace a8:=a8.ext ai;replace aO:=aO.ext ai;replace K0:=K0.ext ai;exact⟨_,rfl,.inr ⟨rfl,cf,bu,aI,bt,rfl,cg,aO,a2,a8,cj,ch,ci,cb,cd,(fun q_ h1 h2=>c8 q_ h2 h1),ce,bp,c9,by omega,K0⟩⟩
   ·refine RT1.st rfl<|St1.makeN (c:=ts.length) (Mg.k ⟨nilV,nilS⟩) Tryz.underlying40 ty29 rfl rfl rfl (by decide) (by omega) ?_
    intro aP dd bv a3 b9;have bw:=geTr K0.size (ge_new bv);clear bv;replace a0:=a0.ext b9;refine⟨.inr ⟨a0,trivial⟩,?_⟩;replace hA:=hA.ext b9;replace K0:=K0.ext b9;refine RT.fork2 7 9 (by kernel_rfl) ?_ ?_
    ·refine RT1.st rfl<|St1.makeN (c:=ts.length) false Tryz.underlying115 ty4 rfl rfl rfl (by decide) (by omega) ?_
     intro bx de ba a9 aQ;have ck:=apartNew (ge_new ba) a3.own_lt;have cm:=geTr K0.size (ge_new ba);clear ba;replace a0:=a0.ext aQ;refine⟨.inr ⟨a0,trivial⟩,?_⟩;refine RT.st 9 rfl (by kernel_rfl) rfl<|St1.makeN (c:=ts.length) false Tryz.underlying115 ty4 rfl rfl rfl (by decide) (by omega) ?_;intro bz df aR aS au;replace a3:=a3.ext aQ;have cn:=apartNew (ge_new aR) a3.own_lt;have co:=apartNew (ge_new aR) a9.own_lt;replace K0:=K0.ext aQ;have cp:=geTr K0.size (ge_new aR);clear aR;replace a0:=a0.ext au;refine⟨.inr ⟨a0,trivial⟩,?_⟩;refine RT.takeP 12 rfl (by kernel_rfl) (.inr ⟨a0,trivial⟩) (fun _=>(x_build (cells:=#[.int .i64 (self),.int .i64 (req),.int .i64 (nd),.int .i64 (now),.bool (false),.int .i64 (id),.int .i64 (knd),.string (key),.string (item),.int .i64 (qty),.int .u64 (price),.slice (sa.ea) (va.ent.length) (sa.ec),.slice (sa.ma) (va.mrk.length) (sa.mc),.slice (sa.ca) (va.cl.length) (sa.cc),.slice (none) (0) (0),.slice (none) (0) (0),.slice (none) (0) (0),.slice (al) (ts.length) (lc),.slice (some ⟨bx,0,none⟩) (ts.length) (ts.length),.slice (some ⟨bz,0,none⟩) (ts.length) (ts.length),.slice (some ⟨aP,0,none⟩) (ts.length) (ts.length),.slice (none) (0) (0),.int .i64 (0),.int .i64 (0),.bool (false),.bool (false),.bool (false),.bool (false)]) (by kernel_rfl))) ?_;refine RT.st 13 rfl (by kernel_rfl) rfl<|jB ?_;intro cq dg aj cr ak;have dh:=ltLe a0.lt aj;replace a3:=a3.ext au;have cs:=ltNo a3.own_lt aj;replace a9:=a9.ext au;have ct:=ltNo a9.own_lt aj;have cu:=ltNo aS.own_lt aj;replace K0:=K0.ext au;have:=Nat.le_trans K0.size aj;clear aj;replace a0:=a0.ext ak;refine⟨.inr ⟨a0,trivial⟩,?_⟩;refine RT.takeP 14 rfl (by kernel_rfl) (.inr ⟨a0,trivial⟩) (fun _=>(x_assignP rfl)) ?_;refine RT.takeP 15 rfl (by kernel_rfl) (.inr ⟨a0,trivial⟩) (fun _=>(x_assignI rfl)) ?_;refine RT.done (by kernel_rfl) ?_;refine jK Tryz.func69 ?_;rw[←hE,beg1_ok hnb (by rw[←(show i=ts.length by omega)];exact hto)];replace hA:=((hA.ext aQ).ext au).ext ak;replace a3:=a3.ext ak;replace a9:=a9.ext ak;replace aS:=aS.ext ak;replace K0:=K0.ext ak;exact⟨_,rfl,.inr ⟨rfl,cq,bx,bz,aP,rfl,cr,a9,aS,a3,ct,cu,cs,(fun q_ h1 h2=>co q_ h2 h1),ck,cn,cm,cp,bw,by omega,K0⟩⟩
    ·refine RT1.st rfl<|St1.makeN (c:=ts.length) false Tryz.underlying115 ty4 rfl rfl rfl (by decide) (by omega) ?_
     intro bA di bb aa bc;have cv:=apartNew (ge_new bb) a3.own_lt;have cw:=geTr K0.size (ge_new bb);clear bb;replace a0:=a0.ext bc;refine⟨.inr ⟨a0,trivial⟩,?_⟩;refine RT.st 7 rfl (by kernel_rfl) rfl<|St1.makeN (c:=ts.length) false Tryz.underlying115 ty4 rfl rfl rfl (by decide) (by omega) ?_;intro bB dj aT aU aV;replace a3:=a3.ext bc;have cx:=apartNew (ge_new aT) a3.own_lt;have cy:=apartNew (ge_new aT) aa.own_lt;replace K0:=K0.ext bc;have cz:=geTr K0.size (ge_new aT);clear aT;replace a0:=a0.ext aV;refine⟨.inr ⟨a0,trivial⟩,?_⟩;refine RT.takeP 12 rfl (by kernel_rfl) (.inr ⟨a0,trivial⟩) (fun _=>(x_build (cells:=#[.int .i64 (self),.int .i64 (req),.int .i64 (nd),.int .i64 (now),.bool (false),.int .i64 (id),.int .i64 (knd),.string (key),.string (item),.int .i64 (qty),.int .u64 (price),.slice (sa.ea) (va.ent.length) (sa.ec),.slice (sa.ma) (va.mrk.length) (sa.mc),.slice (sa.ca) (va.cl.length) (sa.cc),.slice (none) (0) (0),.slice (none) (0) (0),.slice (none) (0) (0),.slice (al) (ts.length) (lc),.slice (some ⟨bB,0,none⟩) (ts.length) (ts.length),.slice (some ⟨bA,0,none⟩) (ts.length) (ts.length),.slice (some ⟨aP,0,none⟩) (ts.length) (ts.length),.slice (none) (0) (0),.int .i64 (0),.int .i64 (0),.bool (false),.bool (false),.bool (false),.bool (false)]) (by kernel_rfl))) ?_;refine RT.st 13 rfl (by kernel_rfl) rfl<|jB ?_;intro cA dk am cB av;have dl:=ltLe a0.lt am;replace a3:=a3.ext aV;have cC:=ltNo a3.own_lt am;replace aa:=aa.ext aV;have cD:=ltNo aa.own_lt am;have cE:=ltNo aU.own_lt am;replace K0:=K0.ext aV;have:=Nat.le_trans K0.size am;clear am;replace a0:=a0.ext av;refine⟨.inr ⟨a0,trivial⟩,?_⟩;refine RT.takeP 14 rfl (by kernel_rfl) (.inr ⟨a0,trivial⟩) (fun _=>(x_assignP rfl)) ?_;refine RT.takeP 15 rfl (by kernel_rfl) (.inr ⟨a0,trivial⟩) (fun _=>(x_assignI rfl)) ?_;refine RT.done (by kernel_rfl) ?_;refine jK Tryz.func69 ?_;rw[←hE,beg1_ok hnb (by rw[←(show i=ts.length by omega)];exact hto)];replace a3:=a3.ext av;replace aa:=aa.ext av;replace aU:=aU.ext av;replace K0:=K0.ext av;exact⟨_,rfl,.inr ⟨rfl,cA,bB,bA,aP,rfl,cB,aU,aa,a3,cE,cD,cC,cy,cx,cv,cz,cw,bw,by omega,K0⟩⟩
end Go.Proofs.YtocgdeefgohdhaaGreat
