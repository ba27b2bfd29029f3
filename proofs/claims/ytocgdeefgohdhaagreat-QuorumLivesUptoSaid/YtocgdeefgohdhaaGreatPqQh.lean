/-
  Qh, Qi
-/
import Derived.Test.YtocgdeefgohdhaaGreatRows
import Derived.Test.YtocgdeefgohdhaaGreatPqQg
import Derived.Test.YtocgdeefgohdhaaGreatPqMake
import Derived.Test.YtocgdeefgohdhaaGreatPqFrame
import Derived.Test.YtocgdeefgohdhaaGreatPqI
set_option linter.all false
set_option maxRecDepth 100000
set_option maxHeartbeats 4000000
namespace Go.Proofs.YtocgdeefgohdhaaGreat
open Go.Proofs.Tryz
attribute [local irreducible] RD RS AD RL RA RT BH Al
structure Rq where
 self:Int
 req:Int
 need:Int
 begun:Int
 put:Bool
 id:Int
 knd:Int
 key:ByteArray
 item:ByteArray
 qty:Int
 price:Int
 seen:MV
 ss:A6
 cart:MV
 cs:A6
 la:Option Addr
 lc:Nat
 l:List Au
 aa:Option Addr
 ac:Nat
 ans:List Bool
 ha:Option Addr
 hc:Nat
 there:List Bool
 ca:Option Addr
 cc:Nat
 carts:List Mg
 oa:Option Addr
 oc:Nat
 order:List Int
 kept:Int
 refused:Int
 full:Bool
 told:Bool
 ok:Bool
 done:Bool
structure RM where
 self:Int
 req:Int
 need:Int
 begun:Int
 put:Bool
 id:Int
 key:ByteArray
 seen:MV
 cart:MV
 l:List Au
 ans:List Bool
 there:List Bool
 carts:List MV
 order:List Int
 kept:Int
 refused:Int
 full:Bool
 told:Bool
 ok:Bool
 done:Bool
def Mg.k (m:Mg):AX:=(An m.v m.s).cart
abbrev Rq.pv (R:Rq):RM:=⟨R.self,R.req,R.need,R.begun,R.put,R.id,R.key,R.seen,R.cart,R.l,R.ans,R.there,R.carts.map Mg.v,R.order,R.kept,R.refused,R.full,R.told,R.ok,R.done⟩
abbrev Rq.cells (R:Rq):List Value:=[.int .i64 R.self,.int .i64 R.req,.int .i64 R.need,.int .i64 R.begun,.bool R.put,.int .i64 R.id,.int .i64 R.knd,.string R.key,.string R.item,.int .i64 R.qty,.int .u64 R.price,.slice R.ss.ea R.seen.ent.length R.ss.ec,.slice R.ss.ma R.seen.mrk.length R.ss.mc,.slice R.ss.ca R.seen.cl.length R.ss.cc,.slice R.cs.ea R.cart.ent.length R.cs.ec,.slice R.cs.ma R.cart.mrk.length R.cs.mc,.slice R.cs.ca R.cart.cl.length R.cs.cc,.slice R.la R.l.length R.lc,.slice R.aa R.ans.length R.ac,.slice R.ha R.there.length R.hc,.slice R.ca ((R.carts.map Mg.k).length) R.cc,.slice R.oa R.order.length R.oc,.int .i64 R.kept,.int .i64 R.refused,.bool R.full,.bool R.told,.bool R.ok,.bool R.done]
structure Ju (w:World)(R:Rq):Prop where
 tg:At w R.la R.l
 seen:AE w R.ss R.seen
 cart:AE w R.cs R.cart
 carts:∀m∈R.carts,AE w m.s m.v
 tc:R.l.length≤R.lc
 sok:AV R.seen R.ss
 cok:AV R.cart R.cs
 csok:∀m∈R.carts,AV m.v m.s
def AW (x:Nat)(R:Rq):Nat→Prop:=fun q=>q=x∨(own R.aa q∨(own R.ha q∨(own R.ca q∨own R.oa q)))
structure D9 (w:World)(x:Nat)(R:Rq):Prop where
 blk:AI w x R.cells 118
 ans:Ag w 4 R.aa R.ac R.ans
 there:Ag w 4 R.ha R.hc R.there
 carts:Ag w 29 R.ca R.cc (R.carts.map Mg.k)
 order:Ag w 3 R.oa R.oc R.order
 na:¬own R.aa x
 nh:¬own R.ha x
 nc:¬own R.ca x
 no:¬own R.oa x
 ah:∀q,own R.aa q→¬own R.ha q
 ac:∀q,own R.aa q→¬own R.ca q
 ao:∀q,own R.aa q→¬own R.oa q
 hc:∀q,own R.ha q→¬own R.ca q
 ho:∀q,own R.ha q→¬own R.oa q
 co:∀q,own R.ca q→¬own R.oa q
structure Hb (R:Rq):Prop where
 need:1≤R.need∧R.need≤5
 ll:R.l.length≤1048576
 al:R.ans.length=R.l.length
 hl:R.there.length=R.l.length
 cl:R.carts.length=R.l.length
 ol:R.order.length≤R.l.length
 oi:∀i∈R.order,0≤i∧i<R.l.length
 kr:0≤R.kept∧0≤R.refused∧R.kept+R.refused≤R.l.length
 began:0≤R.begun∧R.begun≤1099511627776
section
variable {w w':World}{S:Nat→Prop}{x:Nat}{R:Rq}
theorem Ju.ext (h:Ju w R)(k:As w w'):Ju w' R:=⟨h.tg.ext k,h.seen.ext k,h.cart.ext k,fun m hm=>(h.carts m hm).ext k,h.tc,h.sok,h.cok,h.csok⟩
theorem D9.own_lt (h:D9 w x R):∀q,AW x R q→q<w.heap.size:=by
 rintro q (rfl|hq|hq|hq|hq)
 ·exact h.blk.lt
 ·exact h.ans.own_lt q hq
 ·exact h.there.own_lt q hq
 ·exact h.carts.own_lt q hq
 ·exact h.order.own_lt q hq
theorem D9.keepO (h:D9 w x R)(k:Ao S w w')(hn:∀q,AW x R q→¬S q):D9 w' x R:=
 ⟨h.blk.keep k (hn _ (.inl rfl)),h.ans.keepO k fun q hq=>hn q (.inr (.inl hq)),h.there.keepO k fun q hq=>hn q (.inr (.inr (.inl hq))),h.carts.keepO k fun q hq=>hn q (.inr (.inr (.inr (.inl hq)))),h.order.keepO k fun q hq=>hn q (.inr (.inr (.inr (.inr hq)))),h.na,h.nh,h.nc,h.no,h.ah,h.ac,h.ao,h.hc,h.ho,h.co⟩
theorem D9.ext (h:D9 w x R)(k:As w w'):D9 w' x R:=h.keepO k fun _ _=>id
end
def C3 (w0 w:World)(x:Nat)(F:Nat→Prop)(Q:RM):Prop:=∃R:Rq,F=AW x R∧Q=R.pv∧D9 w x R∧Hb R∧Ju w0 R
section
variable {w0 w w':World}{S F:Nat→Prop}{x:Nat}{Q:RM}
theorem C3.own_lt (h:C3 w0 w x F Q):∀q,F q→q<w.heap.size:=by obtain⟨R,rfl,rfl,h,-⟩:=h;exact h.own_lt
theorem C3.keepO (h:C3 w0 w x F Q)(k:Ao S w w')(hn:∀q,F q→¬S q):C3 w0 w' x F Q:=by obtain⟨R,rfl,rfl,h,ho⟩:=h;exact⟨R,rfl,rfl,h.keepO k hn,ho⟩
theorem C3.ext (h:C3 w0 w x F Q)(k:As w w'):C3 w0 w' x F Q:=h.keepO k fun _ _ h=>h
end
open Classical in
noncomputable def GM (self req need began:Int)(l:List Au):Int:=if C1 self req need began∨¬Eu l l.length then 1 else 0
theorem L8 {self req need began:Int}{l:List Au}(h:C1 self req need began):GM self req need began l=1:=by rw[GM,if_pos (.inl h)]
theorem L9 {self req need began:Int}{l:List Au}(h2:¬Eu l l.length):GM self req need began l=1:=by rw[GM,if_pos (.inr h2)]
theorem Fe {self req need began:Int}{l:List Au}(h:¬C1 self req need began)(h2:Eu l l.length):GM self req need began l=0:=by rw[GM,if_neg (fun h3=>h3.elim h (fun h4=>h4 h2))]
attribute [local irreducible] X
theorem PA (n:Int)(w:World):
  Calls prog 89 #[.int .i64 n] w (AU (fun v w'=>v= .bool (decide (N8 n))∧As w w')):=by
 refine Af (n:=9) func89 rfl rfl rfl ?_;refine jG ?_;refine jV (AN rfl rfl rfl) ?_;refine jG ?_;refine jJ func89 ?_;exact⟨_,rfl,congrArg Value.bool (by rw[Bool.eq_iff_iff];simp only[Bool.and_eq_true,decide_eq_true_eq];exact Iff.rfl),(Ao.refl _ w)⟩
theorem ST (a:Option Addr)(xs:List Au)(c:Nat)(n:Int)(w:World)(hs:At w a xs)(hl:xs.length≤4294967295):
  Calls prog 90 #[.slice a xs.length c,.int .i64 n] w (AU (fun v w'=>v= .bool (xs.any fun t=>decide (t.node=n))∧As w w')):=by
 refine Af (n:=18) func90 rfl rfl rfl ?_;refine jG ?_;refine Al.loop (ι:=Nat) (fun i ρ' w'=>AG ρ' [(1,.int .i64 n),(7,.slice a xs.length c),(8,.int .i64 ((xs.length:Nat):Int)),(9,.int .i64 ((i:Nat):Int))]∧As w w'∧(i≤xs.length)∧(Ep (fun t=>decide (t.node=n)) xs i)) (fun i=>xs.length-i) 0 ?_ ?_
 ·refine⟨⟨rfl,rfl,rfl,rfl,trivial⟩,(Ao.refl _ w),?_,?_⟩
  ·omega
  ·exact Ep.zero _ _
 rintro i a6 a7 ⟨a2,K0,hi,hno⟩ ih1;obtain⟨ρ₀,rfl⟩:=a2.ex;clear a2;refine jG ?_;refine jF ?_ ?_
 ·intro hc10
  obtain⟨a8,a9,t,hx,aa,a0⟩:=hs.eo i;have hc_7_lt:=a0.lt;replace a0:=a0.ext K0;refine jG ?_;refine jR<|jA ?_;intro ab ac a1 a3 a4;have ad:=Aj a0.lt a1;have:=Nat.le_trans K0.size a1;clear a1;refine jR<|jS a3 ?_;intro ae a3 a5;refine jG ?_;replace K0:=(K0.ext a4).n1 a5;refine jF ?_ ?_
  ·intro hc16
   refine jG ?_;refine jJ func90 ?_;exact⟨_,rfl,by rw[LC hx (decide_eq_true hc16)],K0⟩
  ·intro hc16
   refine jG ?_;refine jV (Ay (c:=((i+1:Nat):Int)) (Aq rfl rfl Zo Zo) rfl) ?_;refine jG ?_;refine ih1 (i+1) _ _ ?_ Zo;refine⟨⟨rfl,rfl,rfl,rfl,trivial⟩,K0,?_,?_⟩
   ·omega
   ·exact hno.step hx (decide_eq_false hc16)
 ·intro hc10
  refine jG ?_;refine jJ func90 ?_;exact⟨_,rfl,by rw[LD hno Zo],K0⟩
theorem M8 (self req nd now:Int)(id knd qty price:Int)(key item:ByteArray)(va:MV)(sa:A6)(al:Option Addr)(ts:List Au)(lc:Nat)(E:Int)(w:World)(hE:GM self req nd now ts=E)(hA:AE w sa va)(hl:At w al ts)(hll:ts.length≤1048576)(hlc:ts.length≤lc):
  Calls prog 69 #[.int .i64 self,.int .i64 req,.agg #[.int .i64 id,.int .i64 knd,.string key,.string item,.int .i64 qty,.int .u64 price,.slice sa.ea va.ent.length sa.ec,.slice sa.ma va.mrk.length sa.mc,.slice sa.ca va.cl.length sa.cc],.slice al ts.length lc,.int .i64 nd,.int .i64 now] w (AU (fun r w'=>(E≠0∧r= .tuple #[.pointer none,.int .i64 E]∧As w w')∨(E=0∧∃x b1 b2 b3,r= .tuple #[jp x,.int .i64 0]∧AI w' x [.int .i64 self,.int .i64 req,.int .i64 nd,.int .i64 now,.bool false,.int .i64 id,.int .i64 knd,.string key,.string item,.int .i64 qty,.int .u64 price,.slice sa.ea va.ent.length sa.ec,.slice sa.ma va.mrk.length sa.mc,.slice sa.ca va.cl.length sa.cc,.slice none 0 0,.slice none 0 0,.slice none 0 0,.slice al ts.length lc,.slice (some ⟨b1,0,none⟩:Option Addr) ts.length ts.length,.slice (some ⟨b2,0,none⟩:Option Addr) ts.length ts.length,.slice (some ⟨b3,0,none⟩:Option Addr) ts.length ts.length,.slice none 0 0,.int .i64 0,.int .i64 0,.bool false,.bool false,.bool false,.bool false] 118∧Ag w' 4 (some ⟨b1,0,none⟩:Option Addr) ts.length (List.replicate ts.length false)∧Ag w' 4 (some ⟨b2,0,none⟩:Option Addr) ts.length (List.replicate ts.length false)∧Ag w' 29 (some ⟨b3,0,none⟩:Option Addr) ts.length (List.replicate ts.length (Mg.k ⟨nilV,nilS⟩))∧¬own (some ⟨b1,0,none⟩:Option Addr) x∧¬own (some ⟨b2,0,none⟩:Option Addr) x∧¬own (some ⟨b3,0,none⟩:Option Addr) x∧(∀q,own (some ⟨b1,0,none⟩:Option Addr) q→¬own (some ⟨b2,0,none⟩:Option Addr) q)∧(∀q,own (some ⟨b1,0,none⟩:Option Addr) q→¬own (some ⟨b3,0,none⟩:Option Addr) q)∧(∀q,own (some ⟨b2,0,none⟩:Option Addr) q→¬own (some ⟨b3,0,none⟩:Option Addr) q)∧(∀q,own (some ⟨b1,0,none⟩:Option Addr) q→w.heap.size≤q)∧(∀q,own (some ⟨b2,0,none⟩:Option Addr) q→w.heap.size≤q)∧(∀q,own (some ⟨b3,0,none⟩:Option Addr) q→w.heap.size≤q)∧w.heap.size≤x∧As w w'))):=by
 refine Af (n:=80) func69 rfl rfl rfl ?_;refine jG ?_;refine jR<|jB ?_;intro aw cG be a0 bg;have:w.heap.size≤aw:=be;clear be;have K0:=(bg:As w _);refine jG ?_;refine jR<|jC (PA self _) ?_;rintro _ cH ⟨rfl,aW⟩;refine jG ?_;refine jV (Ba rfl rfl rfl) ?_;refine jG ?_;refine jV (Ba rfl rfl rfl) ?_;refine jG ?_;refine jV (Ba rfl rfl rfl) ?_;refine jG ?_;refine jV (Ba rfl rfl rfl) ?_;refine jG ?_;refine jV (Ba rfl rfl rfl) ?_;refine jG ?_;refine jV (Ba rfl rfl rfl) ?_;refine jG ?_;replace hA:=(hA.ext bg).ext aW;replace a0:=a0.ext aW;replace K0:=K0.ext aW;refine jF ?_ ?_
 ·intro hc43
  refine jG ?_;refine jK func69 ?_;rw[←hE,L8 (by unfold C1;unfold N8 at hc43⊢;omega)];exact⟨_,rfl,.inl ⟨by decide,rfl,K0⟩⟩
 ·intro hc43
  have hnb:¬C1 self req nd now:=by unfold C1;unfold N8 at hc43⊢;omega
  refine jG ?_;refine Al.loop (ι:=Nat) (fun i ρ' w'=>AG ρ' [(0,.int .i64 self),(1,.int .i64 req),(3,.slice al ts.length lc),(4,.int .i64 nd),(5,.int .i64 now),(8,jp aw),(44,.slice al ts.length lc),(45,.int .i64 ((ts.length:Nat):Int)),(46,.int .i64 ((i:Nat):Int))]∧As w w'∧(AI w' aw [.int .i64 id,.int .i64 knd,.string key,.string item,.int .i64 qty,.int .u64 price,.slice sa.ea va.ent.length sa.ec,.slice sa.ma va.mrk.length sa.mc,.slice sa.ca va.cl.length sa.cc] 31)∧(AE w' sa va)∧(i≤ts.length)∧(Eu ts i)) (fun i=>ts.length-i) 0 ?_ ?_
  ·refine⟨⟨rfl,rfl,rfl,rfl,rfl,rfl,rfl,rfl,rfl,trivial⟩,K0,a0,hA,?_,?_⟩
   ·omega
   ·exact Js _
  clear hA a0;clear K0;rintro i cI cJ ⟨bh,K0,a0,hA,hi,hto⟩ ih1;obtain⟨ρ₀,rfl⟩:=bh.ex;clear bh;refine jG ?_;refine jF ?_ ?_
  ·intro hc47
   obtain⟨cK,cL,t,ht,cM,ax⟩:=hl.eo i;have hc_15_lt:=ax.lt;replace ax:=ax.ext K0;refine jG ?_;refine jR<|jA ?_;intro cN cO an a4 aX;have cP:=Aj a0.lt an;have cQ:=Aj ax.lt an;have bC:=Ak hA.own_lt an;have:=Nat.le_trans K0.size an;clear an;refine jG ?_;refine jR<|jS a4 ?_;intro cR a4 aY;have htl:(ts.take i).length=i:=by rw[List.length_take];omega
   refine jG ?_;refine Al.drawS [] [0,1001,2002,3,4,5,6,7,8,1009,2010,11] ?_;intro cS ay;replace a4:=a4.ext ay;refine jM (jb a4 Jn) ?_;refine jG ?_;refine jU rfl<|jC (PA ((t).node) _) ?_;rintro _ cT ⟨rfl,az⟩;replace a4:=a4.ext az;refine jG ?_;refine jQ ?_ (hx:=by exact fun _ hg=>(EN (m':=(ts.take i).length) (BL underlying32 ty53 (Bh hg) (Bh hg) Zo) Zt));refine jG ?_;replace K0:=(((K0.ext aX).n1 aY).ext ay).ext az;refine jZ (fun hg=>(ST _ (ts.take i) _ ((t).node) _ ((hl.ext K0).take i) Zo)) ?_;intro cU aA;replace a4:=a4.ext aA;refine jG ?_;refine jP ?_ (hx:=by exact fun _=>(Ba rfl rfl rfl));refine jG ?_;replace a0:=((((a0.ext aX).kp aY).ext ay).ext az).ext aA;replace hA:=((((hA.ext aX).keepO aY (Aa bC)).ext ay).ext az).ext aA;replace K0:=K0.ext aA;refine jF ?_ ?_
   ·intro hc62
    refine jG ?_;refine jK func69 ?_;rw[←hE,L9 (M7 ht (fun h_=>hc62.elim (fun h2=>h2 h_.1) (fun h2=>by obtain⟨y,hy,he⟩:=List.any_eq_true.1 h2;exact h_.2 y hy (of_decide_eq_true he))))];exact⟨_,rfl,.inl ⟨by decide,rfl,K0⟩⟩
   ·intro hc62
    refine jG ?_;refine jV (Ay (c:=((i+1:Nat):Int)) (Aq rfl rfl Zo Zo) rfl) ?_;refine jG ?_;refine ih1 (i+1) _ _ ?_ Zo;refine⟨⟨rfl,rfl,rfl,rfl,rfl,rfl,rfl,rfl,rfl,trivial⟩,K0,a0,hA,?_,?_⟩
    ·omega
    ·exact Jt hto ht hc62.1 (fun x hx e_=>by have h_:=hc62.2;rw[List.any_eq_false]at h_;exact h_ x hx (decide_eq_true e_))
  ·intro hc47
   refine jG ?_;refine Al.drawT [] (m:=16) Zk rfl ?_;intro cV aZ;refine⟨fun w'=>AI w' aw [.int .i64 id,.int .i64 knd,.string key,.string item,.int .i64 qty,.int .u64 price,.slice sa.ea va.ent.length sa.ec,.slice sa.ma va.mrk.length sa.mc,.slice sa.ca va.cl.length sa.cc] 31∧True,?_⟩;replace a0:=a0.ext aZ;refine RT.takeP 0 rfl Zk (.inr ⟨a0,trivial⟩) (fun _=>(BD rfl)) ?_;refine RT.takeP 1 rfl Zk (.inr ⟨a0,trivial⟩) (fun _=>(BD rfl)) ?_;refine RT.takeP 2 rfl Zk (.inr ⟨a0,trivial⟩) (fun _=>(BD rfl)) ?_;refine RT.takeP 3 rfl Zk (.inr ⟨a0,trivial⟩) (fun _=>(BD rfl)) ?_;refine RT.take 4 rfl Zk ⟨a0,trivial⟩ (by rintro _ ⟨a0,-⟩;exact(Fu ty31 rfl rfl (a0.cl.drop 0 9))) ?_;refine RT.takeP 5 rfl Zk (.inr ⟨a0,trivial⟩) (fun _=>(DF rfl)) ?_;refine RT.takeP 6 rfl Zk (.inr ⟨a0,trivial⟩) (fun _=>(BD rfl)) ?_;refine RT.takeP 8 rfl Zk (.inr ⟨a0,trivial⟩) (fun _=>(BD rfl)) ?_;refine RT.takeP 10 rfl Zk (.inr ⟨a0,trivial⟩) (fun _=>(BD rfl)) ?_;replace hA:=hA.ext aZ;replace K0:=K0.ext aZ;refine RT.fork3 7 9 11 Zk ?_ ?_ ?_
   ·refine BH.st rfl<|AD.makeN (c:=ts.length) false underlying115 ty4 rfl rfl rfl Zd Zo ?_
    intro aB cW bi a1 b0;have bj:=Az K0.size (Av bi);clear bi;replace a0:=a0.ext b0;refine⟨.inr ⟨a0,trivial⟩,?_⟩;replace hA:=hA.ext b0;replace K0:=K0.ext b0;refine RT.fork2 9 11 Zk ?_ ?_
    ·refine BH.st rfl<|AD.makeN (c:=ts.length) false underlying115 ty4 rfl rfl rfl Zd Zo ?_
     intro bk cX b4 a5 aC;have bD:=Ab (Av b4) a1.own_lt;have bE:=Az K0.size (Av b4);clear b4;replace a0:=a0.ext aC;refine⟨.inr ⟨a0,trivial⟩,?_⟩;refine RT.st 11 rfl Zk rfl<|AD.makeN (c:=ts.length) (Mg.k ⟨nilV,nilS⟩) underlying40 ty29 rfl rfl rfl Zd Zo ?_;intro bl cY aD aE ao;replace a1:=a1.ext aC;have bF:=Ab (Av aD) a1.own_lt;have bG:=Ab (Av aD) a5.own_lt;replace K0:=K0.ext aC;have bH:=Az K0.size (Av aD);clear aD;replace a0:=a0.ext ao;refine⟨.inr ⟨a0,trivial⟩,?_⟩;refine RT.takeP 12 rfl Zk (.inr ⟨a0,trivial⟩) (fun _=>(Ar (cells:=#[.int .i64 self,.int .i64 req,.int .i64 nd,.int .i64 now,.bool false,.int .i64 id,.int .i64 knd,.string key,.string item,.int .i64 qty,.int .u64 price,.slice sa.ea va.ent.length sa.ec,.slice sa.ma va.mrk.length sa.mc,.slice sa.ca va.cl.length sa.cc,.slice none 0 0,.slice none 0 0,.slice none 0 0,.slice al ts.length lc,.slice (some ⟨aB,0,none⟩) ts.length ts.length,.slice (some ⟨bk,0,none⟩) ts.length ts.length,.slice (some ⟨bl,0,none⟩) ts.length ts.length,.slice none 0 0,.int .i64 0,.int .i64 0,.bool false,.bool false,.bool false,.bool false]) Zk)) ?_;refine RT.st 13 rfl Zk rfl<|jB ?_;intro bI cZ ab bJ ac;have d0:=Aj a0.lt ab;replace a1:=a1.ext ao;have bK:=Ak a1.own_lt ab;replace a5:=a5.ext ao;have bL:=Ak a5.own_lt ab;have bM:=Ak aE.own_lt ab;replace K0:=K0.ext ao;have:=Nat.le_trans K0.size ab;clear ab;replace a0:=a0.ext ac;refine⟨.inr ⟨a0,trivial⟩,?_⟩;refine RT.takeP 14 rfl Zk (.inr ⟨a0,trivial⟩) (fun _=>(Cx rfl)) ?_;refine RT.takeP 15 rfl Zk (.inr ⟨a0,trivial⟩) (fun _=>(Bp rfl)) ?_;refine RT.done Zk ?_;refine jK func69 ?_;rw[←hE,Fe hnb (by rw[←(show i=ts.length by omega)];exact hto)];replace hA:=((hA.ext aC).ext ao).ext ac;replace a1:=a1.ext ac;replace a5:=a5.ext ac;replace aE:=aE.ext ac;replace K0:=K0.ext ac;exact⟨_,rfl,.inr ⟨rfl,bI,aB,bk,bl,rfl,bJ,a1,a5,aE,bK,bL,bM,(Zf bD),(Zf bF),(Zf bG),bj,bE,bH,by omega,K0⟩⟩
    ·refine BH.st rfl<|AD.makeN (c:=ts.length) (Mg.k ⟨nilV,nilS⟩) underlying40 ty29 rfl rfl rfl Zd Zo ?_
     intro bm d1 b5 a6 aF;have bN:=Ab (Av b5) a1.own_lt;have bO:=Az K0.size (Av b5);clear b5;replace a0:=a0.ext aF;refine⟨.inr ⟨a0,trivial⟩,?_⟩;refine RT.st 9 rfl Zk rfl<|AD.makeN (c:=ts.length) false underlying115 ty4 rfl rfl rfl Zd Zo ?_;intro bn d2 aG aH ap;replace a1:=a1.ext aF;have bP:=Ab (Av aG) a1.own_lt;have bQ:=Ab (Av aG) a6.own_lt;replace K0:=K0.ext aF;have bR:=Az K0.size (Av aG);clear aG;replace a0:=a0.ext ap;refine⟨.inr ⟨a0,trivial⟩,?_⟩;refine RT.takeP 12 rfl Zk (.inr ⟨a0,trivial⟩) (fun _=>(Ar (cells:=#[.int .i64 self,.int .i64 req,.int .i64 nd,.int .i64 now,.bool false,.int .i64 id,.int .i64 knd,.string key,.string item,.int .i64 qty,.int .u64 price,.slice sa.ea va.ent.length sa.ec,.slice sa.ma va.mrk.length sa.mc,.slice sa.ca va.cl.length sa.cc,.slice none 0 0,.slice none 0 0,.slice none 0 0,.slice al ts.length lc,.slice (some ⟨aB,0,none⟩) ts.length ts.length,.slice (some ⟨bn,0,none⟩) ts.length ts.length,.slice (some ⟨bm,0,none⟩) ts.length ts.length,.slice none 0 0,.int .i64 0,.int .i64 0,.bool false,.bool false,.bool false,.bool false]) Zk)) ?_;refine RT.st 13 rfl Zk rfl<|jB ?_;intro bS d3 ad bT ae;have d4:=Aj a0.lt ad;replace a1:=a1.ext ap;have bU:=Ak a1.own_lt ad;replace a6:=a6.ext ap;have bV:=Ak a6.own_lt ad;have bW:=Ak aH.own_lt ad;replace K0:=K0.ext ap;have:=Nat.le_trans K0.size ad;clear ad;replace a0:=a0.ext ae;refine⟨.inr ⟨a0,trivial⟩,?_⟩;refine RT.takeP 14 rfl Zk (.inr ⟨a0,trivial⟩) (fun _=>(Cx rfl)) ?_;refine RT.takeP 15 rfl Zk (.inr ⟨a0,trivial⟩) (fun _=>(Bp rfl)) ?_;refine RT.done Zk ?_;refine jK func69 ?_;rw[←hE,Fe hnb (by rw[←(show i=ts.length by omega)];exact hto)];replace hA:=((hA.ext aF).ext ap).ext ae;replace a1:=a1.ext ae;replace a6:=a6.ext ae;replace aH:=aH.ext ae;replace K0:=K0.ext ae;exact⟨_,rfl,.inr ⟨rfl,bS,aB,bn,bm,rfl,bT,a1,aH,a6,bU,bW,bV,(Zf bP),(Zf bN),bQ,bj,bR,bO,by omega,K0⟩⟩
   ·refine BH.st rfl<|AD.makeN (c:=ts.length) false underlying115 ty4 rfl rfl rfl Zd Zo ?_
    intro aI d5 bo a2 b6;have bp:=Az K0.size (Av bo);clear bo;replace a0:=a0.ext b6;refine⟨.inr ⟨a0,trivial⟩,?_⟩;replace hA:=hA.ext b6;replace K0:=K0.ext b6;refine RT.fork2 7 11 Zk ?_ ?_
    ·refine BH.st rfl<|AD.makeN (c:=ts.length) false underlying115 ty4 rfl rfl rfl Zd Zo ?_
     intro bq d6 b7 a7 aJ;have bX:=Ab (Av b7) a2.own_lt;have bY:=Az K0.size (Av b7);clear b7;replace a0:=a0.ext aJ;refine⟨.inr ⟨a0,trivial⟩,?_⟩;refine RT.st 11 rfl Zk rfl<|AD.makeN (c:=ts.length) (Mg.k ⟨nilV,nilS⟩) underlying40 ty29 rfl rfl rfl Zd Zo ?_;intro bs d7 aK aL aq;replace a2:=a2.ext aJ;have bZ:=Ab (Av aK) a2.own_lt;have c0:=Ab (Av aK) a7.own_lt;replace K0:=K0.ext aJ;have c1:=Az K0.size (Av aK);clear aK;replace a0:=a0.ext aq;refine⟨.inr ⟨a0,trivial⟩,?_⟩;refine RT.takeP 12 rfl Zk (.inr ⟨a0,trivial⟩) (fun _=>(Ar (cells:=#[.int .i64 self,.int .i64 req,.int .i64 nd,.int .i64 now,.bool false,.int .i64 id,.int .i64 knd,.string key,.string item,.int .i64 qty,.int .u64 price,.slice sa.ea va.ent.length sa.ec,.slice sa.ma va.mrk.length sa.mc,.slice sa.ca va.cl.length sa.cc,.slice none 0 0,.slice none 0 0,.slice none 0 0,.slice al ts.length lc,.slice (some ⟨bq,0,none⟩) ts.length ts.length,.slice (some ⟨aI,0,none⟩) ts.length ts.length,.slice (some ⟨bs,0,none⟩) ts.length ts.length,.slice none 0 0,.int .i64 0,.int .i64 0,.bool false,.bool false,.bool false,.bool false]) Zk)) ?_;refine RT.st 13 rfl Zk rfl<|jB ?_;intro c2 d8 af c4 ag;have d9:=Aj a0.lt af;replace a2:=a2.ext aq;have c5:=Ak a2.own_lt af;replace a7:=a7.ext aq;have c6:=Ak a7.own_lt af;have c7:=Ak aL.own_lt af;replace K0:=K0.ext aq;have:=Nat.le_trans K0.size af;clear af;replace a0:=a0.ext ag;refine⟨.inr ⟨a0,trivial⟩,?_⟩;refine RT.takeP 14 rfl Zk (.inr ⟨a0,trivial⟩) (fun _=>(Cx rfl)) ?_;refine RT.takeP 15 rfl Zk (.inr ⟨a0,trivial⟩) (fun _=>(Bp rfl)) ?_;refine RT.done Zk ?_;refine jK func69 ?_;rw[←hE,Fe hnb (by rw[←(show i=ts.length by omega)];exact hto)];replace hA:=((hA.ext aJ).ext aq).ext ag;replace a2:=a2.ext ag;replace a7:=a7.ext ag;replace aL:=aL.ext ag;replace K0:=K0.ext ag;exact⟨_,rfl,.inr ⟨rfl,c2,bq,aI,bs,rfl,c4,a7,a2,aL,c6,c5,c7,bX,(Zf c0),(Zf bZ),bY,bp,c1,by omega,K0⟩⟩
    ·refine BH.st rfl<|AD.makeN (c:=ts.length) (Mg.k ⟨nilV,nilS⟩) underlying40 ty29 rfl rfl rfl Zd Zo ?_
     intro bt da b8 a8 aM;have c8:=Ab (Av b8) a2.own_lt;have c9:=Az K0.size (Av b8);clear b8;replace a0:=a0.ext aM;refine⟨.inr ⟨a0,trivial⟩,?_⟩;refine RT.st 7 rfl Zk rfl<|AD.makeN (c:=ts.length) false underlying115 ty4 rfl rfl rfl Zd Zo ?_;intro bu db aN aO ar;replace a2:=a2.ext aM;have cb:=Ab (Av aN) a2.own_lt;have cd:=Ab (Av aN) a8.own_lt;replace K0:=K0.ext aM;have ce:=Az K0.size (Av aN);clear aN;replace a0:=a0.ext ar;refine⟨.inr ⟨a0,trivial⟩,?_⟩;refine RT.takeP 12 rfl Zk (.inr ⟨a0,trivial⟩) (fun _=>(Ar (cells:=#[.int .i64 self,.int .i64 req,.int .i64 nd,.int .i64 now,.bool false,.int .i64 id,.int .i64 knd,.string key,.string item,.int .i64 qty,.int .u64 price,.slice sa.ea va.ent.length sa.ec,.slice sa.ma va.mrk.length sa.mc,.slice sa.ca va.cl.length sa.cc,.slice none 0 0,.slice none 0 0,.slice none 0 0,.slice al ts.length lc,.slice (some ⟨bu,0,none⟩) ts.length ts.length,.slice (some ⟨aI,0,none⟩) ts.length ts.length,.slice (some ⟨bt,0,none⟩) ts.length ts.length,.slice none 0 0,.int .i64 0,.int .i64 0,.bool false,.bool false,.bool false,.bool false]) Zk)) ?_;refine RT.st 13 rfl Zk rfl<|jB ?_;intro cf dc ah cg ai;have dd:=Aj a0.lt ah;replace a2:=a2.ext ar;have ch:=Ak a2.own_lt ah;replace a8:=a8.ext ar;have ci:=Ak a8.own_lt ah;have cj:=Ak aO.own_lt ah;replace K0:=K0.ext ar;have:=Nat.le_trans K0.size ah;clear ah;replace a0:=a0.ext ai;refine⟨.inr ⟨a0,trivial⟩,?_⟩;refine RT.takeP 14 rfl Zk (.inr ⟨a0,trivial⟩) (fun _=>(Cx rfl)) ?_;refine RT.takeP 15 rfl Zk (.inr ⟨a0,trivial⟩) (fun _=>(Bp rfl)) ?_;refine RT.done Zk ?_;refine jK func69 ?_;rw[←hE,Fe hnb (by rw[←(show i=ts.length by omega)];exact hto)];replace hA:=((hA.ext aM).ext ar).ext ai;replace a2:=a2.ext ai;replace a8:=a8.ext ai;replace aO:=aO.ext ai;replace K0:=K0.ext ai;exact⟨_,rfl,.inr ⟨rfl,cf,bu,aI,bt,rfl,cg,aO,a2,a8,cj,ch,ci,cb,cd,(Zf c8),ce,bp,c9,by omega,K0⟩⟩
   ·refine BH.st rfl<|AD.makeN (c:=ts.length) (Mg.k ⟨nilV,nilS⟩) underlying40 ty29 rfl rfl rfl Zd Zo ?_
    intro aP de bv a3 b9;have bw:=Az K0.size (Av bv);clear bv;replace a0:=a0.ext b9;refine⟨.inr ⟨a0,trivial⟩,?_⟩;replace hA:=hA.ext b9;replace K0:=K0.ext b9;refine RT.fork2 7 9 Zk ?_ ?_
    ·refine BH.st rfl<|AD.makeN (c:=ts.length) false underlying115 ty4 rfl rfl rfl Zd Zo ?_
     intro bx df ba a9 aQ;have ck:=Ab (Av ba) a3.own_lt;have cm:=Az K0.size (Av ba);clear ba;replace a0:=a0.ext aQ;refine⟨.inr ⟨a0,trivial⟩,?_⟩;refine RT.st 9 rfl Zk rfl<|AD.makeN (c:=ts.length) false underlying115 ty4 rfl rfl rfl Zd Zo ?_;intro bz dg aR aS au;replace a3:=a3.ext aQ;have cn:=Ab (Av aR) a3.own_lt;have co:=Ab (Av aR) a9.own_lt;replace K0:=K0.ext aQ;have cp:=Az K0.size (Av aR);clear aR;replace a0:=a0.ext au;refine⟨.inr ⟨a0,trivial⟩,?_⟩;refine RT.takeP 12 rfl Zk (.inr ⟨a0,trivial⟩) (fun _=>(Ar (cells:=#[.int .i64 self,.int .i64 req,.int .i64 nd,.int .i64 now,.bool false,.int .i64 id,.int .i64 knd,.string key,.string item,.int .i64 qty,.int .u64 price,.slice sa.ea va.ent.length sa.ec,.slice sa.ma va.mrk.length sa.mc,.slice sa.ca va.cl.length sa.cc,.slice none 0 0,.slice none 0 0,.slice none 0 0,.slice al ts.length lc,.slice (some ⟨bx,0,none⟩) ts.length ts.length,.slice (some ⟨bz,0,none⟩) ts.length ts.length,.slice (some ⟨aP,0,none⟩) ts.length ts.length,.slice none 0 0,.int .i64 0,.int .i64 0,.bool false,.bool false,.bool false,.bool false]) Zk)) ?_;refine RT.st 13 rfl Zk rfl<|jB ?_;intro cq dh aj cr ak;have di:=Aj a0.lt aj;replace a3:=a3.ext au;have ct:=Ak a3.own_lt aj;replace a9:=a9.ext au;have cu:=Ak a9.own_lt aj;have cv:=Ak aS.own_lt aj;replace K0:=K0.ext au;have:=Nat.le_trans K0.size aj;clear aj;replace a0:=a0.ext ak;refine⟨.inr ⟨a0,trivial⟩,?_⟩;refine RT.takeP 14 rfl Zk (.inr ⟨a0,trivial⟩) (fun _=>(Cx rfl)) ?_;refine RT.takeP 15 rfl Zk (.inr ⟨a0,trivial⟩) (fun _=>(Bp rfl)) ?_;refine RT.done Zk ?_;refine jK func69 ?_;rw[←hE,Fe hnb (by rw[←(show i=ts.length by omega)];exact hto)];replace hA:=((hA.ext aQ).ext au).ext ak;replace a3:=a3.ext ak;replace a9:=a9.ext ak;replace aS:=aS.ext ak;replace K0:=K0.ext ak;exact⟨_,rfl,.inr ⟨rfl,cq,bx,bz,aP,rfl,cr,a9,aS,a3,cu,cv,ct,(Zf co),ck,cn,cm,cp,bw,by omega,K0⟩⟩
    ·refine BH.st rfl<|AD.makeN (c:=ts.length) false underlying115 ty4 rfl rfl rfl Zd Zo ?_
     intro bA dj bb aa bc;have cw:=Ab (Av bb) a3.own_lt;have cx:=Az K0.size (Av bb);clear bb;replace a0:=a0.ext bc;refine⟨.inr ⟨a0,trivial⟩,?_⟩;refine RT.st 7 rfl Zk rfl<|AD.makeN (c:=ts.length) false underlying115 ty4 rfl rfl rfl Zd Zo ?_;intro bB dk aT aU aV;replace a3:=a3.ext bc;have cy:=Ab (Av aT) a3.own_lt;have cz:=Ab (Av aT) aa.own_lt;replace K0:=K0.ext bc;have cA:=Az K0.size (Av aT);clear aT;replace a0:=a0.ext aV;refine⟨.inr ⟨a0,trivial⟩,?_⟩;refine RT.takeP 12 rfl Zk (.inr ⟨a0,trivial⟩) (fun _=>(Ar (cells:=#[.int .i64 self,.int .i64 req,.int .i64 nd,.int .i64 now,.bool false,.int .i64 id,.int .i64 knd,.string key,.string item,.int .i64 qty,.int .u64 price,.slice sa.ea va.ent.length sa.ec,.slice sa.ma va.mrk.length sa.mc,.slice sa.ca va.cl.length sa.cc,.slice none 0 0,.slice none 0 0,.slice none 0 0,.slice al ts.length lc,.slice (some ⟨bB,0,none⟩) ts.length ts.length,.slice (some ⟨bA,0,none⟩) ts.length ts.length,.slice (some ⟨aP,0,none⟩) ts.length ts.length,.slice none 0 0,.int .i64 0,.int .i64 0,.bool false,.bool false,.bool false,.bool false]) Zk)) ?_;refine RT.st 13 rfl Zk rfl<|jB ?_;intro cB dl am cC av;have dm:=Aj a0.lt am;replace a3:=a3.ext aV;have cD:=Ak a3.own_lt am;replace aa:=aa.ext aV;have cE:=Ak aa.own_lt am;have cF:=Ak aU.own_lt am;replace K0:=K0.ext aV;have:=Nat.le_trans K0.size am;clear am;replace a0:=a0.ext av;refine⟨.inr ⟨a0,trivial⟩,?_⟩;refine RT.takeP 14 rfl Zk (.inr ⟨a0,trivial⟩) (fun _=>(Cx rfl)) ?_;refine RT.takeP 15 rfl Zk (.inr ⟨a0,trivial⟩) (fun _=>(Bp rfl)) ?_;refine RT.done Zk ?_;refine jK func69 ?_;rw[←hE,Fe hnb (by rw[←(show i=ts.length by omega)];exact hto)];replace a3:=a3.ext av;replace aa:=aa.ext av;replace aU:=aU.ext av;replace K0:=K0.ext av;exact⟨_,rfl,.inr ⟨rfl,cB,bB,bA,aP,rfl,cC,aU,aa,a3,cF,cE,cD,cz,cy,cw,cA,cx,bw,by omega,K0⟩⟩
end Go.Proofs.YtocgdeefgohdhaaGreat
namespace Go.Proofs.YtocgdeefgohdhaaGreat
open Go.Proofs.Tryz
attribute [local irreducible] RD RS AD RL RA RT BH Al
section
variable {self req need began e:Int}{l:List Au}
theorem Ef (h:GM self req need began l=0):¬C1 self req need began∧Eu l l.length:=by
 by_cases h1:C1 self req need began
 ·rw[L8 h1]at h;omega
 by_cases h2:Eu l l.length
 ·exact⟨h1,h2⟩
 ·rw[L9 h2]at h;omega
theorem Lf (h:GM self req need began l≠0):CA self req need began l e=GM self req need began l:=by
 by_cases h1:C1 self req need began
 ·rw[L8 h1,L4 h1]
 by_cases h2:Eu l l.length
 ·exact absurd (Fe h1 h2) h
 ·rw[L9 h2,L5 h1 h2]
end
abbrev Qe (R0:Rq)(n b1 b2 b3:Nat):Rq:={R0 with aa:=(some ⟨b1,0,none⟩:Option Addr),ac:=n,ans:=List.replicate n false,ha:=(some ⟨b2,0,none⟩:Option Addr),hc:=n,there:=List.replicate n false,ca:=(some ⟨b3,0,none⟩:Option Addr),cc:=n,carts:=List.replicate n ⟨nilV,nilS⟩,oa:=none,oc:=0,order:=[]}
theorem D9.mk0 {w:World}{x n b1 b2 b3:Nat}(R0:Rq)(hb:AI w x [.int .i64 R0.self,.int .i64 R0.req,.int .i64 R0.need,.int .i64 R0.begun,.bool R0.put,.int .i64 R0.id,.int .i64 R0.knd,.string R0.key,.string R0.item,.int .i64 R0.qty,.int .u64 R0.price,.slice R0.ss.ea R0.seen.ent.length R0.ss.ec,.slice R0.ss.ma R0.seen.mrk.length R0.ss.mc,.slice R0.ss.ca R0.seen.cl.length R0.ss.cc,.slice R0.cs.ea R0.cart.ent.length R0.cs.ec,.slice R0.cs.ma R0.cart.mrk.length R0.cs.mc,.slice R0.cs.ca R0.cart.cl.length R0.cs.cc,.slice R0.la R0.l.length R0.lc,.slice (some ⟨b1,0,none⟩:Option Addr) n n,.slice (some ⟨b2,0,none⟩:Option Addr) n n,.slice (some ⟨b3,0,none⟩:Option Addr) n n,.slice none 0 0,.int .i64 R0.kept,.int .i64 R0.refused,.bool R0.full,.bool R0.told,.bool R0.ok,.bool R0.done] 118)(h1:Ag w 4 (some ⟨b1,0,none⟩:Option Addr) n (List.replicate n false))(h2:Ag w 4 (some ⟨b2,0,none⟩:Option Addr) n (List.replicate n false))(h3:Ag w 29 (some ⟨b3,0,none⟩:Option Addr) n (List.replicate n (Mg.k ⟨nilV,nilS⟩)))
  (n1:¬own (some ⟨b1,0,none⟩:Option Addr) x) (n2:¬own (some ⟨b2,0,none⟩:Option Addr) x) (n3:¬own (some ⟨b3,0,none⟩:Option Addr) x) (p1:∀q,own (some ⟨b1,0,none⟩:Option Addr) q→¬own (some ⟨b2,0,none⟩:Option Addr) q) (p2:∀q,own (some ⟨b1,0,none⟩:Option Addr) q→¬own (some ⟨b3,0,none⟩:Option Addr) q) (p3:∀q,own (some ⟨b2,0,none⟩:Option Addr) q→¬own (some ⟨b3,0,none⟩:Option Addr) q):D9 w x (Qe R0 n b1 b2 b3) where
 blk:=by simpa[Rq.cells,List.length_replicate]using hb
 ans:=h1
 there:=h2
 carts:=by simpa[List.map_replicate]using h3
 order:=Ag.nil _ _
 na:=n1
 nh:=n2
 nc:=n3
 no:=Ad _
 ah:=p1
 ac:=p2
 ao:=fun q _=>Ad q
 hc:=p3
 ho:=fun q _=>Ad q
 co:=fun q _=>Ad q
theorem M9 {x n b1 b2 b3:Nat}{R0:Rq}:∀q,AW x (Qe R0 n b1 b2 b3) q→q=x∨own (some ⟨b1,0,none⟩:Option Addr) q∨own (some ⟨b2,0,none⟩:Option Addr) q∨own (some ⟨b3,0,none⟩:Option Addr) q:=by
 rintro q (h|h|h|h|h)
 ·exact .inl h
 ·exact .inr (.inl h)
 ·exact .inr (.inr (.inl h))
 ·exact .inr (.inr (.inr h))
 ·exact absurd h (Ad _)
theorem PB {w:World}{n b1 b2 b3:Nat}{R0:Rq}(h1:At w R0.la R0.l)(h2:AE w R0.ss R0.seen)(h3:AE w R0.cs R0.cart)(h4:R0.l.length≤R0.lc)(h5:AV R0.seen R0.ss)(h6:AV R0.cart R0.cs):Ju w (Qe R0 n b1 b2 b3):=
 ⟨h1,h2,h3,fun m hm=>by rw[List.eq_of_mem_replicate hm];exact nil_R.cart,h4,h5,h6,fun m hm=>by rw[List.eq_of_mem_replicate hm];exact⟨nil_ok,fun _ h=>absurd h (by simp[nilV]),Nat.le_refl _⟩⟩
theorem PC {b1 b2 b3:Nat}{R0:Rq}(h1:1≤R0.need∧R0.need≤5)(h2:R0.l.length≤1048576)(h3:R0.kept=0)(h4:R0.refused=0)(h5:0≤R0.begun∧R0.begun≤1099511627776):Hb (Qe R0 R0.l.length b1 b2 b3):=
 ⟨h1,h2,List.length_replicate,List.length_replicate,List.length_replicate,Nat.zero_le _,fun _ h=>absurd h Zs,by simp only[h3,h4];omega,h5⟩
attribute [local irreducible] X
theorem SU (self req nd now:Int)(id knd qty price:Int)(key item:ByteArray)(va:MV)(sa:A6)(al:Option Addr)(ts:List Au)(lc:Nat)(vc:MV)(sc:A6)(w0 w:World)(hK0:As w0 w)(hA0:AE w0 sa va)(hoa:AV va sa)(hl0:At w0 al ts)(hll:ts.length≤1048576)(hlc:ts.length≤lc)(hC0:AE w0 sc vc)(hoc:AV vc sc):
  Calls prog 30 #[.int .i64 self,.int .i64 req,.agg #[.int .i64 id,.int .i64 knd,.string key,.string item,.int .i64 qty,.int .u64 price,.slice sa.ea va.ent.length sa.ec,.slice sa.ma va.mrk.length sa.mc,.slice sa.ca va.cl.length sa.cc],.agg #[.slice sc.ea vc.ent.length sc.ec,.slice sc.ma vc.mrk.length sc.mc,.slice sc.ca vc.cl.length sc.cc],.slice al ts.length lc,.int .i64 nd,.int .i64 now] w (AU (fun r w'=>((CA self req nd now ts (Bk vc.mrk vc.cl vc.ent))≠0∧r= .tuple #[.pointer none,.slice none 0 0,.int .i64 (CA self req nd now ts (Bk vc.mrk vc.cl vc.ent))]∧As w w')∨((CA self req nd now ts (Bk vc.mrk vc.cl vc.ent))=0∧∃x F a c,r= .tuple #[jp x,.slice a (ts.map (fun t=>An (Ap 1 self t.node req key t.owner vc) sc.only)).length c,.int .i64 0]∧C3 w0 w' x F (⟨self,req,nd,now,true,id,key,va,vc,ts,List.replicate ts.length false,List.replicate ts.length false,(List.replicate ts.length (⟨nilV,nilS⟩:Mg)).map Mg.v,[],0,0,false,false,false,false⟩:RM)∧Ag w' 48 a c (ts.map (fun t=>An (Ap 1 self t.node req key t.owner vc) sc.only))∧(∀q,F q→w.heap.size≤q)∧(∀q,own a q→w.heap.size≤q)∧(∀q,F q→¬own a q)∧As w w'))):=by
 have hA:=hA0.ext hK0;have hl:=hl0.ext hK0;obtain⟨ha1,ha2,ha3,-,-,-⟩:=hoa.ok;have hC:=hC0.ext hK0;obtain⟨hc1,hc2,hc3,-,-,-⟩:=hoc.ok;refine Af (n:=74) func30 rfl rfl rfl ?_;refine jG ?_;refine jR<|jB ?_;intro ao bp aI a1 ax;have:w.heap.size≤ao:=aI;clear aI;have K0:=(ax:As w _);refine jR<|jB ?_;intro aq bq ay a0 au;have bs:=Aj a1.lt ay;have:=Nat.le_trans K0.size ay;clear ay;replace a1:=a1.ext au;refine jG ?_;replace hA:=(hA.ext ax).ext au;replace K0:=K0.ext au;refine jR<|jC (M8 self req nd now id knd qty price key item va sa al ts lc (GM self req nd now ts) _ rfl hA (hl.ext K0) hll hlc) ?_;replace hC:=(hC.ext ax).ext au;rintro _ bt (⟨ap,rfl,a8⟩|⟨ap,a3,ah,ai,aj,rfl,a2,a4,a5,a6,az,aA,aB,aT,aU,aV,aC,aJ,aK,av,a8⟩)
 ·replace hA:=hA.ext a8
  refine jG ?_;replace hC:=hC.ext a8;replace a1:=a1.ext a8;replace a0:=a0.ext a8;replace K0:=K0.ext a8;refine jF ?_ ?_
  ·intro hc34
   refine jG ?_;refine Al.ret3 (v:= .pointer none) (x:= .slice none 0 0) (y:= .int .i64 (GM self req nd now ts)) func30 rfl rfl rfl rfl ?_;rw[Lf ap];exact⟨_,rfl,.inl ⟨ap,rfl,K0⟩⟩
  ·intro hc34
   exact absurd hc34 ap
 ·have bu:=Ab aC hA.own_lt
  have aW:=Az K0.size aC;have aX:=Az K0.size aJ;have aY:=Az K0.size aK;have aL:¬AP sa va a3:=fun h_=>absurd (hA.own_lt _ h_) Zo;have aM:¬AP sc vc a3:=fun h_=>absurd (hC.own_lt _ h_) Zo;have bv:ao<a3:=Nat.lt_of_lt_of_le a1.lt av;have bw:aq<a3:=Nat.lt_of_lt_of_le a0.lt av;have:w.heap.size≤a3:=Nat.le_trans K0.size av;clear aC aJ aK av;refine jG ?_;refine Al.condF rfl ?_;replace a0:=a0.ext a8;refine jG ?_;replace hC:=hC.ext a8;refine jR<|jC (KV sc.ma vc.mrk sc.mc sc.ca vc.cl sc.cc sc.ea vc.ent sc.ec _ hoc.cap (hC).mrk (hC).cl (hC).ent Zo Zo Zo hoc.ent) ?_;rintro _ bx ⟨rfl,ad⟩;refine jG ?_;replace hA:=(hA.ext a8).ext ad;replace a1:=(a1.ext a8).ext ad;replace K0:=(K0.ext a8).ext ad;replace hC:=hC.ext ad;replace a0:=a0.ext ad;replace a4:=a4.ext ad;replace a5:=a5.ext ad;replace a6:=a6.ext ad;replace a2:=a2.ext ad;refine jF ?_ ?_
  ·intro hc39
   refine jG ?_;refine Al.ret3 (v:= .pointer none) (x:= .slice none 0 0) (y:= .int .i64 (Bk vc.mrk vc.cl vc.ent)) func30 rfl rfl rfl rfl ?_;obtain⟨hz1,hz2⟩:=Ef ap;rw[J4 hz1 hz2 hc39];exact⟨_,rfl,.inl ⟨hc39,rfl,K0⟩⟩
  ·intro hc39
   refine jG ?_;refine jF ?_ ?_
   ·intro hc44
    refine jG ?_;refine Al.ret3 (v:= .pointer none) (x:= .slice none 0 0) (y:= .int .i64 7) func30 rfl rfl rfl rfl ?_;obtain⟨hz1,hz2⟩:=Ef ap;rw[J5 hz1 hz2 hc39 Zo];exact⟨_,rfl,.inl ⟨by decide,rfl,K0⟩⟩
   ·intro hc44
    refine jG ?_;refine Al.drawS [8] [0,1,1002,3,4,2005,6,7,2008] ?_;intro bz ae;replace a0:=a0.ext ae;refine jM (jb a0 Jn) ?_;refine jG ?_;replace a2:=a2.ext ae;refine jU rfl<|jS a2 ?_;intro bA a2 ak;replace a0:=a0.kp ak;refine jG ?_;refine jU rfl<|jS a2 ?_;intro aZ a2 an;refine jG ?_;replace hA:=((hA.ext ae).keepO ak (Aa aL)).keepO an (Aa aL);replace hC:=((hC.ext ae).keepO ak (Aa aM)).keepO an (Aa aM);replace a1:=((a1.ext ae).kp ak).kp an;replace a4:=((a4.ext ae).keepO ak (Aa az)).keepO an (Aa az);replace a5:=((a5.ext ae).keepO ak (Aa aA)).keepO an (Aa aA);replace a6:=((a6.ext ae).keepO ak (Aa aB)).keepO an (Aa aB);replace K0:=((K0.ext ae).n1 ak).n1 an;replace a0:=a0.kp an;refine Al.loop (ι:=Nat) (fun i ρ' w'=>∃am:Option Addr,∃cm:Nat,AG ρ' [(0,.int .i64 self),(1,.int .i64 req),(9,jp ao),(10,jp aq),(17,jp a3),(20,.slice am (((ts.take i).map (fun t=>An (Ap 1 self t.node req key t.owner vc) sc.only)).length) cm),(52,.slice al ts.length lc),(53,.int .i64 ((ts.length:Nat):Int)),(54,.int .i64 ((i:Nat):Int))]∧As w w'∧(AI w' ao [.int .i64 id,.int .i64 knd,.string key,.string item,.int .i64 qty,.int .u64 price,.slice sa.ea va.ent.length sa.ec,.slice sa.ma va.mrk.length sa.mc,.slice sa.ca va.cl.length sa.cc] 31)∧(AI w' aq [.slice sc.ea vc.ent.length sc.ec,.slice sc.ma vc.mrk.length sc.mc,.slice sc.ca vc.cl.length sc.cc] 29)∧(AI w' a3 [.int .i64 self,.int .i64 req,.int .i64 nd,.int .i64 now,.bool true,.int .i64 id,.int .i64 knd,.string key,.string item,.int .i64 qty,.int .u64 price,.slice sa.ea va.ent.length sa.ec,.slice sa.ma va.mrk.length sa.mc,.slice sa.ca va.cl.length sa.cc,.slice sc.ea vc.ent.length sc.ec,.slice sc.ma vc.mrk.length sc.mc,.slice sc.ca vc.cl.length sc.cc,.slice al ts.length lc,.slice (some ⟨ah,0,none⟩:Option Addr) ts.length ts.length,.slice (some ⟨ai,0,none⟩:Option Addr) ts.length ts.length,.slice (some ⟨aj,0,none⟩:Option Addr) ts.length ts.length,.slice none 0 0,.int .i64 0,.int .i64 0,.bool false,.bool false,.bool false,.bool false] 118)∧(AE w' sa va)∧(AE w' sc vc)∧(Ag w' 4 (some ⟨ah,0,none⟩:Option Addr) ts.length (List.replicate ts.length false))∧(Ag w' 4 (some ⟨ai,0,none⟩:Option Addr) ts.length (List.replicate ts.length false))∧(Ag w' 29 (some ⟨aj,0,none⟩:Option Addr) ts.length (List.replicate ts.length (Mg.k ⟨nilV,nilS⟩)))∧(Ag w' 48 am cm ((ts.take i).map (fun t=>An (Ap 1 self t.node req key t.owner vc) sc.only)))∧(¬own am ao)∧(¬own am aq)∧(¬own am a3)∧(∀q_,own am q_→¬AP sa va q_)∧(∀q_,own am q_→¬AP sc vc q_)∧(∀q_,own am q_→¬own (some ⟨ah,0,none⟩:Option Addr) q_)∧(∀q_,own am q_→¬own (some ⟨ai,0,none⟩:Option Addr) q_)∧(∀q_,own am q_→¬own (some ⟨aj,0,none⟩:Option Addr) q_)∧(∀q_,own am q_→w.heap.size≤q_)∧(i≤ts.length)) (fun i=>ts.length-i) 0 ?_ ?_
    ·rw[List.take_zero,List.map_nil]
     have b0:=Ag.nil (α:=Cd) aZ 48;refine⟨_,_,⟨rfl,rfl,rfl,rfl,rfl,rfl,rfl,rfl,rfl,trivial⟩,K0,a1,a0,a2,hA,hC,a4,a5,a6,b0,(Ad ao),(Ad aq),(Ad a3),(fun q_ h1 _=>Ad q_ h1),(fun q_ h1 _=>Ad q_ h1),(fun q_ h1 _=>Ad q_ h1),(fun q_ h1 _=>Ad q_ h1),(fun q_ h1 _=>Ad q_ h1),(fun q_ h1=>absurd h1 (Ad q_)),?_⟩
     ·omega
    clear hA hC a1 a0 a4 a5 a6 a2;clear K0;rintro i bB bC ⟨am,cm,aN,K0,a1,a0,a2,hA,hC,a4,a5,a6,ar,aO,aP,aD,aQ,aR,aE,aF,aG,aH,hi⟩ ih1;obtain⟨ρ₀,rfl⟩:=aN.ex;clear aN;refine jG ?_;refine jF ?_ ?_
    ·intro hc55
     obtain⟨bD,bE,t,ht,bF,aw⟩:=hl.eo i;have hc_81_lt:=aw.lt;replace aw:=aw.ext K0;refine jG ?_;refine jR<|jA ?_;intro bG bH a7 aS a9;have bI:=Aj a1.lt a7;have bJ:=Aj a0.lt a7;have bK:=Aj a2.lt a7;have bL:=Aj aw.lt a7;have b4:=Ak hA.own_lt a7;have b5:=Ak hC.own_lt a7;have b6:=Ak a4.own_lt a7;have b7:=Ak a5.own_lt a7;have b8:=Ak a6.own_lt a7;have b9:=Ak ar.own_lt a7;have:=Nat.le_trans K0.size a7;clear a7;refine jR<|jS aS ?_;intro bM aS aa;have htl:((ts.take i).map (fun t=>An (Ap 1 self t.node req key t.owner vc) sc.only)).length=i:=by rw[List.length_map,List.length_take];omega
     replace a1:=(a1.ext a9).kp aa;replace a0:=(a0.ext a9).kp aa;refine jG ?_;refine jV (Ar (cells:=#[.int .i64 1,.int .i64 self,.int .i64 ((t).node),.int .i64 req,.string key,.slice sc.ea vc.ent.length sc.ec,.slice sc.ma vc.mrk.length sc.mc,.slice sc.ca vc.cl.length sc.cc,.int .i64 ((t).owner),.int .i64 0,.int .i64 0,.int .i64 0,.int .i64 0,.int .i64 0,.slice none 0 0,.slice none 0 0,.slice none 0 0]) Zk) ?_;refine jR<|AD.buildSlice ([(An (Ap 1 self t.node req key t.owner vc) sc.only)]:List Cd) underlying57 ty48 rfl rfl Ze ?_;intro bN bO ba bb ab;clear ba;replace ar:=((ar.ext a9).keepO aa (Aa b9)).ext ab;refine jR<|AD.append (xs:=((ts.take i).map (fun t=>An (Ap 1 self t.node req key t.owner vc) sc.only))) (ys:=([(An (Ap 1 self t.node req key t.owner vc) sc.only)]:List Cd)) underlying57 ty48 rfl rfl rfl ar bb.sl Zr Zd ?_;intro af bP bQ bc ag ac be;replace a1:=a1.ext ab;have bg:¬own af ao:=ac.not aO a1.lt;replace a0:=a0.ext ab;have bh:¬own af aq:=ac.not aP a0.lt;replace a2:=((a2.ext a9).kp aa).ext ab;have bi:¬own af a3:=ac.not aD a2.lt;replace hA:=((hA.ext a9).keepO aa (Aa b4)).ext ab;have bj:∀q_,own af q_→¬AP sa va q_:=ac.apart aQ hA.own_lt;replace hC:=((hC.ext a9).keepO aa (Aa b5)).ext ab;have bk:∀q_,own af q_→¬AP sc vc q_:=ac.apart aR hC.own_lt;replace a4:=((a4.ext a9).keepO aa (Aa b6)).ext ab;have bl:∀q_,own af q_→¬own (some ⟨ah,0,none⟩:Option Addr) q_:=ac.apart aE a4.own_lt;replace a5:=((a5.ext a9).keepO aa (Aa b7)).ext ab;have bm:∀q_,own af q_→¬own (some ⟨ai,0,none⟩:Option Addr) q_:=ac.apart aF a5.own_lt;replace a6:=((a6.ext a9).keepO aa (Aa b8)).ext ab;have bn:∀q_,own af q_→¬own (some ⟨aj,0,none⟩:Option Addr) q_:=ac.apart aG a6.own_lt;replace K0:=((K0.ext a9).n1 aa).ext ab;have bo:∀q_,own af q_→w.heap.size≤q_:=ac.ge aH K0.size;clear ac;clear be;refine jG ?_;refine jV (Ay (c:=((i+1:Nat):Int)) (Aq rfl rfl Zo Zo) rfl) ?_;refine jG ?_;have e:=C2 (f:=fun t=>An (Ap 1 self t.node req key t.owner vc) sc.only) ht;refine ih1 (i+1) _ _ ?_ Zo;rw[e];replace a1:=a1.keep ag aO;replace a0:=a0.keep ag aP;replace a2:=a2.keep ag aD;replace hA:=hA.keepO ag (Zf aQ);replace hC:=hC.keepO ag (Zf aR);replace a4:=a4.keepO ag (Zf aE);replace a5:=a5.keepO ag (Zf aF);replace a6:=a6.keepO ag (Zf aG);replace K0:=K0.new ag aH;refine⟨_,_,⟨rfl,rfl,rfl,rfl,rfl,rfl,rfl,rfl,rfl,trivial⟩,K0,a1,a0,a2,hA,hC,a4,a5,a6,bc,bg,bh,bi,bj,bk,bl,bm,bn,bo,?_⟩
     ·omega
    ·intro hc55
     refine jG ?_;refine Al.ret3 (v:=jp a3) (x:= .slice am (((ts.take i).map (fun t=>An (Ap 1 self t.node req key t.owner vc) sc.only)).length) cm) (y:= .int .i64 0) func30 rfl rfl rfl rfl ?_;obtain⟨hz1,hz2⟩:=Ef ap;rw[J6 hz1 hz2 hc39 Zo];rw[List.take_of_length_le (show ts.length≤i by omega)]at ar⊢;have hQ:=D9.mk0 (n:=ts.length) (⟨self,req,nd,now,true,id,knd,key,item,qty,price,va,sa,vc,sc,al,lc,ts,none,0,[],none,0,[],none,0,[],none,0,[],0,0,false,false,false,false⟩:Rq) a2 a4 a5 a6 az aA aB aT aU aV;have hz4:=hz1;unfold C1 at hz4;have hI:Ju w0 (Qe (⟨self,req,nd,now,true,id,knd,key,item,qty,price,va,sa,vc,sc,al,lc,ts,none,0,[],none,0,[],none,0,[],none,0,[],0,0,false,false,false,false⟩:Rq) ts.length ah ai aj):=PB hl0 hA0 hC0 hlc hoa hoc;have hok:=PC (R0:=(⟨self,req,nd,now,true,id,knd,key,item,qty,price,va,sa,vc,sc,al,lc,ts,none,0,[],none,0,[],none,0,[],none,0,[],0,0,false,false,false,false⟩:Rq)) (b1:=ah) (b2:=ai) (b3:=aj) Zp (by simpa using hll) rfl rfl Zp
     have hF0:∀q_,AW a3 (Qe (⟨self,req,nd,now,true,id,knd,key,item,qty,price,va,sa,vc,sc,al,lc,ts,none,0,[],none,0,[],none,0,[],none,0,[],0,0,false,false,false,false⟩:Rq) ts.length ah ai aj) q_→w.heap.size≤q_:=by
      intro q_ h_;rcases M9 q_ h_ with h_|h_|h_|h_
      ·have h2_:q_=a3:=h_;omega
      ·exact aW q_ h_
      ·exact aX q_ h_
      ·exact aY q_ h_
     have hF1:∀q_,AW a3 (Qe (⟨self,req,nd,now,true,id,knd,key,item,qty,price,va,sa,vc,sc,al,lc,ts,none,0,[],none,0,[],none,0,[],none,0,[],0,0,false,false,false,false⟩:Rq) ts.length ah ai aj) q_→¬own am q_:=by
      intro q_ h_;rcases M9 q_ h_ with h_|h_|h_|h_
      ·have h2_:q_=a3:=h_;exact fun z_=>aD (show own am a3 from h2_▸z_)
      ·exact fun z_=>aE q_ z_ h_
      ·exact fun z_=>aF q_ z_ h_
      ·exact fun z_=>aG q_ z_ h_
     exact⟨_,rfl,.inr ⟨rfl,a3,_,am,cm,rfl,⟨_,rfl,rfl,hQ,hok,hI⟩,ar,hF0,aH,hF1,K0⟩⟩
theorem SV (self req nd now:Int)(id knd qty price:Int)(key item:ByteArray)(va:MV)(sa:A6)(al:Option Addr)(ts:List Au)(lc:Nat)(w0 w:World)(hK0:As w0 w)(hA0:AE w0 sa va)(hoa:AV va sa)(hl0:At w0 al ts)(hll:ts.length≤1048576)(hlc:ts.length≤lc):
  Calls prog 32 #[.int .i64 self,.int .i64 req,.agg #[.int .i64 id,.int .i64 knd,.string key,.string item,.int .i64 qty,.int .u64 price,.slice sa.ea va.ent.length sa.ec,.slice sa.ma va.mrk.length sa.mc,.slice sa.ca va.cl.length sa.cc],.slice al ts.length lc,.int .i64 nd,.int .i64 now] w (AU (fun r w'=>((CA self req nd now ts (Bk va.mrk va.cl va.ent))≠0∧r= .tuple #[.pointer none,.slice none 0 0,.int .i64 (CA self req nd now ts (Bk va.mrk va.cl va.ent))]∧As w w')∨((CA self req nd now ts (Bk va.mrk va.cl va.ent))=0∧∃x F a c,r= .tuple #[jp x,.slice a (ts.map (fun t=>An (Ap 3 self t.node req key (-1) nilV) nilS)).length c,.int .i64 0]∧C3 w0 w' x F (⟨self,req,nd,now,false,id,key,va,nilV,ts,List.replicate ts.length false,List.replicate ts.length false,(List.replicate ts.length (⟨nilV,nilS⟩:Mg)).map Mg.v,[],0,0,false,false,false,false⟩:RM)∧Ag w' 48 a c (ts.map (fun t=>An (Ap 3 self t.node req key (-1) nilV) nilS))∧(∀q,F q→w.heap.size≤q)∧(∀q,own a q→w.heap.size≤q)∧(∀q,F q→¬own a q)∧As w w'))):=by
 have hA:=hA0.ext hK0;have hl:=hl0.ext hK0;obtain⟨ha1,ha2,ha3,-,-,-⟩:=hoa.ok;refine Af (n:=63) func32 rfl rfl rfl ?_;refine jG ?_;refine jR<|jB ?_;intro ae b9 ax a0 ay;have:w.heap.size≤ae:=ax;clear ax;have K0:=(ay:As w _);refine jG ?_;replace hA:=hA.ext ay;refine jR<|jC (M8 self req nd now id knd qty price key item va sa al ts lc (GM self req nd now ts) _ rfl hA (hl.ext K0) hll hlc) ?_;rintro _ ba (⟨af,rfl,ag⟩|⟨af,a1,a7,a8,a9,rfl,a2,a3,a4,a5,aF,aG,aH,aI,aJ,aK,ao,az,aA,ap,ag⟩)
 ·replace hA:=hA.ext ag
  refine jG ?_;replace a0:=a0.ext ag;replace K0:=K0.ext ag;refine jF ?_ ?_
  ·intro hc32
   refine jG ?_;refine Al.ret3 (v:= .pointer none) (x:= .slice none 0 0) (y:= .int .i64 (GM self req nd now ts)) func32 rfl rfl rfl rfl ?_;rw[Lf af];exact⟨_,rfl,.inl ⟨af,rfl,K0⟩⟩
  ·intro hc32
   exact absurd hc32 af
 ·have bb:=Ab ao hA.own_lt
  have aL:=Az K0.size ao;have aM:=Az K0.size az;have aN:=Az K0.size aA;have bc:ae<a1:=Nat.lt_of_lt_of_le a0.lt ap;have:w.heap.size≤a1:=Nat.le_trans K0.size ap;clear ao az aA ap;refine jG ?_;refine Al.condF rfl ?_;replace a0:=a0.ext ag;refine jG ?_;replace hA:=hA.ext ag;refine jR<|jC (KV sa.ma va.mrk sa.mc sa.ca va.cl sa.cc sa.ea va.ent sa.ec _ hoa.cap (hA).mrk (hA).cl (hA).ent Zo Zo Zo hoa.ent) ?_;rintro _ aO ⟨rfl,ah⟩;refine jG ?_;replace K0:=(K0.ext ag).ext ah;replace hA:=hA.ext ah;replace a0:=a0.ext ah;replace a3:=a3.ext ah;replace a4:=a4.ext ah;replace a5:=a5.ext ah;replace a2:=a2.ext ah;refine jF ?_ ?_
  ·intro hc38
   refine jG ?_;refine Al.ret3 (v:= .pointer none) (x:= .slice none 0 0) (y:= .int .i64 (Bk va.mrk va.cl va.ent)) func32 rfl rfl rfl rfl ?_;obtain⟨hz1,hz2⟩:=Ef af;rw[J4 hz1 hz2 hc38];exact⟨_,rfl,.inl ⟨hc38,rfl,K0⟩⟩
  ·intro hc38
   refine jG ?_;refine jF ?_ ?_
   ·intro hc43
    refine jG ?_;refine Al.ret3 (v:= .pointer none) (x:= .slice none 0 0) (y:= .int .i64 7) func32 rfl rfl rfl rfl ?_;obtain⟨hz1,hz2⟩:=Ef af;rw[J5 hz1 hz2 hc38 Zo];exact⟨_,rfl,.inl ⟨by decide,rfl,K0⟩⟩
   ·intro hc43
    refine jG ?_;refine Al.loop (ι:=Nat) (fun i ρ' w'=>∃am:Option Addr,∃cm:Nat,AG ρ' [(0,.int .i64 self),(1,.int .i64 req),(8,jp ae),(15,jp a1),(18,.slice am (((ts.take i).map (fun t=>An (Ap 3 self t.node req key (-1) nilV) nilS)).length) cm),(44,.slice al ts.length lc),(45,.int .i64 ((ts.length:Nat):Int)),(46,.int .i64 ((i:Nat):Int))]∧As w w'∧(AI w' ae [.int .i64 id,.int .i64 knd,.string key,.string item,.int .i64 qty,.int .u64 price,.slice sa.ea va.ent.length sa.ec,.slice sa.ma va.mrk.length sa.mc,.slice sa.ca va.cl.length sa.cc] 31)∧(AI w' a1 [.int .i64 self,.int .i64 req,.int .i64 nd,.int .i64 now,.bool false,.int .i64 id,.int .i64 knd,.string key,.string item,.int .i64 qty,.int .u64 price,.slice sa.ea va.ent.length sa.ec,.slice sa.ma va.mrk.length sa.mc,.slice sa.ca va.cl.length sa.cc,.slice none 0 0,.slice none 0 0,.slice none 0 0,.slice al ts.length lc,.slice (some ⟨a7,0,none⟩:Option Addr) ts.length ts.length,.slice (some ⟨a8,0,none⟩:Option Addr) ts.length ts.length,.slice (some ⟨a9,0,none⟩:Option Addr) ts.length ts.length,.slice none 0 0,.int .i64 0,.int .i64 0,.bool false,.bool false,.bool false,.bool false] 118)∧(AE w' sa va)∧(Ag w' 4 (some ⟨a7,0,none⟩:Option Addr) ts.length (List.replicate ts.length false))∧(Ag w' 4 (some ⟨a8,0,none⟩:Option Addr) ts.length (List.replicate ts.length false))∧(Ag w' 29 (some ⟨a9,0,none⟩:Option Addr) ts.length (List.replicate ts.length (Mg.k ⟨nilV,nilS⟩)))∧(Ag w' 48 am cm ((ts.take i).map (fun t=>An (Ap 3 self t.node req key (-1) nilV) nilS)))∧(¬own am ae)∧(¬own am a1)∧(∀q_,own am q_→¬AP sa va q_)∧(∀q_,own am q_→¬own (some ⟨a7,0,none⟩:Option Addr) q_)∧(∀q_,own am q_→¬own (some ⟨a8,0,none⟩:Option Addr) q_)∧(∀q_,own am q_→¬own (some ⟨a9,0,none⟩:Option Addr) q_)∧(∀q_,own am q_→w.heap.size≤q_)∧(i≤ts.length)) (fun i=>ts.length-i) 0 ?_ ?_
    ·rw[List.take_zero,List.map_nil]
     have aP:=Ag.nil (α:=Cd) aO 48;refine⟨_,_,⟨rfl,rfl,rfl,rfl,rfl,rfl,rfl,rfl,trivial⟩,K0,a0,a2,hA,a3,a4,a5,aP,(Ad ae),(Ad a1),(fun q_ h1 _=>Ad q_ h1),(fun q_ h1 _=>Ad q_ h1),(fun q_ h1 _=>Ad q_ h1),(fun q_ h1 _=>Ad q_ h1),(fun q_ h1=>absurd h1 (Ad q_)),?_⟩
     ·omega
    clear hA a0 a3 a4 a5 a2;clear K0;rintro i be bg ⟨am,cm,aB,K0,a0,a2,hA,a3,a4,a5,ak,aC,aq,aD,ar,au,av,aw,hi⟩ ih1;obtain⟨ρ₀,rfl⟩:=aB.ex;clear aB;refine jG ?_;refine jF ?_ ?_
    ·intro hc47
     obtain⟨bh,bi,t,ht,bj,an⟩:=hl.eo i;have hc_56_lt:=an.lt;replace an:=an.ext K0;refine jG ?_;refine jR<|jA ?_;intro bk bl a6 aE aa;have bm:=Aj a0.lt a6;have bn:=Aj a2.lt a6;have bo:=Aj an.lt a6;have aQ:=Ak hA.own_lt a6;have aR:=Ak a3.own_lt a6;have aS:=Ak a4.own_lt a6;have aT:=Ak a5.own_lt a6;have aU:=Ak ak.own_lt a6;have:=Nat.le_trans K0.size a6;clear a6;refine jR<|jS aE ?_;intro bp aE ab;have htl:((ts.take i).map (fun t=>An (Ap 3 self t.node req key (-1) nilV) nilS)).length=i:=by rw[List.length_map,List.length_take];omega
     replace a0:=(a0.ext aa).kp ab;refine jG ?_;refine jV (Ar (cells:=#[.int .i64 3,.int .i64 self,.int .i64 ((t).node),.int .i64 req,.string key,.slice none 0 0,.slice none 0 0,.slice none 0 0,.int .i64 (-1),.int .i64 0,.int .i64 0,.int .i64 0,.int .i64 0,.int .i64 0,.slice none 0 0,.slice none 0 0,.slice none 0 0]) Zk) ?_;refine jR<|AD.buildSlice ([(An (Ap 3 self t.node req key (-1) nilV) nilS)]:List Cd) underlying57 ty48 rfl rfl Ze ?_;intro bq bs aV aW ac;clear aV;replace ak:=((ak.ext aa).keepO ab (Aa aU)).ext ac;refine jR<|AD.append (xs:=((ts.take i).map (fun t=>An (Ap 3 self t.node req key (-1) nilV) nilS))) (ys:=([(An (Ap 3 self t.node req key (-1) nilV) nilS)]:List Cd)) underlying57 ty48 rfl rfl rfl ak aW.sl Zr Zd ?_;intro ai bt bu aX aj ad aY;replace a0:=a0.ext ac;have aZ:¬own ai ae:=ad.not aC a0.lt;replace a2:=((a2.ext aa).kp ab).ext ac;have b0:¬own ai a1:=ad.not aq a2.lt;replace hA:=((hA.ext aa).keepO ab (Aa aQ)).ext ac;have b4:∀q_,own ai q_→¬AP sa va q_:=ad.apart aD hA.own_lt;replace a3:=((a3.ext aa).keepO ab (Aa aR)).ext ac;have b5:∀q_,own ai q_→¬own (some ⟨a7,0,none⟩:Option Addr) q_:=ad.apart ar a3.own_lt;replace a4:=((a4.ext aa).keepO ab (Aa aS)).ext ac;have b6:∀q_,own ai q_→¬own (some ⟨a8,0,none⟩:Option Addr) q_:=ad.apart au a4.own_lt;replace a5:=((a5.ext aa).keepO ab (Aa aT)).ext ac;have b7:∀q_,own ai q_→¬own (some ⟨a9,0,none⟩:Option Addr) q_:=ad.apart av a5.own_lt;replace K0:=((K0.ext aa).n1 ab).ext ac;have b8:∀q_,own ai q_→w.heap.size≤q_:=ad.ge aw K0.size;clear ad;clear aY;refine jG ?_;refine jV (Ay (c:=((i+1:Nat):Int)) (Aq rfl rfl Zo Zo) rfl) ?_;refine jG ?_;have e:=C2 (f:=fun t=>An (Ap 3 self t.node req key (-1) nilV) nilS) ht;refine ih1 (i+1) _ _ ?_ Zo;rw[e];replace a0:=a0.keep aj aC;replace a2:=a2.keep aj aq;replace hA:=hA.keepO aj (Zf aD);replace a3:=a3.keepO aj (Zf ar);replace a4:=a4.keepO aj (Zf au);replace a5:=a5.keepO aj (Zf av);replace K0:=K0.new aj aw;refine⟨_,_,⟨rfl,rfl,rfl,rfl,rfl,rfl,rfl,rfl,trivial⟩,K0,a0,a2,hA,a3,a4,a5,aX,aZ,b0,b4,b5,b6,b7,b8,?_⟩
     ·omega
    ·intro hc47
     refine jG ?_;refine Al.ret3 (v:=jp a1) (x:= .slice am (((ts.take i).map (fun t=>An (Ap 3 self t.node req key (-1) nilV) nilS)).length) cm) (y:= .int .i64 0) func32 rfl rfl rfl rfl ?_;obtain⟨hz1,hz2⟩:=Ef af;rw[J6 hz1 hz2 hc38 Zo];rw[List.take_of_length_le (show ts.length≤i by omega)]at ak⊢;have hQ:=D9.mk0 (n:=ts.length) (⟨self,req,nd,now,false,id,knd,key,item,qty,price,va,sa,nilV,nilS,al,lc,ts,none,0,[],none,0,[],none,0,[],none,0,[],0,0,false,false,false,false⟩:Rq) a2 a3 a4 a5 aF aG aH aI aJ aK;have hz4:=hz1;unfold C1 at hz4;have hI:Ju w0 (Qe (⟨self,req,nd,now,false,id,knd,key,item,qty,price,va,sa,nilV,nilS,al,lc,ts,none,0,[],none,0,[],none,0,[],none,0,[],0,0,false,false,false,false⟩:Rq) ts.length a7 a8 a9):=PB hl0 hA0 nil_R.cart hlc hoa ⟨nil_ok,fun _ h=>absurd h (by simp[nilV]),Nat.le_refl _⟩;have hok:=PC (R0:=(⟨self,req,nd,now,false,id,knd,key,item,qty,price,va,sa,nilV,nilS,al,lc,ts,none,0,[],none,0,[],none,0,[],none,0,[],0,0,false,false,false,false⟩:Rq)) (b1:=a7) (b2:=a8) (b3:=a9) Zp (by simpa using hll) rfl rfl Zp
     have hF0:∀q_,AW a1 (Qe (⟨self,req,nd,now,false,id,knd,key,item,qty,price,va,sa,nilV,nilS,al,lc,ts,none,0,[],none,0,[],none,0,[],none,0,[],0,0,false,false,false,false⟩:Rq) ts.length a7 a8 a9) q_→w.heap.size≤q_:=by
      intro q_ h_;rcases M9 q_ h_ with h_|h_|h_|h_
      ·have h2_:q_=a1:=h_;omega
      ·exact aL q_ h_
      ·exact aM q_ h_
      ·exact aN q_ h_
     have hF1:∀q_,AW a1 (Qe (⟨self,req,nd,now,false,id,knd,key,item,qty,price,va,sa,nilV,nilS,al,lc,ts,none,0,[],none,0,[],none,0,[],none,0,[],0,0,false,false,false,false⟩:Rq) ts.length a7 a8 a9) q_→¬own am q_:=by
      intro q_ h_;rcases M9 q_ h_ with h_|h_|h_|h_
      ·have h2_:q_=a1:=h_;exact fun z_=>aq (show own am a1 from h2_▸z_)
      ·exact fun z_=>ar q_ z_ h_
      ·exact fun z_=>au q_ z_ h_
      ·exact fun z_=>av q_ z_ h_
     exact⟨_,rfl,.inr ⟨rfl,a1,_,am,cm,rfl,⟨_,rfl,rfl,hQ,hok,hI⟩,ak,hF0,aw,hF1,K0⟩⟩
end Go.Proofs.YtocgdeefgohdhaaGreat
