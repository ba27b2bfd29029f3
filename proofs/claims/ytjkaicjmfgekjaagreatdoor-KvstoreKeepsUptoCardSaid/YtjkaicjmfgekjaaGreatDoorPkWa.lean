/-
  Wa, Wb
-/
import Derived.Test.YtjkaicjmfgekjaaGreatDoorPkTail
import Derived.Test.YtjkaicjmfgekjaaGreatDoorPkYa
set_option linter.all false
set_option maxRecDepth 100000
set_option maxHeartbeats 4000000
namespace Go.Proofs.YtjkaicjmfgekjaaGreatDoor
open Go.Proofs.Tryz
attribute [local irreducible] RD RS AA RL RA RT Cz Ai
section
namespace Wa
open Go.Proofs.Tryz
end Wa
open Wa
structure Ag where
 node:Int
 life:Int
 count:Int
instance : Enc Ag:=Enc.struct (fun t=>[.int .i64 t.node,.int .i64 t.life,.int .i64 t.count]) 3 (fun _=>rfl) (fun _ v hv=>by simp at hv;rcases hv with rfl|rfl|rfl<;>rfl) Zd
theorem Ag.ext' {a b:Ag}(h0:a.node=b.node)(h1:a.life=b.life)(h2:a.count=b.count):a=b:=by cases a;cases b;simp_all
instance : DecidableEq Ag:=fun a b=>if h:a.node=b.node∧a.life=b.life∧a.count=b.count then isTrue (Ag.ext' h.1 h.2.1 h.2.2)else isFalse (fun e=>h (by subst e;exact⟨rfl,rfl,rfl⟩))
theorem Of (m:Nat)(a b:Ag)(w:World):(Op.equalIn (m+2) 73 (.agg #[.int .i64 a.node,.int .i64 a.life,.int .i64 a.count]) (.agg #[.int .i64 b.node,.int .i64 b.life,.int .i64 b.count])).run prog w= .ok (decide (a=b)) w:=by
 have h:=run_equalIn_struct (P:=prog) w (m+1) 73 #[.int .i64 a.node,.int .i64 a.life,.int .i64 a.count] #[.int .i64 b.node,.int .i64 b.life,.int .i64 b.count] underlying73 Zk
 have h2:=(A0 (P:=prog) (d:=m+1) (xs:=#[.int .i64 a.node,.int .i64 a.life,.int .i64 a.count]) (ys:=#[.int .i64 b.node,.int .i64 b.life,.int .i64 b.count]) (fd:=(prog.fieldsOf 73).toList[0]) (fs:=[(prog.fieldsOf 73).toList[1],(prog.fieldsOf 73).toList[2]]) (r:=a.node==b.node) Zk (Bu ty3 rfl) (Bu ty3 rfl) (fun w=>run_equalIn_int w m 3 .i64 .i64 a.node b.node underlying3) (A0 (P:=prog) (d:=m+1) (xs:=#[.int .i64 a.node,.int .i64 a.life,.int .i64 a.count]) (ys:=#[.int .i64 b.node,.int .i64 b.life,.int .i64 b.count]) (fd:=(prog.fieldsOf 73).toList[1]) (fs:=[(prog.fieldsOf 73).toList[2]]) (r:=a.life==b.life) Zk (Bu ty3 rfl) (Bu ty3 rfl) (fun w=>run_equalIn_int w m 3 .i64 .i64 a.life b.life underlying3) (A0 (P:=prog) (d:=m+1) (xs:=#[.int .i64 a.node,.int .i64 a.life,.int .i64 a.count]) (ys:=#[.int .i64 b.node,.int .i64 b.life,.int .i64 b.count]) (fd:=(prog.fieldsOf 73).toList[2]) (fs:=[]) (r:=a.count==b.count) Zk (Bu ty3 rfl) (Bu ty3 rfl) (fun w=>run_equalIn_int w m 3 .i64 .i64 a.count b.count underlying3) (CU (m+1) _ _)))) w
 refine h.trans (h2.trans ?_)
 congr 1
 rw[AaC]
 simp only[Aao,beq_iff_eq,and_true,decide_eq_true_eq,E5]
 exact⟨fun h=>Ag.ext' h.1 h.2.1 h.2.2,fun h=>by subst h;exact⟨rfl,rfl,rfl⟩⟩
theorem Gz (a b:Ag)(w:World):(Op.equalIn 10000 73 (.agg #[.int .i64 a.node,.int .i64 a.life,.int .i64 a.count]) (.agg #[.int .i64 b.node,.int .i64 b.life,.int .i64 b.count])).run prog w= .ok (decide (a=b)) w:=Of 9998 a b w
structure Ab where
 node:Int
 life:Int
 count:Int
instance : Enc Ab:=Enc.struct (fun t=>[.int .i64 t.node,.int .i64 t.life,.int .i64 t.count]) 3 (fun _=>rfl) (fun _ v hv=>by simp at hv;rcases hv with rfl|rfl|rfl<;>rfl) Zd
theorem Ab.ext' {a b:Ab}(h0:a.node=b.node)(h1:a.life=b.life)(h2:a.count=b.count):a=b:=by cases a;cases b;simp_all
instance : DecidableEq Ab:=fun a b=>if h:a.node=b.node∧a.life=b.life∧a.count=b.count then isTrue (Ab.ext' h.1 h.2.1 h.2.2)else isFalse (fun e=>h (by subst e;exact⟨rfl,rfl,rfl⟩))
theorem Sm (m:Nat)(a b:Ab)(w:World):(Op.equalIn (m+2) 46 (.agg #[.int .i64 a.node,.int .i64 a.life,.int .i64 a.count]) (.agg #[.int .i64 b.node,.int .i64 b.life,.int .i64 b.count])).run prog w= .ok (decide (a=b)) w:=by
 have h:=run_equalIn_struct (P:=prog) w (m+1) 46 #[.int .i64 a.node,.int .i64 a.life,.int .i64 a.count] #[.int .i64 b.node,.int .i64 b.life,.int .i64 b.count] underlying46 Zk
 have h2:=(A0 (P:=prog) (d:=m+1) (xs:=#[.int .i64 a.node,.int .i64 a.life,.int .i64 a.count]) (ys:=#[.int .i64 b.node,.int .i64 b.life,.int .i64 b.count]) (fd:=(prog.fieldsOf 46).toList[0]) (fs:=[(prog.fieldsOf 46).toList[1],(prog.fieldsOf 46).toList[2]]) (r:=a.node==b.node) Zk (Bu ty3 rfl) (Bu ty3 rfl) (fun w=>run_equalIn_int w m 3 .i64 .i64 a.node b.node underlying3) (A0 (P:=prog) (d:=m+1) (xs:=#[.int .i64 a.node,.int .i64 a.life,.int .i64 a.count]) (ys:=#[.int .i64 b.node,.int .i64 b.life,.int .i64 b.count]) (fd:=(prog.fieldsOf 46).toList[1]) (fs:=[(prog.fieldsOf 46).toList[2]]) (r:=a.life==b.life) Zk (Bu ty3 rfl) (Bu ty3 rfl) (fun w=>run_equalIn_int w m 3 .i64 .i64 a.life b.life underlying3) (A0 (P:=prog) (d:=m+1) (xs:=#[.int .i64 a.node,.int .i64 a.life,.int .i64 a.count]) (ys:=#[.int .i64 b.node,.int .i64 b.life,.int .i64 b.count]) (fd:=(prog.fieldsOf 46).toList[2]) (fs:=[]) (r:=a.count==b.count) Zk (Bu ty3 rfl) (Bu ty3 rfl) (fun w=>run_equalIn_int w m 3 .i64 .i64 a.count b.count underlying3) (CU (m+1) _ _)))) w
 refine h.trans (h2.trans ?_)
 congr 1
 rw[AaC]
 simp only[Aao,beq_iff_eq,and_true,decide_eq_true_eq,E5]
 exact⟨fun h=>Ab.ext' h.1 h.2.1 h.2.2,fun h=>by subst h;exact⟨rfl,rfl,rfl⟩⟩
theorem Us (a b:Ab)(w:World):(Op.equalIn 10000 46 (.agg #[.int .i64 a.node,.int .i64 a.life,.int .i64 a.count]) (.agg #[.int .i64 b.node,.int .i64 b.life,.int .i64 b.count])).run prog w= .ok (decide (a=b)) w:=Sm 9998 a b w
structure Hl where
 node:Int
 epoch:Int
 stamp:Int
 status:Int
instance : Enc Hl:=Enc.struct (fun t=>[.int .i64 t.node,.int .i64 t.epoch,.int .i64 t.stamp,.int .i64 t.status]) 4 (fun _=>rfl) (fun _ v hv=>by simp at hv;rcases hv with rfl|rfl|rfl|rfl<;>rfl) Zd
theorem Hl.ext' {a b:Hl}(h0:a.node=b.node)(h1:a.epoch=b.epoch)(h2:a.stamp=b.stamp)(h3:a.status=b.status):a=b:=by cases a;cases b;simp_all
instance : DecidableEq Hl:=fun a b=>if h:a.node=b.node∧a.epoch=b.epoch∧a.stamp=b.stamp∧a.status=b.status then isTrue (Hl.ext' h.1 h.2.1 h.2.2.1 h.2.2.2)else isFalse (fun e=>h (by subst e;exact⟨rfl,rfl,rfl,rfl⟩))
structure Ma where
 node:Int
 inc:Int
 status:Int
instance : Enc Ma:=Enc.struct (fun t=>[.int .i64 t.node,.int .i64 t.inc,.int .i64 t.status]) 3 (fun _=>rfl) (fun _ v hv=>by simp at hv;rcases hv with rfl|rfl|rfl<;>rfl) Zd
theorem Ma.ext' {a b:Ma}(h0:a.node=b.node)(h1:a.inc=b.inc)(h2:a.status=b.status):a=b:=by cases a;cases b;simp_all
instance : DecidableEq Ma:=fun a b=>if h:a.node=b.node∧a.inc=b.inc∧a.status=b.status then isTrue (Ma.ext' h.1 h.2.1 h.2.2)else isFalse (fun e=>h (by subst e;exact⟨rfl,rfl,rfl⟩))
structure Sn where
 place:Int
 key:ByteArray
 hash:Int
instance : Enc Sn:=Enc.struct (fun t=>[.int .i64 t.place,.string t.key,.int .u64 t.hash]) 3 (fun _=>rfl) (fun _ v hv=>by simp at hv;rcases hv with rfl|rfl|rfl<;>rfl) Zd
theorem Sn.ext' {a b:Sn}(h0:a.place=b.place)(h1:a.key=b.key)(h2:a.hash=b.hash):a=b:=by cases a;cases b;simp_all
instance : DecidableEq Sn:=fun a b=>if h:a.place=b.place∧a.key=b.key∧a.hash=b.hash then isTrue (Sn.ext' h.1 h.2.1 h.2.2)else isFalse (fun e=>h (by subst e;exact⟨rfl,rfl,rfl⟩))
structure Aj where
 item:ByteArray
 dot:Ag
 qty:Int
 price:Int
instance : Enc Aj:=Enc.struct (fun t=>[.string t.item,.int .i64 t.dot.node,.int .i64 t.dot.life,.int .i64 t.dot.count,.int .i64 t.qty,.int .u64 t.price]) 6 (fun _=>rfl) (fun _ v hv=>by simp at hv;rcases hv with rfl|rfl|rfl|rfl|rfl|rfl<;>rfl) Zd
theorem Aj.ext' {a b:Aj}(h0:a.item=b.item)(h1:a.dot=b.dot)(h2:a.qty=b.qty)(h3:a.price=b.price):a=b:=by cases a;cases b;simp_all
instance : DecidableEq Aj:=fun a b=>if h:a.item=b.item∧a.dot=b.dot∧a.qty=b.qty∧a.price=b.price then isTrue (Aj.ext' h.1 h.2.1 h.2.2.1 h.2.2.2)else isFalse (fun e=>h (by subst e;exact⟨rfl,rfl,rfl,rfl⟩))
theorem PD (m:Nat)(a b:Aj)(w:World):(Op.equalIn (m+3) 76 (.agg #[.string a.item,.int .i64 a.dot.node,.int .i64 a.dot.life,.int .i64 a.dot.count,.int .i64 a.qty,.int .u64 a.price]) (.agg #[.string b.item,.int .i64 b.dot.node,.int .i64 b.dot.life,.int .i64 b.dot.count,.int .i64 b.qty,.int .u64 b.price])).run prog w= .ok (decide (a=b)) w:=by
 have h:=run_equalIn_struct (P:=prog) w (m+2) 76 #[.string a.item,.int .i64 a.dot.node,.int .i64 a.dot.life,.int .i64 a.dot.count,.int .i64 a.qty,.int .u64 a.price] #[.string b.item,.int .i64 b.dot.node,.int .i64 b.dot.life,.int .i64 b.dot.count,.int .i64 b.qty,.int .u64 b.price] underlying76 Zk
 have h2:=(A0 (P:=prog) (d:=m+2) (xs:=#[.string a.item,.int .i64 a.dot.node,.int .i64 a.dot.life,.int .i64 a.dot.count,.int .i64 a.qty,.int .u64 a.price]) (ys:=#[.string b.item,.int .i64 b.dot.node,.int .i64 b.dot.life,.int .i64 b.dot.count,.int .i64 b.qty,.int .u64 b.price]) (fd:=(prog.fieldsOf 76).toList[0]) (fs:=[(prog.fieldsOf 76).toList[1],(prog.fieldsOf 76).toList[2],(prog.fieldsOf 76).toList[3]]) (r:=a.item.toList==b.item.toList) Zk (Bu ty9 rfl) (Bu ty9 rfl) (fun w=>run_equalIn_string w (m+1) 9 a.item b.item underlying9) (A0 (P:=prog) (d:=m+2) (xs:=#[.string a.item,.int .i64 a.dot.node,.int .i64 a.dot.life,.int .i64 a.dot.count,.int .i64 a.qty,.int .u64 a.price]) (ys:=#[.string b.item,.int .i64 b.dot.node,.int .i64 b.dot.life,.int .i64 b.dot.count,.int .i64 b.qty,.int .u64 b.price]) (fd:=(prog.fieldsOf 76).toList[1]) (fs:=[(prog.fieldsOf 76).toList[2],(prog.fieldsOf 76).toList[3]]) (r:=decide (a.dot=b.dot)) Zk (LI ty73 rfl) (LI ty73 rfl) (fun w=>Of m a.dot b.dot w) (A0 (P:=prog) (d:=m+2) (xs:=#[.string a.item,.int .i64 a.dot.node,.int .i64 a.dot.life,.int .i64 a.dot.count,.int .i64 a.qty,.int .u64 a.price]) (ys:=#[.string b.item,.int .i64 b.dot.node,.int .i64 b.dot.life,.int .i64 b.dot.count,.int .i64 b.qty,.int .u64 b.price]) (fd:=(prog.fieldsOf 76).toList[2]) (fs:=[(prog.fieldsOf 76).toList[3]]) (r:=a.qty==b.qty) Zk (Bu ty3 rfl) (Bu ty3 rfl) (fun w=>run_equalIn_int w (m+1) 3 .i64 .i64 a.qty b.qty underlying3) (A0 (P:=prog) (d:=m+2) (xs:=#[.string a.item,.int .i64 a.dot.node,.int .i64 a.dot.life,.int .i64 a.dot.count,.int .i64 a.qty,.int .u64 a.price]) (ys:=#[.string b.item,.int .i64 b.dot.node,.int .i64 b.dot.life,.int .i64 b.dot.count,.int .i64 b.qty,.int .u64 b.price]) (fd:=(prog.fieldsOf 76).toList[3]) (fs:=[]) (r:=a.price==b.price) Zk (Bu ty74 rfl) (Bu ty74 rfl) (fun w=>run_equalIn_int w (m+1) 74 .u64 .u64 a.price b.price underlying74) (CU (m+2) _ _))))) w
 refine h.trans (h2.trans ?_)
 congr 1
 rw[AaC]
 simp only[Aao,beq_iff_eq,and_true,decide_eq_true_eq,E5]
 exact⟨fun h=>Aj.ext' h.1 h.2.1 h.2.2.1 h.2.2.2,fun h=>by subst h;exact⟨rfl,rfl,rfl,rfl⟩⟩
theorem I0 (a b:Aj)(w:World):(Op.equalIn 10000 76 (.agg #[.string a.item,.int .i64 a.dot.node,.int .i64 a.dot.life,.int .i64 a.dot.count,.int .i64 a.qty,.int .u64 a.price]) (.agg #[.string b.item,.int .i64 b.dot.node,.int .i64 b.dot.life,.int .i64 b.dot.count,.int .i64 b.qty,.int .u64 b.price])).run prog w= .ok (decide (a=b)) w:=PD 9997 a b w
structure PE where
 marks:SH
 cloud:SH
structure Ba where
 entries:SH
 ctx:PE
structure Z4 where
 parts:Int
 copies:Int
 spots:Int
 members:SH
structure Ys where
 kind:Int
 frm:Int
 to:Int
 req:Int
 key:ByteArray
 cart:Ba
 owner:Int
 part:Int
 n:Int
 ring:Z4
 peers:SH
 sums:SH
instance : Enc Ys:=Enc.struct (fun t=>[.int .i64 t.kind,.int .i64 t.frm,.int .i64 t.to,.int .i64 t.req,.string t.key,.slice t.cart.entries.a t.cart.entries.len t.cart.entries.cap,.slice t.cart.ctx.marks.a t.cart.ctx.marks.len t.cart.ctx.marks.cap,.slice t.cart.ctx.cloud.a t.cart.ctx.cloud.len t.cart.ctx.cloud.cap,.int .i64 t.owner,.int .i64 t.part,.int .i64 t.n,.int .i64 t.ring.parts,.int .i64 t.ring.copies,.int .i64 t.ring.spots,.slice t.ring.members.a t.ring.members.len t.ring.members.cap,.slice t.peers.a t.peers.len t.peers.cap,.slice t.sums.a t.sums.len t.sums.cap]) 17 (fun _=>rfl) (fun _ v hv=>by simp at hv;rcases hv with rfl|rfl|rfl|rfl|rfl|rfl|rfl|rfl|rfl|rfl|rfl|rfl|rfl|rfl|rfl|rfl|rfl<;>rfl) Zd
structure MV where
 kind:Int
 frm:Int
 to:Int
 req:Int
 key:ByteArray
 owner:Int
 part:Int
 n:Int
 parts:Int
 copies:Int
 spots:Int
 ent:List Aj
 mrk:List Ab
 cl:List Ag
 mem:List Hl
 pe:List Ma
 su:List Sn
theorem MV.ext' {a b:MV}(h0:a.kind=b.kind)(h1:a.frm=b.frm)(h2:a.to=b.to)(h3:a.req=b.req)(h4:a.key=b.key)(h5:a.owner=b.owner)(h6:a.part=b.part)(h7:a.n=b.n)(h8:a.parts=b.parts)(h9:a.copies=b.copies)(h10:a.spots=b.spots)(h11:a.ent=b.ent)(h12:a.mrk=b.mrk)(h13:a.cl=b.cl)(h14:a.mem=b.mem)(h15:a.pe=b.pe)(h16:a.su=b.su):a=b:=by cases a;cases b;simp_all
theorem MV.iff {a b:MV}:a=b↔a.kind=b.kind∧a.frm=b.frm∧a.to=b.to∧a.req=b.req∧a.key=b.key∧a.owner=b.owner∧a.part=b.part∧a.n=b.n∧a.parts=b.parts∧a.copies=b.copies∧a.spots=b.spots∧a.ent=b.ent∧a.mrk=b.mrk∧a.cl=b.cl∧a.mem=b.mem∧a.pe=b.pe∧a.su=b.su:=⟨fun e=>by subst e;exact⟨rfl,rfl,rfl,rfl,rfl,rfl,rfl,rfl,rfl,rfl,rfl,rfl,rfl,rfl,rfl,rfl,rfl⟩,fun h=>MV.ext' h.1 h.2.1 h.2.2.1 h.2.2.2.1 h.2.2.2.2.1 h.2.2.2.2.2.1 h.2.2.2.2.2.2.1 h.2.2.2.2.2.2.2.1 h.2.2.2.2.2.2.2.2.1 h.2.2.2.2.2.2.2.2.2.1 h.2.2.2.2.2.2.2.2.2.2.1 h.2.2.2.2.2.2.2.2.2.2.2.1 h.2.2.2.2.2.2.2.2.2.2.2.2.1 h.2.2.2.2.2.2.2.2.2.2.2.2.2.1 h.2.2.2.2.2.2.2.2.2.2.2.2.2.2.1 h.2.2.2.2.2.2.2.2.2.2.2.2.2.2.2.1 h.2.2.2.2.2.2.2.2.2.2.2.2.2.2.2.2⟩
instance : DecidableEq MV:=fun a b=>if h:a.kind=b.kind∧a.frm=b.frm∧a.to=b.to∧a.req=b.req∧a.key=b.key∧a.owner=b.owner∧a.part=b.part∧a.n=b.n∧a.parts=b.parts∧a.copies=b.copies∧a.spots=b.spots∧a.ent=b.ent∧a.mrk=b.mrk∧a.cl=b.cl∧a.mem=b.mem∧a.pe=b.pe∧a.su=b.su then isTrue (MV.iff.2 h)else isFalse (fun e=>h (MV.iff.1 e))
structure Ge where
 ea:Option Addr
 ec:Nat
 ma:Option Addr
 mc:Nat
 ca:Option Addr
 cc:Nat
 ba:Option Addr
 bc:Nat
 pa:Option Addr
 pc:Nat
 sa:Option Addr
 sc:Nat
abbrev CN (v:MV)(s:Ge):Ys:=⟨v.kind,v.frm,v.to,v.req,v.key,⟨⟨s.ea,v.ent.length,s.ec⟩,⟨⟨s.ma,v.mrk.length,s.mc⟩,⟨s.ca,v.cl.length,s.cc⟩⟩⟩,v.owner,v.part,v.n,⟨v.parts,v.copies,v.spots,⟨s.ba,v.mem.length,s.bc⟩⟩,⟨s.pa,v.pe.length,s.pc⟩,⟨s.sa,v.su.length,s.sc⟩⟩
structure I1 (w:World)(s:Ge)(v:MV):Prop where
 ent:Av w s.ea v.ent
 mrk:Av w s.ma v.mrk
 cl:Av w s.ca v.cl
 mem:Av w s.ba v.mem
 pe:Av w s.pa v.pe
 su:Av w s.sa v.su
structure I2 (w:World)(s:Ge)(v:MV):Prop where
 ent:Af w 76 s.ea s.ec v.ent
 mrk:Af w 46 s.ma s.mc v.mrk
 cl:Af w 73 s.ca s.cc v.cl
 mem:Af w 999998 s.ba s.bc v.mem
 pe:Af w 999998 s.pa s.pc v.pe
 su:Af w 999998 s.sa s.sc v.su
def ia (s:Ge)(v:MV):Nat->Prop:=fun q=>(v.ent≠ []∧own s.ea q)∨(v.mrk≠ []∧own s.ma q)∨(v.cl≠ []∧own s.ca q)∨(v.mem≠ []∧own s.ba q)∨(v.pe≠ []∧own s.pa q)∨(v.su≠ []∧own s.sa q)
def Og (s:Ge):Nat->Prop:=fun q=>own s.ea q∨own s.ma q∨own s.ca q∨own s.ba q∨own s.pa q∨own s.sa q
def Ut (s:Ge):Prop:=[own s.ea,own s.ma,own s.ca,own s.ba,own s.pa,own s.sa].Pairwise (fun f g=>∀q,f q->¬g q)
def nilS :Ge:=⟨none,0,none,0,none,0,none,0,none,0,none,0⟩
def nilV :MV:=⟨0,0,0,0,⟨#[]⟩,0,0,0,0,0,0,[],[],[],[],[],[]⟩
structure JT (v:MV):Prop where
 ent:v.ent.length<=4294967295
 mrk:v.mrk.length<=4294967295
 cl:v.cl.length<=4294967295
 mem:v.mem.length<=4294967295
 pe:v.pe.length<=4294967295
 su:v.su.length<=4294967295
section
variable {w w':World}{s:Ge}{v:MV}{S:Nat->Prop}
theorem EG {α:Type}[Enc α]{a:Option Addr}{xs:List α}(h:Av w a xs)(hn:xs≠ []){q:Nat}(hq:own a q):q<w.heap.size:=by
 obtain⟨x,hx,rfl⟩:=hq
 rcases h with rfl|⟨b,o,ha,hc⟩
 ·exact absurd rfl hn
 ·rw[hx]at ha;cases ha;exact hc.lt
theorem I1.oL (h:I1 w s v):∀q,ia s v q->q<w.heap.size:=by
 rintro q (⟨h1,h2⟩|⟨h1,h2⟩|⟨h1,h2⟩|⟨h1,h2⟩|⟨h1,h2⟩|⟨h1,h2⟩)
 ·exact EG h.ent h1 h2
 ·exact EG h.mrk h1 h2
 ·exact EG h.cl h1 h2
 ·exact EG h.mem h1 h2
 ·exact EG h.pe h1 h2
 ·exact EG h.su h1 h2
theorem I1.kO (h:I1 w s v)(k:Ad S w w')(hn:∀q,ia s v q->¬S q):I1 w' s v:=
 ⟨h.ent.keepN k (fun x hx he=>hn x.block (Or.inl ⟨he,x,hx,rfl⟩)),h.mrk.keepN k (fun x hx he=>hn x.block (Or.inr (Or.inl ⟨he,x,hx,rfl⟩))),h.cl.keepN k (fun x hx he=>hn x.block (Or.inr (Or.inr (Or.inl ⟨he,x,hx,rfl⟩)))),h.mem.keepN k (fun x hx he=>hn x.block (Or.inr (Or.inr (Or.inr (Or.inl ⟨he,x,hx,rfl⟩))))),h.pe.keepN k (fun x hx he=>hn x.block (Or.inr (Or.inr (Or.inr (Or.inr (Or.inl ⟨he,x,hx,rfl⟩)))))),h.su.keepN k (fun x hx he=>hn x.block (Or.inr (Or.inr (Or.inr (Or.inr (Or.inr (⟨he,x,hx,rfl⟩)))))))⟩
theorem I1.ext (h:I1 w s v)(k:Ap w w'):I1 w' s v:=h.kO k fun _ _=>id
theorem I2.oL (h:I2 w s v):∀q,Og s q->q<w.heap.size:=by
 rintro q (hq|hq|hq|hq|hq|hq)
 ·exact h.ent.oL q hq
 ·exact h.mrk.oL q hq
 ·exact h.cl.oL q hq
 ·exact h.mem.oL q hq
 ·exact h.pe.oL q hq
 ·exact h.su.oL q hq
theorem I2.kO (h:I2 w s v)(k:Ad S w w')(hn:∀q,Og s q->¬S q):I2 w' s v:=
 ⟨h.ent.kO k (fun q hq=>hn q (Or.inl hq)),h.mrk.kO k (fun q hq=>hn q (Or.inr (Or.inl hq))),h.cl.kO k (fun q hq=>hn q (Or.inr (Or.inr (Or.inl hq)))),h.mem.kO k (fun q hq=>hn q (Or.inr (Or.inr (Or.inr (Or.inl hq))))),h.pe.kO k (fun q hq=>hn q (Or.inr (Or.inr (Or.inr (Or.inr (Or.inl hq)))))),h.su.kO k (fun q hq=>hn q (Or.inr (Or.inr (Or.inr (Or.inr (Or.inr hq))))))⟩
theorem I2.ext (h:I2 w s v)(k:Ap w w'):I2 w' s v:=h.kO k fun _ _=>id
theorem I2.r (h:I2 w s v):I1 w s v:=⟨h.ent.sl,h.mrk.sl,h.cl.sl,h.mem.sl,h.pe.sl,h.su.sl⟩
theorem nil_R :I1 w nilS nilV:=⟨Av.nil _ _,Av.nil _ _,Av.nil _ _,Av.nil _ _,Av.nil _ _,Av.nil _ _⟩
theorem nil_ok :JT nilV:=⟨by decide,by decide,by decide,by decide,by decide,by decide⟩
end
end
section
open Wa
section
variable {a b:MV}{s t:Ge}{w:World}
def M0 (a b:MV):Bool:=decide (a.mrk=b.mrk)&&decide (a.cl=b.cl)
def G6 (a b:MV):Bool:=decide (a.ent=b.ent)&&M0 a b
end
attribute [local irreducible] X
theorem So (a:Option Addr)(xs:List Aj)(c:Nat)(x:Aj)(w:World)(hs:Av w a xs)(hl:xs.length<=4294967295):
  Calls prog 208 #[.slice a xs.length c,.agg #[.string x.item,.int .i64 x.dot.node,.int .i64 x.dot.life,.int .i64 x.dot.count,.int .i64 x.qty,.int .u64 x.price]] w (AN (fun v w'=>v= .int .i64 (F2 (x==·) xs)∧Ap w w')):=by
 refine Ac (n:=19) func208 rfl rfl rfl ?_;refine jG ?_;refine jR<|jB ?_;intro a1 a7 a4 a0 a6;have:w.heap.size<=a1:=a4;clear a4;have K0:=(a6:Ap w _);refine jG ?_;refine Ai.loop (ι:=Nat) (fun i ρ' w'=>Holds ρ' [(0,.slice a xs.length c),(3,jp a1),(7,.int .i64 ((xs.length:Nat):Int)),(8,.int .i64 ((i:Nat):Int))]∧Ap w w'∧(AB w' a1 [.string x.item,.int .i64 x.dot.node,.int .i64 x.dot.life,.int .i64 x.dot.count,.int .i64 x.qty,.int .u64 x.price] 76)∧(i<=xs.length)∧(GL (x==·) xs i)) (fun i=>xs.length-i) 0 ?_ ?_
 ·refine⟨⟨rfl,rfl,rfl,rfl,trivial⟩,K0,a0,?_,?_⟩
  ·omega
  ·exact GL.zero _ _
 clear a0;clear K0;rintro i a8 a9 ⟨a5,K0,a0,hi,hno⟩ ih1;obtain⟨ρ₀,rfl⟩:=a5.ex;clear a5;refine jG ?_;refine jF ?_ ?_
 ·intro hc9
  refine jG ?_;obtain⟨aa,ab,e,hx,ac,a2⟩:=hs.eo i;have hc_14_lt:=a2.lt;refine Ai.drawR ?_;intro ad a3;replace a2:=(a2.ext K0).ext a3;replace a0:=a0.ext a3;refine jG ?_;refine jD (GJ Zk rfl rfl (I0 x e)) ?_;refine jG ?_;replace K0:=K0.ext a3;refine jF ?_ ?_
  ·intro hc16
   refine jG ?_;refine jJ func208 ?_;exact⟨_,rfl,by rw[GT hx (by simpa using hc16) hno],K0⟩
  ·intro hc16
   refine jG ?_;refine jV (Az (c:=((i+1:Nat):Int)) (Au rfl rfl Zo Zo) rfl) ?_;refine jG ?_;refine ih1 (i+1) _ _ ?_ Zo;refine⟨⟨rfl,rfl,rfl,rfl,trivial⟩,K0,a0,?_,?_⟩
   ·omega
   ·exact hno.step hx (by simpa using hc16)
 ·intro hc9
  refine jG ?_;refine jJ func208 ?_;exact⟨_,rfl,by rw[F3 hno Zo],K0⟩
theorem Io (a:Option Addr)(xs:List Aj)(c:Nat)(x:Aj)(w:World)(hs:Av w a xs)(hl:xs.length<=4294967295):
  Calls prog 150 #[.slice a xs.length c,.agg #[.string x.item,.int .i64 x.dot.node,.int .i64 x.dot.life,.int .i64 x.dot.count,.int .i64 x.qty,.int .u64 x.price]] w (AN (fun v w'=>v= .bool (xs.any (x==·))∧Ap w w')):=by
 refine Ac (n:=9) func150 rfl rfl rfl ?_;refine jG ?_;refine jR<|jB ?_;intro a1 a4 a0 a5 a2;have:w.heap.size<=a1:=a0;clear a0;have K0:=(a2:Ap w _);refine jG ?_;refine jR<|jC (So _ _ _ x _ (hs.ext K0) Zo) ?_;rintro _ a6 ⟨rfl,a3⟩;refine jG ?_;refine jJ func150 ?_;replace K0:=K0.ext a3;exact⟨_,rfl,by rw[GU],K0⟩
theorem Mb (a:Option Addr)(xs:List Aj)(c:Nat)(d:Option Addr)(ys:List Aj)(e:Nat)(w:World)(hs:Av w a xs)(ht:Av w d ys)(hl:xs.length<=4294967295):
  Calls prog 44 #[.slice a xs.length c,.slice d ys.length e] w (AN (fun v w'=>v= .bool (decide (xs=ys))∧Ap w w')):=by
 refine Ac (n:=26) func44 rfl rfl rfl ?_;refine jG ?_;refine jF ?_ ?_
 ·intro hc10
  refine jG ?_;refine jJ func44 ?_;exact⟨_,rfl,by rw[decide_eq_false (fun h=>hc10 (by rw[h]))],(Ad.refl _ w)⟩
 ·intro hc10
  have hlen:xs.length=ys.length:=by omega
  refine jG ?_;refine Ai.loop (ι:=Nat) (fun i ρ' w'=>Holds ρ' [(0,.slice a xs.length c),(1,.slice d ys.length e),(12,.int .i64 ((xs.length:Nat):Int)),(13,.int .i64 ((i:Nat):Int))]∧Ap w w'∧(i<=xs.length)∧(ED xs ys i)) (fun i=>xs.length-i) 0 ?_ ?_
  ·refine⟨⟨rfl,rfl,rfl,rfl,trivial⟩,(Ad.refl _ w),?_,?_⟩
   ·omega
   ·exact ED.zero _ _
  rintro i a4 a5 ⟨a3,K0,hi,hno⟩ ih1;obtain⟨ρ₀,rfl⟩:=a3.ex;clear a3;refine jG ?_;refine jF ?_ ?_
  ·intro hc14
   refine jG ?_;obtain⟨a6,a7,x,hx,a8,a0⟩:=hs.eo i;have hc_9_lt:=a0.lt;obtain⟨a9,aa,y,hy,ab,a1⟩:=ht.eo i;have hc_15_lt:=a1.lt;refine Ai.drawR ?_;intro ac a2;replace a0:=(a0.ext K0).ext a2;replace a1:=(a1.ext K0).ext a2;refine jG ?_;refine jD (Jg Zk rfl rfl (I0 x y)) ?_;refine jG ?_;replace K0:=K0.ext a2;refine jF ?_ ?_
   ·intro hc24
    refine jG ?_;refine jJ func44 ?_;exact⟨_,rfl,by rw[decide_eq_false (GV hx hy hc24)],K0⟩
   ·intro hc24
    refine jG ?_;refine jV (Az (c:=((i+1:Nat):Int)) (Au rfl rfl Zo Zo) rfl) ?_;refine jG ?_;refine ih1 (i+1) _ _ ?_ Zo;refine⟨⟨rfl,rfl,rfl,rfl,trivial⟩,K0,?_,?_⟩
    ·omega
    ·exact hno.step hx hy hc24
  ·intro hc14
   refine jG ?_;refine jJ func44 ?_;exact⟨_,rfl,by rw[decide_eq_true (hno.all hlen Zo)],K0⟩
theorem Mc (a:Option Addr)(xs:List Aj)(c:Nat)(w:World)(hs:Av w a xs)(hl:xs.length<=4294967295):
  Calls prog 41 #[.slice a xs.length c] w (AN (fun v w'=>∃a' c',v= .slice a' xs.length c'∧Af w' 76 a' c' xs∧(∀b,own a' b->w.heap.size<=b)∧Ap w w')):=by
 refine Ac (n:=8) func41 rfl rfl rfl ?_;refine jG ?_;refine jV (JI underlying27 rfl rfl) ?_;refine jG ?_;refine Ai.cond rfl (fun hc4=> ?_) (fun hc4=> ?_)
 ·skip
  refine jG ?_;refine jJ func41 ?_;have hx:=hs.nil_of hc4;subst hx;exact⟨_,rfl,none,0,rfl,Af.nil _ _,fun b h=>absurd h (Ae b),(Ad.refl _ w)⟩
 ·skip
  refine jG ?_;refine jR<|AA.buildSlice ([]:List Aj) underlying27 ty76 rfl rfl Ze ?_;intro ab ac a0 a4 a5;have a1:=Bd (Aac _) (CV a0);clear a0;have K0:=(a5:Ap w _);refine jG ?_;refine jR<|AA.append (xs:=([]:List Aj)) (ys:=xs) underlying27 ty76 rfl rfl rfl a4 (hs.ext K0) Zr Zd ?_;intro a2 a6 ad a7 a8 a3 a9;have aa:∀q_,own a2 q_->w.heap.size<=q_:=a3.ge a1 K0.size;clear a3;clear a9;refine jG ?_;refine jJ func41 ?_;replace K0:=K0.new a8 a1;exact⟨_,rfl,a2,a6,by rw[Aaz],by simpa using a7,aa,K0⟩
theorem Lv (a:Option Addr)(xs:List Aj)(c:Nat)(gf:FuncId)(caps:List Value)(q:Aj->Bool)(hen:DB prog gf)(w:World)(hs:Av w a xs)(hl:xs.length<=4294967295)(hq:∀x∈xs,∀w',Ap w w'->Calls prog gf (Enc.val x::caps).toArray w' (AN fun v w''=>v= .bool (q x)∧Ap w' w'')):
  Calls prog 216 #[.slice a xs.length c,.func (.func gf) #[] caps.toArray] w (AN (fun v w'=>v= .int .i64 (F2 q xs)∧Ap w w')):=by
 refine Ac (n:=19) func216 rfl rfl rfl ?_;refine jG ?_;refine Ai.loop (ι:=Nat) (fun i ρ' w'=>Holds ρ' [(0,.slice a xs.length c),(1,.func (.func gf) #[] caps.toArray),(7,.int .i64 ((xs.length:Nat):Int)),(8,.int .i64 ((i:Nat):Int))]∧Ap w w'∧(i<=xs.length)∧(GL q xs i)) (fun i=>xs.length-i) 0 ?_ ?_
 ·refine⟨⟨rfl,rfl,rfl,rfl,trivial⟩,(Ad.refl _ w),?_,?_⟩
  ·omega
  ·exact GL.zero _ _
 rintro i a3 a4 ⟨a1,K0,hi,hno⟩ ih1;obtain⟨ρ₀,rfl⟩:=a1.ex;clear a1;refine jG ?_;refine jF ?_ ?_
 ·intro hc9
  obtain⟨a5,a6,e,hx,a7,a0⟩:=hs.eo i;have hc_7_lt:=a0.lt;replace a0:=a0.ext K0;refine jG ?_;refine jR<|AA.callV (first:=[]) (vals:= .agg #[.string e.item,.int .i64 e.dot.node,.int .i64 e.dot.life,.int .i64 e.dot.count,.int .i64 e.qty,.int .u64 e.price]::caps) hen rfl rfl (hq e (BI hx) _ K0) ?_;rintro _ a8 ⟨rfl,a2⟩;refine jG ?_;replace K0:=K0.ext a2;refine Ai.cond rfl (fun hc16=> ?_) (fun hc16=> ?_)
  ·skip
   refine jG ?_;refine jJ func216 ?_;exact⟨_,rfl,by rw[GT hx hc16 hno],K0⟩
  ·skip
   refine jG ?_;refine jV (Az (c:=((i+1:Nat):Int)) (Au rfl rfl Zo Zo) rfl) ?_;refine jG ?_;refine ih1 (i+1) _ _ ?_ Zo;refine⟨⟨rfl,rfl,rfl,rfl,trivial⟩,K0,?_,?_⟩
   ·omega
   ·exact hno.step hx hc16
 ·intro hc9
  refine jG ?_;refine jJ func216 ?_;exact⟨_,rfl,by rw[F3 hno Zo],K0⟩
theorem I3 (a:Option Addr)(xs:List Aj)(c:Nat)(gf:FuncId)(caps:List Value)(q:Aj->Bool)(hen:DB prog gf)(w:World)(hs:Av w a xs)(hl:xs.length<=4294967295)(hq:∀x∈xs,∀w',Ap w w'->Calls prog gf (Enc.val x::caps).toArray w' (AN fun v w''=>v= .bool (q x)∧Ap w' w'')):
  Calls prog 159 #[.slice a xs.length c,.func (.func gf) #[] caps.toArray] w (AN (fun v w'=>v= .bool (xs.any q)∧Ap w w')):=by
 refine Ac (n:=9) func159 rfl rfl rfl ?_;refine jG ?_;refine jR<|jC (Lv _ _ _ _ _ q hen _ hs Zo hq) ?_;rintro _ a1 ⟨rfl,a0⟩;have K0:=(a0:Ap w _);refine jG ?_;refine jJ func159 ?_;exact⟨_,rfl,by rw[GU],K0⟩
theorem I4 (a:Option Addr)(xs:List Ab)(c:Nat)(d:Option Addr)(ys:List Ab)(e:Nat)(w:World)(hs:Av w a xs)(ht:Av w d ys)(hl:xs.length<=4294967295):
  Calls prog 67 #[.slice a xs.length c,.slice d ys.length e] w (AN (fun v w'=>v= .bool (decide (xs=ys))∧Ap w w')):=by
 refine Ac (n:=26) func67 rfl rfl rfl ?_;refine jG ?_;refine jF ?_ ?_
 ·intro hc10
  refine jG ?_;refine jJ func67 ?_;exact⟨_,rfl,by rw[decide_eq_false (fun h=>hc10 (by rw[h]))],(Ad.refl _ w)⟩
 ·intro hc10
  have hlen:xs.length=ys.length:=by omega
  refine jG ?_;refine Ai.loop (ι:=Nat) (fun i ρ' w'=>Holds ρ' [(0,.slice a xs.length c),(1,.slice d ys.length e),(12,.int .i64 ((xs.length:Nat):Int)),(13,.int .i64 ((i:Nat):Int))]∧Ap w w'∧(i<=xs.length)∧(ED xs ys i)) (fun i=>xs.length-i) 0 ?_ ?_
  ·refine⟨⟨rfl,rfl,rfl,rfl,trivial⟩,(Ad.refl _ w),?_,?_⟩
   ·omega
   ·exact ED.zero _ _
  rintro i a4 a5 ⟨a3,K0,hi,hno⟩ ih1;obtain⟨ρ₀,rfl⟩:=a3.ex;clear a3;refine jG ?_;refine jF ?_ ?_
  ·intro hc14
   refine jG ?_;obtain⟨a6,a7,x,hx,a8,a0⟩:=hs.eo i;have hc_9_lt:=a0.lt;obtain⟨a9,aa,y,hy,ab,a1⟩:=ht.eo i;have hc_15_lt:=a1.lt;refine Ai.drawR ?_;intro ac a2;replace a0:=(a0.ext K0).ext a2;replace a1:=(a1.ext K0).ext a2;refine jG ?_;refine jD (Jg Zk rfl rfl (Us x y)) ?_;refine jG ?_;replace K0:=K0.ext a2;refine jF ?_ ?_
   ·intro hc24
    refine jG ?_;refine jJ func67 ?_;exact⟨_,rfl,by rw[decide_eq_false (GV hx hy hc24)],K0⟩
   ·intro hc24
    refine jG ?_;refine jV (Az (c:=((i+1:Nat):Int)) (Au rfl rfl Zo Zo) rfl) ?_;refine jG ?_;refine ih1 (i+1) _ _ ?_ Zo;refine⟨⟨rfl,rfl,rfl,rfl,trivial⟩,K0,?_,?_⟩
    ·omega
    ·exact hno.step hx hy hc24
  ·intro hc14
   refine jG ?_;refine jJ func67 ?_;exact⟨_,rfl,by rw[decide_eq_true (hno.all hlen Zo)],K0⟩
theorem Hm (a:Option Addr)(xs:List Ab)(c:Nat)(w:World)(hs:Av w a xs)(hl:xs.length<=4294967295):
  Calls prog 85 #[.slice a xs.length c] w (AN (fun v w'=>∃a' c',v= .slice a' xs.length c'∧Af w' 46 a' c' xs∧(∀b,own a' b->w.heap.size<=b)∧Ap w w')):=by
 refine Ac (n:=8) func85 rfl rfl rfl ?_;refine jG ?_;refine jV (JI underlying28 rfl rfl) ?_;refine jG ?_;refine Ai.cond rfl (fun hc4=> ?_) (fun hc4=> ?_)
 ·skip
  refine jG ?_;refine jJ func85 ?_;have hx:=hs.nil_of hc4;subst hx;exact⟨_,rfl,none,0,rfl,Af.nil _ _,fun b h=>absurd h (Ae b),(Ad.refl _ w)⟩
 ·skip
  refine jG ?_;refine jR<|AA.buildSlice ([]:List Ab) underlying28 ty46 rfl rfl Ze ?_;intro ab ac a0 a4 a5;have a1:=Bd (Aac _) (CV a0);clear a0;have K0:=(a5:Ap w _);refine jG ?_;refine jR<|AA.append (xs:=([]:List Ab)) (ys:=xs) underlying28 ty46 rfl rfl rfl a4 (hs.ext K0) Zr Zd ?_;intro a2 a6 ad a7 a8 a3 a9;have aa:∀q_,own a2 q_->w.heap.size<=q_:=a3.ge a1 K0.size;clear a3;clear a9;refine jG ?_;refine jJ func85 ?_;replace K0:=K0.new a8 a1;exact⟨_,rfl,a2,a6,by rw[Aaz],by simpa using a7,aa,K0⟩
theorem HE (a:Option Addr)(xs:List Ab)(c:Nat)(gf:FuncId)(caps:List Value)(q:Ab->Bool)(hen:DB prog gf)(w:World)(hs:Av w a xs)(hl:xs.length<=4294967295)(hq:∀x∈xs,∀w',Ap w w'->Calls prog gf (Enc.val x::caps).toArray w' (AN fun v w''=>v= .bool (q x)∧Ap w' w'')):
  Calls prog 158 #[.slice a xs.length c,.func (.func gf) #[] caps.toArray] w (AN (fun v w'=>v= .int .i64 (F2 q xs)∧Ap w w')):=by
 refine Ac (n:=19) func158 rfl rfl rfl ?_;refine jG ?_;refine Ai.loop (ι:=Nat) (fun i ρ' w'=>Holds ρ' [(0,.slice a xs.length c),(1,.func (.func gf) #[] caps.toArray),(7,.int .i64 ((xs.length:Nat):Int)),(8,.int .i64 ((i:Nat):Int))]∧Ap w w'∧(i<=xs.length)∧(GL q xs i)) (fun i=>xs.length-i) 0 ?_ ?_
 ·refine⟨⟨rfl,rfl,rfl,rfl,trivial⟩,(Ad.refl _ w),?_,?_⟩
  ·omega
  ·exact GL.zero _ _
 rintro i a3 a4 ⟨a1,K0,hi,hno⟩ ih1;obtain⟨ρ₀,rfl⟩:=a1.ex;clear a1;refine jG ?_;refine jF ?_ ?_
 ·intro hc9
  obtain⟨a5,a6,e,hx,a7,a0⟩:=hs.eo i;have hc_7_lt:=a0.lt;replace a0:=a0.ext K0;refine jG ?_;refine jR<|AA.callV (first:=[]) (vals:= .agg #[.int .i64 e.node,.int .i64 e.life,.int .i64 e.count]::caps) hen rfl rfl (hq e (BI hx) _ K0) ?_;rintro _ a8 ⟨rfl,a2⟩;refine jG ?_;replace K0:=K0.ext a2;refine Ai.cond rfl (fun hc16=> ?_) (fun hc16=> ?_)
  ·skip
   refine jG ?_;refine jJ func158 ?_;exact⟨_,rfl,by rw[GT hx hc16 hno],K0⟩
  ·skip
   refine jG ?_;refine jV (Az (c:=((i+1:Nat):Int)) (Au rfl rfl Zo Zo) rfl) ?_;refine jG ?_;refine ih1 (i+1) _ _ ?_ Zo;refine⟨⟨rfl,rfl,rfl,rfl,trivial⟩,K0,?_,?_⟩
   ·omega
   ·exact hno.step hx hc16
 ·intro hc9
  refine jG ?_;refine jJ func158 ?_;exact⟨_,rfl,by rw[F3 hno Zo],K0⟩
theorem Ev (a:Option Addr)(xs:List Ab)(c:Nat)(gf:FuncId)(caps:List Value)(q:Ab->Bool)(hen:DB prog gf)(w:World)(hs:Av w a xs)(hl:xs.length<=4294967295)(hq:∀x∈xs,∀w',Ap w w'->Calls prog gf (Enc.val x::caps).toArray w' (AN fun v w''=>v= .bool (q x)∧Ap w' w'')):
  Calls prog 99 #[.slice a xs.length c,.func (.func gf) #[] caps.toArray] w (AN (fun v w'=>v= .bool (xs.any q)∧Ap w w')):=by
 refine Ac (n:=9) func99 rfl rfl rfl ?_;refine jG ?_;refine jR<|jC (HE _ _ _ _ _ q hen _ hs Zo hq) ?_;rintro _ a1 ⟨rfl,a0⟩;have K0:=(a0:Ap w _);refine jG ?_;refine jJ func99 ?_;exact⟨_,rfl,by rw[GU],K0⟩
end
end Go.Proofs.YtjkaicjmfgekjaaGreatDoor
