/-
  Wa, Wb
-/
import Derived.Test.YtjkaicjmfgekjaaGreatDoorPcTail
import Derived.Test.YtjkaicjmfgekjaaGreatDoorPcYa
set_option linter.all false
set_option maxRecDepth 100000
set_option maxHeartbeats 4000000
namespace Go.Proofs.YtjkaicjmfgekjaaGreatDoor
open Go.Proofs.Tryz
attribute [local irreducible] RD RS AB RL RA RT CB Ai
section
namespace Wa
open Go.Proofs.Tryz
end Wa
open Wa
structure Ah where
 node:Int
 life:Int
 count:Int
instance : Enc Ah:=Enc.struct (λt=>[.int .i64 t.node,.int .i64 t.life,.int .i64 t.count]) 3 (λ_=>rfl) (λ_ v hv=>by simp at hv;rcases hv with rfl|rfl|rfl<;>rfl) Zd
def Ah.ext' {a b:Ah}(h0:a.node=b.node)(h1:a.life=b.life)(h2:a.count=b.count):a=b:=by cases a;cases b;simp_all
instance : DecidableEq Ah:=λa b=>if h:a.node=b.node/\a.life=b.life/\a.count=b.count then isTrue (Ah.ext' h.1 h.2.1 h.2.2)else isFalse (λe=>h (by subst e;exact⟨rfl,rfl,rfl⟩))
def OY (m:Nat)(a b:Ah)(w:World):(Op.equalIn (m+2) 73 (.agg #[.int .i64 a.node,.int .i64 a.life,.int .i64 a.count]) (.agg #[.int .i64 b.node,.int .i64 b.life,.int .i64 b.count])).run prog w= .ok (decide (a=b)) w:=by
 have h:=run_equalIn_struct (P:=prog) w (m+1) 73 #[.int .i64 a.node,.int .i64 a.life,.int .i64 a.count] #[.int .i64 b.node,.int .i64 b.life,.int .i64 b.count] underlying73 Zk;have h2:=(A8 (P:=prog) (d:=m+1) (xs:=#[.int .i64 a.node,.int .i64 a.life,.int .i64 a.count]) (ys:=#[.int .i64 b.node,.int .i64 b.life,.int .i64 b.count]) (fd:=(prog.fieldsOf 73).toList[0]) (fs:=[(prog.fieldsOf 73).toList[1],(prog.fieldsOf 73).toList[2]]) (r:=a.node==b.node) Zk (Bz ty3 rfl) (Bz ty3 rfl) (λw=>run_equalIn_int w m 3 .i64 .i64 a.node b.node underlying3) (A8 (P:=prog) (d:=m+1) (xs:=#[.int .i64 a.node,.int .i64 a.life,.int .i64 a.count]) (ys:=#[.int .i64 b.node,.int .i64 b.life,.int .i64 b.count]) (fd:=(prog.fieldsOf 73).toList[1]) (fs:=[(prog.fieldsOf 73).toList[2]]) (r:=a.life==b.life) Zk (Bz ty3 rfl) (Bz ty3 rfl) (λw=>run_equalIn_int w m 3 .i64 .i64 a.life b.life underlying3) (A8 (P:=prog) (d:=m+1) (xs:=#[.int .i64 a.node,.int .i64 a.life,.int .i64 a.count]) (ys:=#[.int .i64 b.node,.int .i64 b.life,.int .i64 b.count]) (fd:=(prog.fieldsOf 73).toList[2]) (fs:=[]) (r:=a.count==b.count) Zk (Bz ty3 rfl) (Bz ty3 rfl) (λw=>run_equalIn_int w m 3 .i64 .i64 a.count b.count underlying3) (C5 (m+1) _ _)))) w;refine h.trans (h2.trans ?_);congr 1;rw[AaD];simp only[Aao,beq_iff_eq,and_true,decide_eq_true_eq,Fi];exact⟨λh=>Ah.ext' h.1 h.2.1 h.2.2,λh=>by subst h;exact⟨rfl,rfl,rfl⟩⟩
def GA (a b:Ah)(w:World):(Op.equalIn 10000 73 (.agg #[.int .i64 a.node,.int .i64 a.life,.int .i64 a.count]) (.agg #[.int .i64 b.node,.int .i64 b.life,.int .i64 b.count])).run prog w= .ok (decide (a=b)) w:=OY 9998 a b w
structure Ab where
 node:Int
 life:Int
 count:Int
instance : Enc Ab:=Enc.struct (λt=>[.int .i64 t.node,.int .i64 t.life,.int .i64 t.count]) 3 (λ_=>rfl) (λ_ v hv=>by simp at hv;rcases hv with rfl|rfl|rfl<;>rfl) Zd
def Ab.ext' {a b:Ab}(h0:a.node=b.node)(h1:a.life=b.life)(h2:a.count=b.count):a=b:=by cases a;cases b;simp_all
instance : DecidableEq Ab:=λa b=>if h:a.node=b.node/\a.life=b.life/\a.count=b.count then isTrue (Ab.ext' h.1 h.2.1 h.2.2)else isFalse (λe=>h (by subst e;exact⟨rfl,rfl,rfl⟩))
def S0 (m:Nat)(a b:Ab)(w:World):(Op.equalIn (m+2) 46 (.agg #[.int .i64 a.node,.int .i64 a.life,.int .i64 a.count]) (.agg #[.int .i64 b.node,.int .i64 b.life,.int .i64 b.count])).run prog w= .ok (decide (a=b)) w:=by
 have h:=run_equalIn_struct (P:=prog) w (m+1) 46 #[.int .i64 a.node,.int .i64 a.life,.int .i64 a.count] #[.int .i64 b.node,.int .i64 b.life,.int .i64 b.count] underlying46 Zk;have h2:=(A8 (P:=prog) (d:=m+1) (xs:=#[.int .i64 a.node,.int .i64 a.life,.int .i64 a.count]) (ys:=#[.int .i64 b.node,.int .i64 b.life,.int .i64 b.count]) (fd:=(prog.fieldsOf 46).toList[0]) (fs:=[(prog.fieldsOf 46).toList[1],(prog.fieldsOf 46).toList[2]]) (r:=a.node==b.node) Zk (Bz ty3 rfl) (Bz ty3 rfl) (λw=>run_equalIn_int w m 3 .i64 .i64 a.node b.node underlying3) (A8 (P:=prog) (d:=m+1) (xs:=#[.int .i64 a.node,.int .i64 a.life,.int .i64 a.count]) (ys:=#[.int .i64 b.node,.int .i64 b.life,.int .i64 b.count]) (fd:=(prog.fieldsOf 46).toList[1]) (fs:=[(prog.fieldsOf 46).toList[2]]) (r:=a.life==b.life) Zk (Bz ty3 rfl) (Bz ty3 rfl) (λw=>run_equalIn_int w m 3 .i64 .i64 a.life b.life underlying3) (A8 (P:=prog) (d:=m+1) (xs:=#[.int .i64 a.node,.int .i64 a.life,.int .i64 a.count]) (ys:=#[.int .i64 b.node,.int .i64 b.life,.int .i64 b.count]) (fd:=(prog.fieldsOf 46).toList[2]) (fs:=[]) (r:=a.count==b.count) Zk (Bz ty3 rfl) (Bz ty3 rfl) (λw=>run_equalIn_int w m 3 .i64 .i64 a.count b.count underlying3) (C5 (m+1) _ _)))) w;refine h.trans (h2.trans ?_);congr 1;rw[AaD];simp only[Aao,beq_iff_eq,and_true,decide_eq_true_eq,Fi];exact⟨λh=>Ab.ext' h.1 h.2.1 h.2.2,λh=>by subst h;exact⟨rfl,rfl,rfl⟩⟩
def UZ (a b:Ab)(w:World):(Op.equalIn 10000 46 (.agg #[.int .i64 a.node,.int .i64 a.life,.int .i64 a.count]) (.agg #[.int .i64 b.node,.int .i64 b.life,.int .i64 b.count])).run prog w= .ok (decide (a=b)) w:=S0 9998 a b w
structure Hp where
 node:Int
 epoch:Int
 stamp:Int
 status:Int
instance : Enc Hp:=Enc.struct (λt=>[.int .i64 t.node,.int .i64 t.epoch,.int .i64 t.stamp,.int .i64 t.status]) 4 (λ_=>rfl) (λ_ v hv=>by simp at hv;rcases hv with rfl|rfl|rfl|rfl<;>rfl) Zd
def Hp.ext' {a b:Hp}(h0:a.node=b.node)(h1:a.epoch=b.epoch)(h2:a.stamp=b.stamp)(h3:a.status=b.status):a=b:=by cases a;cases b;simp_all
instance : DecidableEq Hp:=λa b=>if h:a.node=b.node/\a.epoch=b.epoch/\a.stamp=b.stamp/\a.status=b.status then isTrue (Hp.ext' h.1 h.2.1 h.2.2.1 h.2.2.2)else isFalse (λe=>h (by subst e;exact⟨rfl,rfl,rfl,rfl⟩))
structure ME where
 node:Int
 inc:Int
 status:Int
instance : Enc ME:=Enc.struct (λt=>[.int .i64 t.node,.int .i64 t.inc,.int .i64 t.status]) 3 (λ_=>rfl) (λ_ v hv=>by simp at hv;rcases hv with rfl|rfl|rfl<;>rfl) Zd
def ME.ext' {a b:ME}(h0:a.node=b.node)(h1:a.inc=b.inc)(h2:a.status=b.status):a=b:=by cases a;cases b;simp_all
instance : DecidableEq ME:=λa b=>if h:a.node=b.node/\a.inc=b.inc/\a.status=b.status then isTrue (ME.ext' h.1 h.2.1 h.2.2)else isFalse (λe=>h (by subst e;exact⟨rfl,rfl,rfl⟩))
structure S1 where
 place:Int
 key:ByteArray
 hash:Int
instance : Enc S1:=Enc.struct (λt=>[.int .i64 t.place,.string t.key,.int .u64 t.hash]) 3 (λ_=>rfl) (λ_ v hv=>by simp at hv;rcases hv with rfl|rfl|rfl<;>rfl) Zd
def S1.ext' {a b:S1}(h0:a.place=b.place)(h1:a.key=b.key)(h2:a.hash=b.hash):a=b:=by cases a;cases b;simp_all
instance : DecidableEq S1:=λa b=>if h:a.place=b.place/\a.key=b.key/\a.hash=b.hash then isTrue (S1.ext' h.1 h.2.1 h.2.2)else isFalse (λe=>h (by subst e;exact⟨rfl,rfl,rfl⟩))
structure Aj where
 item:ByteArray
 dot:Ah
 qty:Int
 price:Int
instance : Enc Aj:=Enc.struct (λt=>[.string t.item,.int .i64 t.dot.node,.int .i64 t.dot.life,.int .i64 t.dot.count,.int .i64 t.qty,.int .u64 t.price]) 6 (λ_=>rfl) (λ_ v hv=>by simp at hv;rcases hv with rfl|rfl|rfl|rfl|rfl|rfl<;>rfl) Zd
def Aj.ext' {a b:Aj}(h0:a.item=b.item)(h1:a.dot=b.dot)(h2:a.qty=b.qty)(h3:a.price=b.price):a=b:=by cases a;cases b;simp_all
instance : DecidableEq Aj:=λa b=>if h:a.item=b.item/\a.dot=b.dot/\a.qty=b.qty/\a.price=b.price then isTrue (Aj.ext' h.1 h.2.1 h.2.2.1 h.2.2.2)else isFalse (λe=>h (by subst e;exact⟨rfl,rfl,rfl,rfl⟩))
def Qp (m:Nat)(a b:Aj)(w:World):(Op.equalIn (m+3) 76 (.agg #[.string a.item,.int .i64 a.dot.node,.int .i64 a.dot.life,.int .i64 a.dot.count,.int .i64 a.qty,.int .u64 a.price]) (.agg #[.string b.item,.int .i64 b.dot.node,.int .i64 b.dot.life,.int .i64 b.dot.count,.int .i64 b.qty,.int .u64 b.price])).run prog w= .ok (decide (a=b)) w:=by
 have h:=run_equalIn_struct (P:=prog) w (m+2) 76 #[.string a.item,.int .i64 a.dot.node,.int .i64 a.dot.life,.int .i64 a.dot.count,.int .i64 a.qty,.int .u64 a.price] #[.string b.item,.int .i64 b.dot.node,.int .i64 b.dot.life,.int .i64 b.dot.count,.int .i64 b.qty,.int .u64 b.price] underlying76 Zk;have h2:=(A8 (P:=prog) (d:=m+2) (xs:=#[.string a.item,.int .i64 a.dot.node,.int .i64 a.dot.life,.int .i64 a.dot.count,.int .i64 a.qty,.int .u64 a.price]) (ys:=#[.string b.item,.int .i64 b.dot.node,.int .i64 b.dot.life,.int .i64 b.dot.count,.int .i64 b.qty,.int .u64 b.price]) (fd:=(prog.fieldsOf 76).toList[0]) (fs:=[(prog.fieldsOf 76).toList[1],(prog.fieldsOf 76).toList[2],(prog.fieldsOf 76).toList[3]]) (r:=a.item.toList==b.item.toList) Zk (Bz ty9 rfl) (Bz ty9 rfl) (λw=>run_equalIn_string w (m+1) 9 a.item b.item underlying9) (A8 (P:=prog) (d:=m+2) (xs:=#[.string a.item,.int .i64 a.dot.node,.int .i64 a.dot.life,.int .i64 a.dot.count,.int .i64 a.qty,.int .u64 a.price]) (ys:=#[.string b.item,.int .i64 b.dot.node,.int .i64 b.dot.life,.int .i64 b.dot.count,.int .i64 b.qty,.int .u64 b.price]) (fd:=(prog.fieldsOf 76).toList[1]) (fs:=[(prog.fieldsOf 76).toList[2],(prog.fieldsOf 76).toList[3]]) (r:=decide (a.dot=b.dot)) Zk (Me ty73 rfl) (Me ty73 rfl) (λw=>OY m a.dot b.dot w) (A8 (P:=prog) (d:=m+2) (xs:=#[.string a.item,.int .i64 a.dot.node,.int .i64 a.dot.life,.int .i64 a.dot.count,.int .i64 a.qty,.int .u64 a.price]) (ys:=#[.string b.item,.int .i64 b.dot.node,.int .i64 b.dot.life,.int .i64 b.dot.count,.int .i64 b.qty,.int .u64 b.price]) (fd:=(prog.fieldsOf 76).toList[2]) (fs:=[(prog.fieldsOf 76).toList[3]]) (r:=a.qty==b.qty) Zk (Bz ty3 rfl) (Bz ty3 rfl) (λw=>run_equalIn_int w (m+1) 3 .i64 .i64 a.qty b.qty underlying3) (A8 (P:=prog) (d:=m+2) (xs:=#[.string a.item,.int .i64 a.dot.node,.int .i64 a.dot.life,.int .i64 a.dot.count,.int .i64 a.qty,.int .u64 a.price]) (ys:=#[.string b.item,.int .i64 b.dot.node,.int .i64 b.dot.life,.int .i64 b.dot.count,.int .i64 b.qty,.int .u64 b.price]) (fd:=(prog.fieldsOf 76).toList[3]) (fs:=[]) (r:=a.price==b.price) Zk (Bz ty74 rfl) (Bz ty74 rfl) (λw=>run_equalIn_int w (m+1) 74 .u64 .u64 a.price b.price underlying74) (C5 (m+2) _ _))))) w;refine h.trans (h2.trans ?_);congr 1;rw[AaD];simp only[Aao,beq_iff_eq,and_true,decide_eq_true_eq,Fi];exact⟨λh=>Aj.ext' h.1 h.2.1 h.2.2.1 h.2.2.2,λh=>by subst h;exact⟨rfl,rfl,rfl,rfl⟩⟩
def Ji (a b:Aj)(w:World):(Op.equalIn 10000 76 (.agg #[.string a.item,.int .i64 a.dot.node,.int .i64 a.dot.life,.int .i64 a.dot.count,.int .i64 a.qty,.int .u64 a.price]) (.agg #[.string b.item,.int .i64 b.dot.node,.int .i64 b.dot.life,.int .i64 b.dot.count,.int .i64 b.qty,.int .u64 b.price])).run prog w= .ok (decide (a=b)) w:=Qp 9997 a b w
structure Qq where
 marks:SH
 cloud:SH
structure Bf where
 entries:SH
 ctx:Qq
structure ic where
 parts:Int
 copies:Int
 spots:Int
 members:SH
structure Y1 where
 kind:Int
 frm:Int
 to:Int
 req:Int
 key:ByteArray
 cart:Bf
 owner:Int
 part:Int
 n:Int
 ring:ic
 peers:SH
 sums:SH
instance : Enc Y1:=Enc.struct (λt=>[.int .i64 t.kind,.int .i64 t.frm,.int .i64 t.to,.int .i64 t.req,.string t.key,.slice t.cart.entries.a t.cart.entries.len t.cart.entries.cap,.slice t.cart.ctx.marks.a t.cart.ctx.marks.len t.cart.ctx.marks.cap,.slice t.cart.ctx.cloud.a t.cart.ctx.cloud.len t.cart.ctx.cloud.cap,.int .i64 t.owner,.int .i64 t.part,.int .i64 t.n,.int .i64 t.ring.parts,.int .i64 t.ring.copies,.int .i64 t.ring.spots,.slice t.ring.members.a t.ring.members.len t.ring.members.cap,.slice t.peers.a t.peers.len t.peers.cap,.slice t.sums.a t.sums.len t.sums.cap]) 17 (λ_=>rfl) (λ_ v hv=>by simp at hv;rcases hv with rfl|rfl|rfl|rfl|rfl|rfl|rfl|rfl|rfl|rfl|rfl|rfl|rfl|rfl|rfl|rfl|rfl<;>rfl) Zd
structure MV where
 kind:Int
 frm:Int
 to:Int
 req:Int
 key:ByteArray
 owner:Int
 part:Int
 n:Int
 parts:Int
 copies:Int
 spots:Int
 ent:List Aj
 mrk:List Ab
 cl:List Ah
 mem:List Hp
 pe:List ME
 su:List S1
def MV.ext' {a b:MV}(h0:a.kind=b.kind)(h1:a.frm=b.frm)(h2:a.to=b.to)(h3:a.req=b.req)(h4:a.key=b.key)(h5:a.owner=b.owner)(h6:a.part=b.part)(h7:a.n=b.n)(h8:a.parts=b.parts)(h9:a.copies=b.copies)(h10:a.spots=b.spots)(h11:a.ent=b.ent)(h12:a.mrk=b.mrk)(h13:a.cl=b.cl)(h14:a.mem=b.mem)(h15:a.pe=b.pe)(h16:a.su=b.su):a=b:=by cases a;cases b;simp_all
def MV.iff {a b:MV}:a=b↔a.kind=b.kind/\a.frm=b.frm/\a.to=b.to/\a.req=b.req/\a.key=b.key/\a.owner=b.owner/\a.part=b.part/\a.n=b.n/\a.parts=b.parts/\a.copies=b.copies/\a.spots=b.spots/\a.ent=b.ent/\a.mrk=b.mrk/\a.cl=b.cl/\a.mem=b.mem/\a.pe=b.pe/\a.su=b.su:=⟨λe=>by subst e;exact⟨rfl,rfl,rfl,rfl,rfl,rfl,rfl,rfl,rfl,rfl,rfl,rfl,rfl,rfl,rfl,rfl,rfl⟩,λh=>MV.ext' h.1 h.2.1 h.2.2.1 h.2.2.2.1 h.2.2.2.2.1 h.2.2.2.2.2.1 h.2.2.2.2.2.2.1 h.2.2.2.2.2.2.2.1 h.2.2.2.2.2.2.2.2.1 h.2.2.2.2.2.2.2.2.2.1 h.2.2.2.2.2.2.2.2.2.2.1 h.2.2.2.2.2.2.2.2.2.2.2.1 h.2.2.2.2.2.2.2.2.2.2.2.2.1 h.2.2.2.2.2.2.2.2.2.2.2.2.2.1 h.2.2.2.2.2.2.2.2.2.2.2.2.2.2.1 h.2.2.2.2.2.2.2.2.2.2.2.2.2.2.2.1 h.2.2.2.2.2.2.2.2.2.2.2.2.2.2.2.2⟩
instance : DecidableEq MV:=λa b=>if h:a.kind=b.kind/\a.frm=b.frm/\a.to=b.to/\a.req=b.req/\a.key=b.key/\a.owner=b.owner/\a.part=b.part/\a.n=b.n/\a.parts=b.parts/\a.copies=b.copies/\a.spots=b.spots/\a.ent=b.ent/\a.mrk=b.mrk/\a.cl=b.cl/\a.mem=b.mem/\a.pe=b.pe/\a.su=b.su then isTrue (MV.iff.2 h)else isFalse (λe=>h (MV.iff.1 e))
structure Gc where
 ea:Option Addr
 ec:Nat
 ma:Option Addr
 mc:Nat
 ca:Option Addr
 cc:Nat
 ba:Option Addr
 bc:Nat
 pa:Option Addr
 pc:Nat
 sa:Option Addr
 sc:Nat
abbrev CY (v:MV)(s:Gc):Y1:=⟨v.kind,v.frm,v.to,v.req,v.key,⟨⟨s.ea,v.ent.length,s.ec⟩,⟨⟨s.ma,v.mrk.length,s.mc⟩,⟨s.ca,v.cl.length,s.cc⟩⟩⟩,v.owner,v.part,v.n,⟨v.parts,v.copies,v.spots,⟨s.ba,v.mem.length,s.bc⟩⟩,⟨s.pa,v.pe.length,s.pc⟩,⟨s.sa,v.su.length,s.sc⟩⟩
structure Jj (w:World)(s:Gc)(v:MV):Prop where
 ent:Ax w s.ea v.ent
 mrk:Ax w s.ma v.mrk
 cl:Ax w s.ca v.cl
 mem:Ax w s.ba v.mem
 pe:Ax w s.pa v.pe
 su:Ax w s.sa v.su
structure Jk (w:World)(s:Gc)(v:MV):Prop where
 ent:Af w 76 s.ea s.ec v.ent
 mrk:Af w 46 s.ma s.mc v.mrk
 cl:Af w 73 s.ca s.cc v.cl
 mem:Af w 999998 s.ba s.bc v.mem
 pe:Af w 999998 s.pa s.pc v.pe
 su:Af w 999998 s.sa s.sc v.su
def j5 (s:Gc)(v:MV):Nat->Prop:=λq=>(v.ent≠ []/\own s.ea q)\/(v.mrk≠ []/\own s.ma q)\/(v.cl≠ []/\own s.ca q)\/(v.mem≠ []/\own s.ba q)\/(v.pe≠ []/\own s.pa q)\/(v.su≠ []/\own s.sa q)
def OZ (s:Gc):Nat->Prop:=λq=>own s.ea q\/own s.ma q\/own s.ca q\/own s.ba q\/own s.pa q\/own s.sa q
def U0 (s:Gc):Prop:=[own s.ea,own s.ma,own s.ca,own s.ba,own s.pa,own s.sa].Pairwise (λf g=>∀q,f q->¬g q)
def nilS :Gc:=⟨none,0,none,0,none,0,none,0,none,0,none,0⟩
def nilV :MV:=⟨0,0,0,0,⟨#[]⟩,0,0,0,0,0,0,[],[],[],[],[],[]⟩
structure IY (v:MV):Prop where
 ent:v.ent.length<=4294967295
 mrk:v.mrk.length<=4294967295
 cl:v.cl.length<=4294967295
 mem:v.mem.length<=4294967295
 pe:v.pe.length<=4294967295
 su:v.su.length<=4294967295
section
variable {w w':World}{s:Gc}{v:MV}{S:Nat->Prop}
def EZ {α:Type}[Enc α]{a:Option Addr}{xs:List α}(h:Ax w a xs)(hn:xs≠ []){q:Nat}(hq:own a q):q<w.heap.size:=by
 obtain⟨x,hx,rfl⟩:=hq;rcases h with rfl|⟨b,o,ha,hc⟩
 ·exact absurd rfl hn
 rw[hx]at ha;cases ha;exact hc.lt
def Jj.oL (h:Jj w s v):∀q,j5 s v q->q<w.heap.size:=by
 rintro q (⟨h1,h2⟩|⟨h1,h2⟩|⟨h1,h2⟩|⟨h1,h2⟩|⟨h1,h2⟩|⟨h1,h2⟩)
 ·exact EZ h.ent h1 h2
 ·exact EZ h.mrk h1 h2
 ·exact EZ h.cl h1 h2
 ·exact EZ h.mem h1 h2
 ·exact EZ h.pe h1 h2
 exact EZ h.su h1 h2
def Jj.kO (h:Jj w s v)(k:Ae S w w')(hn:∀q,j5 s v q->¬S q):Jj w' s v:=
 ⟨h.ent.keepN k (λx hx he=>hn x.block (Or.inl ⟨he,x,hx,rfl⟩)),h.mrk.keepN k (λx hx he=>hn x.block (Or.inr (Or.inl ⟨he,x,hx,rfl⟩))),h.cl.keepN k (λx hx he=>hn x.block (Or.inr (Or.inr (Or.inl ⟨he,x,hx,rfl⟩)))),h.mem.keepN k (λx hx he=>hn x.block (Or.inr (Or.inr (Or.inr (Or.inl ⟨he,x,hx,rfl⟩))))),h.pe.keepN k (λx hx he=>hn x.block (Or.inr (Or.inr (Or.inr (Or.inr (Or.inl ⟨he,x,hx,rfl⟩)))))),h.su.keepN k (λx hx he=>hn x.block (Or.inr (Or.inr (Or.inr (Or.inr (Or.inr (⟨he,x,hx,rfl⟩)))))))⟩
def Jj.ext (h:Jj w s v)(k:As w w'):Jj w' s v:=h.kO k λ_ _=>id
def Jk.oL (h:Jk w s v):∀q,OZ s q->q<w.heap.size:=by
 rintro q (hq|hq|hq|hq|hq|hq)
 ·exact h.ent.oL q hq
 ·exact h.mrk.oL q hq
 ·exact h.cl.oL q hq
 ·exact h.mem.oL q hq
 ·exact h.pe.oL q hq
 exact h.su.oL q hq
def Jk.kO (h:Jk w s v)(k:Ae S w w')(hn:∀q,OZ s q->¬S q):Jk w' s v:=
 ⟨h.ent.kO k (λq hq=>hn q (Or.inl hq)),h.mrk.kO k (λq hq=>hn q (Or.inr (Or.inl hq))),h.cl.kO k (λq hq=>hn q (Or.inr (Or.inr (Or.inl hq)))),h.mem.kO k (λq hq=>hn q (Or.inr (Or.inr (Or.inr (Or.inl hq))))),h.pe.kO k (λq hq=>hn q (Or.inr (Or.inr (Or.inr (Or.inr (Or.inl hq)))))),h.su.kO k (λq hq=>hn q (Or.inr (Or.inr (Or.inr (Or.inr (Or.inr hq))))))⟩
def Jk.ext (h:Jk w s v)(k:As w w'):Jk w' s v:=h.kO k λ_ _=>id
def Jk.r (h:Jk w s v):Jj w s v:=⟨h.ent.sl,h.mrk.sl,h.cl.sl,h.mem.sl,h.pe.sl,h.su.sl⟩
def nil_R :Jj w nilS nilV:=⟨Ax.nil _ _,Ax.nil _ _,Ax.nil _ _,Ax.nil _ _,Ax.nil _ _,Ax.nil _ _⟩
def nil_ok :IY nilV:=⟨by decide,by decide,by decide,by decide,by decide,by decide⟩
end
end
section
open Wa
section
variable {a b:MV}{s t:Gc}{w:World}
def ND (a b:MV):Bool:=decide (a.mrk=b.mrk)&&decide (a.cl=b.cl)
def G7 (a b:MV):Bool:=decide (a.ent=b.ent)&&ND a b
end
attribute [local irreducible] X
def S2 (a:Option Addr)(xs:List Aj)(c:Nat)(x:Aj)(w:World)(hs:Ax w a xs)(hl:xs.length<=4294967295):
  Calls prog 208 #[.slice a xs.length c,.agg #[.string x.item,.int .i64 x.dot.node,.int .i64 x.dot.life,.int .i64 x.dot.count,.int .i64 x.qty,.int .u64 x.price]] w (AU (λv w'=>v= .int .i64 (GM (x==·) xs)/\As w w')):=by
 refine kD (n:=19) func208 ?_;refine kQ ?_;intro a1 a7 a4 a0 a6;have:w.heap.size<=a1:=a4;clear a4;have K0:=(a6:As w _);refine jG ?_;refine Ai.loop (ι:=Nat) (λi ρ' w'=>Holds ρ' [(0,.slice a xs.length c),(3,jp a1),(7,.int .i64 ((xs.length:Nat):Int)),(8,.int .i64 ((i:Nat):Int))]/\As w w'/\(AC w' a1 [.string x.item,.int .i64 x.dot.node,.int .i64 x.dot.life,.int .i64 x.dot.count,.int .i64 x.qty,.int .u64 x.price] 76)/\(i<=xs.length)/\(GS (x==·) xs i)) (λi=>xs.length-i) 0 ?_ ?_
 ·refine⟨⟨rfl,rfl,rfl,rfl,trivial⟩,K0,a0,?_,?_⟩
  ·omega
  exact GS.zero _ _
 clear a0;clear K0;rintro i a8 a9 ⟨a5,K0,a0,hi,hno⟩ ih1;obtain⟨ρ₀,rfl⟩:=a5.ex;clear a5;refine kK ?_ ?_
 ·intro hc9;refine jG ?_;obtain⟨aa,ab,e,hx,ac,a2⟩:=hs.eo i;have hc_14_lt:=a2.lt;refine Ai.drawR ?_;intro ad a3;replace a2:=(a2.ext K0).ext a3;replace a0:=a0.ext a3;refine jG ?_;refine jD (GK Zk rfl rfl (Ji x e)) ?_;refine jG ?_;replace K0:=K0.ext a3;refine jF ?_ ?_
  ·intro hc16;refine kL func208 ?_;exact⟨_,rfl,by rw[Ig hx (by simpa using hc16) hno],K0⟩
  intro hc16;refine jG ?_;refine kC i ?_;refine ih1 (i+1) _ _ ?_ Zo;refine⟨⟨rfl,rfl,rfl,rfl,trivial⟩,K0,a0,?_,?_⟩
  ·omega
  exact hno.step hx (by simpa using hc16)
 intro hc9;refine kL func208 ?_;exact⟨_,rfl,by rw[GW hno Zo],K0⟩
def Iz (a:Option Addr)(xs:List Aj)(c:Nat)(x:Aj)(w:World)(hs:Ax w a xs)(hl:xs.length<=4294967295):
  Calls prog 150 #[.slice a xs.length c,.agg #[.string x.item,.int .i64 x.dot.node,.int .i64 x.dot.life,.int .i64 x.dot.count,.int .i64 x.qty,.int .u64 x.price]] w (AU (λv w'=>v= .bool (xs.any (x==·))/\As w w')):=by
 refine kD (n:=9) func150 ?_;refine kQ ?_;intro a1 a4 a0 a5 a2;have:w.heap.size<=a1:=a0;clear a0;have K0:=(a2:As w _);refine jG ?_;refine kS (S2 _ _ _ x _ (hs.ext K0) Zo) ?_;rintro _ a6 ⟨rfl,a3⟩;refine kL func150 ?_;replace K0:=K0.ext a3;exact⟨_,rfl,by rw[Ih],K0⟩
def MF (a:Option Addr)(xs:List Aj)(c:Nat)(d:Option Addr)(ys:List Aj)(e:Nat)(w:World)(hs:Ax w a xs)(ht:Ax w d ys)(hl:xs.length<=4294967295):
  Calls prog 44 #[.slice a xs.length c,.slice d ys.length e] w (AU (λv w'=>v= .bool (decide (xs=ys))/\As w w')):=by
 refine kD (n:=26) func44 ?_;refine jF ?_ ?_
 ·intro hc10;refine kL func44 ?_;exact⟨_,rfl,by rw[decide_eq_false (λh=>hc10 (by rw[h]))],(Ae.refl _ w)⟩
 intro hc10;have hlen:xs.length=ys.length:=by omega
 refine jG ?_;refine Ai.loop (ι:=Nat) (λi ρ' w'=>Holds ρ' [(0,.slice a xs.length c),(1,.slice d ys.length e),(12,.int .i64 ((xs.length:Nat):Int)),(13,.int .i64 ((i:Nat):Int))]/\As w w'/\(i<=xs.length)/\(EX xs ys i)) (λi=>xs.length-i) 0 ?_ ?_
 ·refine⟨⟨rfl,rfl,rfl,rfl,trivial⟩,(Ae.refl _ w),?_,?_⟩
  ·omega
  exact EX.zero _ _
 rintro i a4 a5 ⟨a3,K0,hi,hno⟩ ih1;obtain⟨ρ₀,rfl⟩:=a3.ex;clear a3;refine kK ?_ ?_
 ·intro hc14;refine jG ?_;obtain⟨a6,a7,x,hx,a8,a0⟩:=hs.eo i;have hc_9_lt:=a0.lt;obtain⟨a9,aa,y,hy,ab,a1⟩:=ht.eo i;have hc_15_lt:=a1.lt;refine Ai.drawR ?_;intro ac a2;replace a0:=(a0.ext K0).ext a2;replace a1:=(a1.ext K0).ext a2;refine jG ?_;refine jD (JC Zk rfl rfl (Ji x y)) ?_;refine jG ?_;replace K0:=K0.ext a2;refine jF ?_ ?_
  ·intro hc24;refine kL func44 ?_;exact⟨_,rfl,by rw[decide_eq_false (GX hx hy hc24)],K0⟩
  intro hc24;refine jG ?_;refine kC i ?_;refine ih1 (i+1) _ _ ?_ Zo;refine⟨⟨rfl,rfl,rfl,rfl,trivial⟩,K0,?_,?_⟩
  ·omega
  exact hno.step hx hy hc24
 intro hc14;refine kL func44 ?_;exact⟨_,rfl,by rw[decide_eq_true (hno.all hlen Zo)],K0⟩
def MG (a:Option Addr)(xs:List Aj)(c:Nat)(w:World)(hs:Ax w a xs)(hl:xs.length<=4294967295):
  Calls prog 41 #[.slice a xs.length c] w (AU (λv w'=>∃a' c',v= .slice a' xs.length c'/\Af w' 76 a' c' xs/\(∀b,own a' b->w.heap.size<=b)/\As w w')):=by
 refine kD (n:=8) func41 ?_;refine kE (J1 underlying27 rfl rfl) ?_;refine Ai.cond rfl (λhc4=> ?_) (λhc4=> ?_)
 ·skip;refine kL func41 ?_;have hx:=hs.nil_of hc4;subst hx;exact⟨_,rfl,none,0,rfl,Af.nil _ _,λb h=>absurd h (Ad b),(Ae.refl _ w)⟩
 skip;refine jG ?_;refine jR<|AB.buildSlice ([]:List Aj) underlying27 ty76 rfl rfl Ze ?_;intro ab ac a0 a4 a5;have a1:=Bg (Aac _) (Du a0);clear a0;have K0:=(a5:As w _);refine jG ?_;refine jR<|AB.append (xs:=([]:List Aj)) (ys:=xs) underlying27 ty76 rfl rfl rfl a4 (hs.ext K0) Zr Zd ?_;intro a2 a6 ad a7 a8 a3 a9;have aa:∀q_,own a2 q_->w.heap.size<=q_:=a3.ge a1 K0.size;clear a3;clear a9;refine kL func41 ?_;replace K0:=K0.new a8 a1;exact⟨_,rfl,a2,a6,by rw[Aay],by simpa using a7,aa,K0⟩
def L1 (a:Option Addr)(xs:List Aj)(c:Nat)(gf:FuncId)(caps:List Value)(q:Aj->Bool)(hen:DQ prog gf)(w:World)(hs:Ax w a xs)(hl:xs.length<=4294967295)(hq:∀x∈xs,∀w',As w w'->Calls prog gf (Enc.val x::caps).toArray w' (AU λv w''=>v= .bool (q x)/\As w' w'')):
  Calls prog 216 #[.slice a xs.length c,.func (.func gf) #[] caps.toArray] w (AU (λv w'=>v= .int .i64 (GM q xs)/\As w w')):=by
 refine kD (n:=19) func216 ?_;refine Ai.loop (ι:=Nat) (λi ρ' w'=>Holds ρ' [(0,.slice a xs.length c),(1,.func (.func gf) #[] caps.toArray),(7,.int .i64 ((xs.length:Nat):Int)),(8,.int .i64 ((i:Nat):Int))]/\As w w'/\(i<=xs.length)/\(GS q xs i)) (λi=>xs.length-i) 0 ?_ ?_
 ·refine⟨⟨rfl,rfl,rfl,rfl,trivial⟩,(Ae.refl _ w),?_,?_⟩
  ·omega
  exact GS.zero _ _
 rintro i a3 a4 ⟨a1,K0,hi,hno⟩ ih1;obtain⟨ρ₀,rfl⟩:=a1.ex;clear a1;refine kK ?_ ?_
 ·intro hc9;obtain⟨a5,a6,e,hx,a7,a0⟩:=hs.eo i;have hc_7_lt:=a0.lt;replace a0:=a0.ext K0;refine jG ?_;refine jR<|AB.callV (first:=[]) (vals:= .agg #[.string e.item,.int .i64 e.dot.node,.int .i64 e.dot.life,.int .i64 e.dot.count,.int .i64 e.qty,.int .u64 e.price]::caps) hen rfl rfl (hq e (BH hx) _ K0) ?_;rintro _ a8 ⟨rfl,a2⟩;refine jG ?_;replace K0:=K0.ext a2;refine Ai.cond rfl (λhc16=> ?_) (λhc16=> ?_)
  ·skip;refine kL func216 ?_;exact⟨_,rfl,by rw[Ig hx hc16 hno],K0⟩
  skip;refine jG ?_;refine kC i ?_;refine ih1 (i+1) _ _ ?_ Zo;refine⟨⟨rfl,rfl,rfl,rfl,trivial⟩,K0,?_,?_⟩
  ·omega
  exact hno.step hx hc16
 intro hc9;refine kL func216 ?_;exact⟨_,rfl,by rw[GW hno Zo],K0⟩
def Jl (a:Option Addr)(xs:List Aj)(c:Nat)(gf:FuncId)(caps:List Value)(q:Aj->Bool)(hen:DQ prog gf)(w:World)(hs:Ax w a xs)(hl:xs.length<=4294967295)(hq:∀x∈xs,∀w',As w w'->Calls prog gf (Enc.val x::caps).toArray w' (AU λv w''=>v= .bool (q x)/\As w' w'')):
  Calls prog 159 #[.slice a xs.length c,.func (.func gf) #[] caps.toArray] w (AU (λv w'=>v= .bool (xs.any q)/\As w w')):=by
 refine kD (n:=9) func159 ?_;refine kS (L1 _ _ _ _ _ q hen _ hs Zo hq) ?_;rintro _ a1 ⟨rfl,a0⟩;have K0:=(a0:As w _);refine kL func159 ?_;exact⟨_,rfl,by rw[Ih],K0⟩
def Jm (a:Option Addr)(xs:List Ab)(c:Nat)(d:Option Addr)(ys:List Ab)(e:Nat)(w:World)(hs:Ax w a xs)(ht:Ax w d ys)(hl:xs.length<=4294967295):
  Calls prog 67 #[.slice a xs.length c,.slice d ys.length e] w (AU (λv w'=>v= .bool (decide (xs=ys))/\As w w')):=by
 refine kD (n:=26) func67 ?_;refine jF ?_ ?_
 ·intro hc10;refine kL func67 ?_;exact⟨_,rfl,by rw[decide_eq_false (λh=>hc10 (by rw[h]))],(Ae.refl _ w)⟩
 intro hc10;have hlen:xs.length=ys.length:=by omega
 refine jG ?_;refine Ai.loop (ι:=Nat) (λi ρ' w'=>Holds ρ' [(0,.slice a xs.length c),(1,.slice d ys.length e),(12,.int .i64 ((xs.length:Nat):Int)),(13,.int .i64 ((i:Nat):Int))]/\As w w'/\(i<=xs.length)/\(EX xs ys i)) (λi=>xs.length-i) 0 ?_ ?_
 ·refine⟨⟨rfl,rfl,rfl,rfl,trivial⟩,(Ae.refl _ w),?_,?_⟩
  ·omega
  exact EX.zero _ _
 rintro i a4 a5 ⟨a3,K0,hi,hno⟩ ih1;obtain⟨ρ₀,rfl⟩:=a3.ex;clear a3;refine kK ?_ ?_
 ·intro hc14;refine jG ?_;obtain⟨a6,a7,x,hx,a8,a0⟩:=hs.eo i;have hc_9_lt:=a0.lt;obtain⟨a9,aa,y,hy,ab,a1⟩:=ht.eo i;have hc_15_lt:=a1.lt;refine Ai.drawR ?_;intro ac a2;replace a0:=(a0.ext K0).ext a2;replace a1:=(a1.ext K0).ext a2;refine jG ?_;refine jD (JC Zk rfl rfl (UZ x y)) ?_;refine jG ?_;replace K0:=K0.ext a2;refine jF ?_ ?_
  ·intro hc24;refine kL func67 ?_;exact⟨_,rfl,by rw[decide_eq_false (GX hx hy hc24)],K0⟩
  intro hc24;refine jG ?_;refine kC i ?_;refine ih1 (i+1) _ _ ?_ Zo;refine⟨⟨rfl,rfl,rfl,rfl,trivial⟩,K0,?_,?_⟩
  ·omega
  exact hno.step hx hy hc24
 intro hc14;refine kL func67 ?_;exact⟨_,rfl,by rw[decide_eq_true (hno.all hlen Zo)],K0⟩
def Hq (a:Option Addr)(xs:List Ab)(c:Nat)(w:World)(hs:Ax w a xs)(hl:xs.length<=4294967295):
  Calls prog 85 #[.slice a xs.length c] w (AU (λv w'=>∃a' c',v= .slice a' xs.length c'/\Af w' 46 a' c' xs/\(∀b,own a' b->w.heap.size<=b)/\As w w')):=by
 refine kD (n:=8) func85 ?_;refine kE (J1 underlying28 rfl rfl) ?_;refine Ai.cond rfl (λhc4=> ?_) (λhc4=> ?_)
 ·skip;refine kL func85 ?_;have hx:=hs.nil_of hc4;subst hx;exact⟨_,rfl,none,0,rfl,Af.nil _ _,λb h=>absurd h (Ad b),(Ae.refl _ w)⟩
 skip;refine jG ?_;refine jR<|AB.buildSlice ([]:List Ab) underlying28 ty46 rfl rfl Ze ?_;intro ab ac a0 a4 a5;have a1:=Bg (Aac _) (Du a0);clear a0;have K0:=(a5:As w _);refine jG ?_;refine jR<|AB.append (xs:=([]:List Ab)) (ys:=xs) underlying28 ty46 rfl rfl rfl a4 (hs.ext K0) Zr Zd ?_;intro a2 a6 ad a7 a8 a3 a9;have aa:∀q_,own a2 q_->w.heap.size<=q_:=a3.ge a1 K0.size;clear a3;clear a9;refine kL func85 ?_;replace K0:=K0.new a8 a1;exact⟨_,rfl,a2,a6,by rw[Aay],by simpa using a7,aa,K0⟩
def HI (a:Option Addr)(xs:List Ab)(c:Nat)(gf:FuncId)(caps:List Value)(q:Ab->Bool)(hen:DQ prog gf)(w:World)(hs:Ax w a xs)(hl:xs.length<=4294967295)(hq:∀x∈xs,∀w',As w w'->Calls prog gf (Enc.val x::caps).toArray w' (AU λv w''=>v= .bool (q x)/\As w' w'')):
  Calls prog 158 #[.slice a xs.length c,.func (.func gf) #[] caps.toArray] w (AU (λv w'=>v= .int .i64 (GM q xs)/\As w w')):=by
 refine kD (n:=19) func158 ?_;refine Ai.loop (ι:=Nat) (λi ρ' w'=>Holds ρ' [(0,.slice a xs.length c),(1,.func (.func gf) #[] caps.toArray),(7,.int .i64 ((xs.length:Nat):Int)),(8,.int .i64 ((i:Nat):Int))]/\As w w'/\(i<=xs.length)/\(GS q xs i)) (λi=>xs.length-i) 0 ?_ ?_
 ·refine⟨⟨rfl,rfl,rfl,rfl,trivial⟩,(Ae.refl _ w),?_,?_⟩
  ·omega
  exact GS.zero _ _
 rintro i a3 a4 ⟨a1,K0,hi,hno⟩ ih1;obtain⟨ρ₀,rfl⟩:=a1.ex;clear a1;refine kK ?_ ?_
 ·intro hc9;obtain⟨a5,a6,e,hx,a7,a0⟩:=hs.eo i;have hc_7_lt:=a0.lt;replace a0:=a0.ext K0;refine jG ?_;refine jR<|AB.callV (first:=[]) (vals:= .agg #[.int .i64 e.node,.int .i64 e.life,.int .i64 e.count]::caps) hen rfl rfl (hq e (BH hx) _ K0) ?_;rintro _ a8 ⟨rfl,a2⟩;refine jG ?_;replace K0:=K0.ext a2;refine Ai.cond rfl (λhc16=> ?_) (λhc16=> ?_)
  ·skip;refine kL func158 ?_;exact⟨_,rfl,by rw[Ig hx hc16 hno],K0⟩
  skip;refine jG ?_;refine kC i ?_;refine ih1 (i+1) _ _ ?_ Zo;refine⟨⟨rfl,rfl,rfl,rfl,trivial⟩,K0,?_,?_⟩
  ·omega
  exact hno.step hx hc16
 intro hc9;refine kL func158 ?_;exact⟨_,rfl,by rw[GW hno Zo],K0⟩
def EN (a:Option Addr)(xs:List Ab)(c:Nat)(gf:FuncId)(caps:List Value)(q:Ab->Bool)(hen:DQ prog gf)(w:World)(hs:Ax w a xs)(hl:xs.length<=4294967295)(hq:∀x∈xs,∀w',As w w'->Calls prog gf (Enc.val x::caps).toArray w' (AU λv w''=>v= .bool (q x)/\As w' w'')):
  Calls prog 99 #[.slice a xs.length c,.func (.func gf) #[] caps.toArray] w (AU (λv w'=>v= .bool (xs.any q)/\As w w')):=by
 refine kD (n:=9) func99 ?_;refine kS (HI _ _ _ _ _ q hen _ hs Zo hq) ?_;rintro _ a1 ⟨rfl,a0⟩;have K0:=(a0:As w _);refine kL func99 ?_;exact⟨_,rfl,by rw[Ih],K0⟩
end
end Go.Proofs.YtjkaicjmfgekjaaGreatDoor
