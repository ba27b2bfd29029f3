/-
  Wa
-/
import Derived.Test.YtjkaicjmfgekjaaGreatDoorRows
import Derived.Test.YtjkaicjmfgekjaaGreatDoorPkMap
import Derived.Test.YtjkaicjmfgekjaaGreatDoorPkStr
import Derived.Test.YtjkaicjmfgekjaaGreatDoorPkTail
import Derived.Test.YtjkaicjmfgekjaaGreatDoorPkIface
import Derived.Test.YtjkaicjmfgekjaaGreatDoorPkSeg
import Derived.Test.YtjkaicjmfgekjaaGreatDoorPkPlain
import Derived.Test.YtjkaicjmfgekjaaGreatDoorPkYh
import Derived.Test.YtjkaicjmfgekjaaGreatDoorPkI
set_option linter.all false
set_option maxRecDepth 100000
set_option maxHeartbeats 4000000
namespace Go.Proofs.YtjkaicjmfgekjaaGreatDoor
open Go.Proofs.Tryz
attribute [local irreducible] RD RS Av RL RA RT CJ Aj
namespace Wa
open Go.Proofs.Tryz
end Wa
open Wa
structure Ad where
 node:Int
 life:Int
 count:Int
instance : Enc Ad:=Enc.struct (fun t=>[.int .i64 t.node,.int .i64 t.life,.int .i64 t.count]) 3 (fun _=>rfl) (fun _ v hv=>by simp at hv;rcases hv with rfl|rfl|rfl<;>rfl) Zd
theorem Ad.ext' {a b:Ad}(h0:a.node=b.node)(h1:a.life=b.life)(h2:a.count=b.count):a=b:=by cases a;cases b;simp_all
instance : DecidableEq Ad:=fun a b=>if h:a.node=b.node∧a.life=b.life∧a.count=b.count then isTrue (Ad.ext' h.1 h.2.1 h.2.2)else isFalse (fun e=>h (by subst e;exact⟨rfl,rfl,rfl⟩))
theorem Mi (m:Nat)(a b:Ad)(w:World):(Op.equalIn (m+2) 73 (.agg #[.int .i64 a.node,.int .i64 a.life,.int .i64 a.count]) (.agg #[.int .i64 b.node,.int .i64 b.life,.int .i64 b.count])).run prog w= .ok (decide (a=b)) w:=by
 have h:=run_equalIn_struct (P:=prog) w (m+1) 73 #[.int .i64 a.node,.int .i64 a.life,.int .i64 a.count] #[.int .i64 b.node,.int .i64 b.life,.int .i64 b.count] underlying73 Zk
 have h2:=(AP (P:=prog) (d:=m+1) (xs:=#[.int .i64 a.node,.int .i64 a.life,.int .i64 a.count]) (ys:=#[.int .i64 b.node,.int .i64 b.life,.int .i64 b.count]) (fd:=(prog.fieldsOf 73).toList[0]) (fs:=[(prog.fieldsOf 73).toList[1],(prog.fieldsOf 73).toList[2]]) (r:=a.node==b.node) Zk (Bh ty3 rfl) (Bh ty3 rfl) (fun w=>run_equalIn_int w m 3 .i64 .i64 a.node b.node underlying3) (AP (P:=prog) (d:=m+1) (xs:=#[.int .i64 a.node,.int .i64 a.life,.int .i64 a.count]) (ys:=#[.int .i64 b.node,.int .i64 b.life,.int .i64 b.count]) (fd:=(prog.fieldsOf 73).toList[1]) (fs:=[(prog.fieldsOf 73).toList[2]]) (r:=a.life==b.life) Zk (Bh ty3 rfl) (Bh ty3 rfl) (fun w=>run_equalIn_int w m 3 .i64 .i64 a.life b.life underlying3) (AP (P:=prog) (d:=m+1) (xs:=#[.int .i64 a.node,.int .i64 a.life,.int .i64 a.count]) (ys:=#[.int .i64 b.node,.int .i64 b.life,.int .i64 b.count]) (fd:=(prog.fieldsOf 73).toList[2]) (fs:=[]) (r:=a.count==b.count) Zk (Bh ty3 rfl) (Bh ty3 rfl) (fun w=>run_equalIn_int w m 3 .i64 .i64 a.count b.count underlying3) (CV (m+1) _ _)))) w
 refine h.trans (h2.trans ?_)
 congr 1
 rw[Bool.eq_iff_iff]
 simp only[Bool.and_eq_true,beq_iff_eq,and_true,decide_eq_true_eq,ER]
 exact⟨fun h=>Ad.ext' h.1 h.2.1 h.2.2,fun h=>by subst h;exact⟨rfl,rfl,rfl⟩⟩
theorem C9 (a b:Ad)(w:World):(Op.equalIn 10000 73 (.agg #[.int .i64 a.node,.int .i64 a.life,.int .i64 a.count]) (.agg #[.int .i64 b.node,.int .i64 b.life,.int .i64 b.count])).run prog w= .ok (decide (a=b)) w:=Mi 9998 a b w
structure Aa where
 node:Int
 life:Int
 count:Int
instance : Enc Aa:=Enc.struct (fun t=>[.int .i64 t.node,.int .i64 t.life,.int .i64 t.count]) 3 (fun _=>rfl) (fun _ v hv=>by simp at hv;rcases hv with rfl|rfl|rfl<;>rfl) Zd
theorem Aa.ext' {a b:Aa}(h0:a.node=b.node)(h1:a.life=b.life)(h2:a.count=b.count):a=b:=by cases a;cases b;simp_all
instance : DecidableEq Aa:=fun a b=>if h:a.node=b.node∧a.life=b.life∧a.count=b.count then isTrue (Aa.ext' h.1 h.2.1 h.2.2)else isFalse (fun e=>h (by subst e;exact⟨rfl,rfl,rfl⟩))
theorem PK (m:Nat)(a b:Aa)(w:World):(Op.equalIn (m+2) 46 (.agg #[.int .i64 a.node,.int .i64 a.life,.int .i64 a.count]) (.agg #[.int .i64 b.node,.int .i64 b.life,.int .i64 b.count])).run prog w= .ok (decide (a=b)) w:=by
 have h:=run_equalIn_struct (P:=prog) w (m+1) 46 #[.int .i64 a.node,.int .i64 a.life,.int .i64 a.count] #[.int .i64 b.node,.int .i64 b.life,.int .i64 b.count] underlying46 Zk
 have h2:=(AP (P:=prog) (d:=m+1) (xs:=#[.int .i64 a.node,.int .i64 a.life,.int .i64 a.count]) (ys:=#[.int .i64 b.node,.int .i64 b.life,.int .i64 b.count]) (fd:=(prog.fieldsOf 46).toList[0]) (fs:=[(prog.fieldsOf 46).toList[1],(prog.fieldsOf 46).toList[2]]) (r:=a.node==b.node) Zk (Bh ty3 rfl) (Bh ty3 rfl) (fun w=>run_equalIn_int w m 3 .i64 .i64 a.node b.node underlying3) (AP (P:=prog) (d:=m+1) (xs:=#[.int .i64 a.node,.int .i64 a.life,.int .i64 a.count]) (ys:=#[.int .i64 b.node,.int .i64 b.life,.int .i64 b.count]) (fd:=(prog.fieldsOf 46).toList[1]) (fs:=[(prog.fieldsOf 46).toList[2]]) (r:=a.life==b.life) Zk (Bh ty3 rfl) (Bh ty3 rfl) (fun w=>run_equalIn_int w m 3 .i64 .i64 a.life b.life underlying3) (AP (P:=prog) (d:=m+1) (xs:=#[.int .i64 a.node,.int .i64 a.life,.int .i64 a.count]) (ys:=#[.int .i64 b.node,.int .i64 b.life,.int .i64 b.count]) (fd:=(prog.fieldsOf 46).toList[2]) (fs:=[]) (r:=a.count==b.count) Zk (Bh ty3 rfl) (Bh ty3 rfl) (fun w=>run_equalIn_int w m 3 .i64 .i64 a.count b.count underlying3) (CV (m+1) _ _)))) w
 refine h.trans (h2.trans ?_)
 congr 1
 rw[Bool.eq_iff_iff]
 simp only[Bool.and_eq_true,beq_iff_eq,and_true,decide_eq_true_eq,ER]
 exact⟨fun h=>Aa.ext' h.1 h.2.1 h.2.2,fun h=>by subst h;exact⟨rfl,rfl,rfl⟩⟩
theorem Ro (a b:Aa)(w:World):(Op.equalIn 10000 46 (.agg #[.int .i64 a.node,.int .i64 a.life,.int .i64 a.count]) (.agg #[.int .i64 b.node,.int .i64 b.life,.int .i64 b.count])).run prog w= .ok (decide (a=b)) w:=PK 9998 a b w
structure F7 where
 node:Int
 epoch:Int
 stamp:Int
 status:Int
instance : Enc F7:=Enc.struct (fun t=>[.int .i64 t.node,.int .i64 t.epoch,.int .i64 t.stamp,.int .i64 t.status]) 4 (fun _=>rfl) (fun _ v hv=>by simp at hv;rcases hv with rfl|rfl|rfl|rfl<;>rfl) Zd
theorem F7.ext' {a b:F7}(h0:a.node=b.node)(h1:a.epoch=b.epoch)(h2:a.stamp=b.stamp)(h3:a.status=b.status):a=b:=by cases a;cases b;simp_all
instance : DecidableEq F7:=fun a b=>if h:a.node=b.node∧a.epoch=b.epoch∧a.stamp=b.stamp∧a.status=b.status then isTrue (F7.ext' h.1 h.2.1 h.2.2.1 h.2.2.2)else isFalse (fun e=>h (by subst e;exact⟨rfl,rfl,rfl,rfl⟩))
structure Kj where
 node:Int
 inc:Int
 status:Int
instance : Enc Kj:=Enc.struct (fun t=>[.int .i64 t.node,.int .i64 t.inc,.int .i64 t.status]) 3 (fun _=>rfl) (fun _ v hv=>by simp at hv;rcases hv with rfl|rfl|rfl<;>rfl) Zd
theorem Kj.ext' {a b:Kj}(h0:a.node=b.node)(h1:a.inc=b.inc)(h2:a.status=b.status):a=b:=by cases a;cases b;simp_all
instance : DecidableEq Kj:=fun a b=>if h:a.node=b.node∧a.inc=b.inc∧a.status=b.status then isTrue (Kj.ext' h.1 h.2.1 h.2.2)else isFalse (fun e=>h (by subst e;exact⟨rfl,rfl,rfl⟩))
structure PL where
 place:Int
 key:ByteArray
 hash:Int
instance : Enc PL:=Enc.struct (fun t=>[.int .i64 t.place,.string t.key,.int .u64 t.hash]) 3 (fun _=>rfl) (fun _ v hv=>by simp at hv;rcases hv with rfl|rfl|rfl<;>rfl) Zd
theorem PL.ext' {a b:PL}(h0:a.place=b.place)(h1:a.key=b.key)(h2:a.hash=b.hash):a=b:=by cases a;cases b;simp_all
instance : DecidableEq PL:=fun a b=>if h:a.place=b.place∧a.key=b.key∧a.hash=b.hash then isTrue (PL.ext' h.1 h.2.1 h.2.2)else isFalse (fun e=>h (by subst e;exact⟨rfl,rfl,rfl⟩))
structure Ag where
 item:ByteArray
 dot:Ad
 qty:Int
 price:Int
instance : Enc Ag:=Enc.struct (fun t=>[.string t.item,.int .i64 t.dot.node,.int .i64 t.dot.life,.int .i64 t.dot.count,.int .i64 t.qty,.int .u64 t.price]) 6 (fun _=>rfl) (fun _ v hv=>by simp at hv;rcases hv with rfl|rfl|rfl|rfl|rfl|rfl<;>rfl) Zd
theorem Ag.ext' {a b:Ag}(h0:a.item=b.item)(h1:a.dot=b.dot)(h2:a.qty=b.qty)(h3:a.price=b.price):a=b:=by cases a;cases b;simp_all
instance : DecidableEq Ag:=fun a b=>if h:a.item=b.item∧a.dot=b.dot∧a.qty=b.qty∧a.price=b.price then isTrue (Ag.ext' h.1 h.2.1 h.2.2.1 h.2.2.2)else isFalse (fun e=>h (by subst e;exact⟨rfl,rfl,rfl,rfl⟩))
theorem NA (m:Nat)(a b:Ag)(w:World):(Op.equalIn (m+3) 76 (.agg #[.string a.item,.int .i64 a.dot.node,.int .i64 a.dot.life,.int .i64 a.dot.count,.int .i64 a.qty,.int .u64 a.price]) (.agg #[.string b.item,.int .i64 b.dot.node,.int .i64 b.dot.life,.int .i64 b.dot.count,.int .i64 b.qty,.int .u64 b.price])).run prog w= .ok (decide (a=b)) w:=by
 have h:=run_equalIn_struct (P:=prog) w (m+2) 76 #[.string a.item,.int .i64 a.dot.node,.int .i64 a.dot.life,.int .i64 a.dot.count,.int .i64 a.qty,.int .u64 a.price] #[.string b.item,.int .i64 b.dot.node,.int .i64 b.dot.life,.int .i64 b.dot.count,.int .i64 b.qty,.int .u64 b.price] underlying76 Zk
 have h2:=(AP (P:=prog) (d:=m+2) (xs:=#[.string a.item,.int .i64 a.dot.node,.int .i64 a.dot.life,.int .i64 a.dot.count,.int .i64 a.qty,.int .u64 a.price]) (ys:=#[.string b.item,.int .i64 b.dot.node,.int .i64 b.dot.life,.int .i64 b.dot.count,.int .i64 b.qty,.int .u64 b.price]) (fd:=(prog.fieldsOf 76).toList[0]) (fs:=[(prog.fieldsOf 76).toList[1],(prog.fieldsOf 76).toList[2],(prog.fieldsOf 76).toList[3]]) (r:=a.item.toList==b.item.toList) Zk (Bh ty9 rfl) (Bh ty9 rfl) (fun w=>run_equalIn_string w (m+1) 9 a.item b.item underlying9) (AP (P:=prog) (d:=m+2) (xs:=#[.string a.item,.int .i64 a.dot.node,.int .i64 a.dot.life,.int .i64 a.dot.count,.int .i64 a.qty,.int .u64 a.price]) (ys:=#[.string b.item,.int .i64 b.dot.node,.int .i64 b.dot.life,.int .i64 b.dot.count,.int .i64 b.qty,.int .u64 b.price]) (fd:=(prog.fieldsOf 76).toList[1]) (fs:=[(prog.fieldsOf 76).toList[2],(prog.fieldsOf 76).toList[3]]) (r:=decide (a.dot=b.dot)) Zk (JP ty73 rfl) (JP ty73 rfl) (fun w=>Mi m a.dot b.dot w) (AP (P:=prog) (d:=m+2) (xs:=#[.string a.item,.int .i64 a.dot.node,.int .i64 a.dot.life,.int .i64 a.dot.count,.int .i64 a.qty,.int .u64 a.price]) (ys:=#[.string b.item,.int .i64 b.dot.node,.int .i64 b.dot.life,.int .i64 b.dot.count,.int .i64 b.qty,.int .u64 b.price]) (fd:=(prog.fieldsOf 76).toList[2]) (fs:=[(prog.fieldsOf 76).toList[3]]) (r:=a.qty==b.qty) Zk (Bh ty3 rfl) (Bh ty3 rfl) (fun w=>run_equalIn_int w (m+1) 3 .i64 .i64 a.qty b.qty underlying3) (AP (P:=prog) (d:=m+2) (xs:=#[.string a.item,.int .i64 a.dot.node,.int .i64 a.dot.life,.int .i64 a.dot.count,.int .i64 a.qty,.int .u64 a.price]) (ys:=#[.string b.item,.int .i64 b.dot.node,.int .i64 b.dot.life,.int .i64 b.dot.count,.int .i64 b.qty,.int .u64 b.price]) (fd:=(prog.fieldsOf 76).toList[3]) (fs:=[]) (r:=a.price==b.price) Zk (Bh ty74 rfl) (Bh ty74 rfl) (fun w=>run_equalIn_int w (m+1) 74 .u64 .u64 a.price b.price underlying74) (CV (m+2) _ _))))) w
 refine h.trans (h2.trans ?_)
 congr 1
 rw[Bool.eq_iff_iff]
 simp only[Bool.and_eq_true,beq_iff_eq,and_true,decide_eq_true_eq,ER]
 exact⟨fun h=>Ag.ext' h.1 h.2.1 h.2.2.1 h.2.2.2,fun h=>by subst h;exact⟨rfl,rfl,rfl,rfl⟩⟩
theorem E3 (a b:Ag)(w:World):(Op.equalIn 10000 76 (.agg #[.string a.item,.int .i64 a.dot.node,.int .i64 a.dot.life,.int .i64 a.dot.count,.int .i64 a.qty,.int .u64 a.price]) (.agg #[.string b.item,.int .i64 b.dot.node,.int .i64 b.dot.life,.int .i64 b.dot.count,.int .i64 b.qty,.int .u64 b.price])).run prog w= .ok (decide (a=b)) w:=NA 9997 a b w
structure Tt where
 marks:SH
 cloud:SH
structure AY where
 entries:SH
 ctx:Tt
structure VU where
 parts:Int
 copies:Int
 spots:Int
 members:SH
structure U3 where
 kind:Int
 frm:Int
 to:Int
 req:Int
 key:ByteArray
 cart:AY
 owner:Int
 part:Int
 n:Int
 ring:VU
 peers:SH
 sums:SH
instance : Enc U3:=Enc.struct (fun t=>[.int .i64 t.kind,.int .i64 t.frm,.int .i64 t.to,.int .i64 t.req,.string t.key,.slice t.cart.entries.a t.cart.entries.len t.cart.entries.cap,.slice t.cart.ctx.marks.a t.cart.ctx.marks.len t.cart.ctx.marks.cap,.slice t.cart.ctx.cloud.a t.cart.ctx.cloud.len t.cart.ctx.cloud.cap,.int .i64 t.owner,.int .i64 t.part,.int .i64 t.n,.int .i64 t.ring.parts,.int .i64 t.ring.copies,.int .i64 t.ring.spots,.slice t.ring.members.a t.ring.members.len t.ring.members.cap,.slice t.peers.a t.peers.len t.peers.cap,.slice t.sums.a t.sums.len t.sums.cap]) 17 (fun _=>rfl) (fun _ v hv=>by simp at hv;rcases hv with rfl|rfl|rfl|rfl|rfl|rfl|rfl|rfl|rfl|rfl|rfl|rfl|rfl|rfl|rfl|rfl|rfl<;>rfl) Zd
structure MV where
 kind:Int
 frm:Int
 to:Int
 req:Int
 key:ByteArray
 owner:Int
 part:Int
 n:Int
 parts:Int
 copies:Int
 spots:Int
 ent:List Ag
 mrk:List Aa
 cl:List Ad
 mem:List F7
 pe:List Kj
 su:List PL
theorem MV.ext' {a b:MV}(h0:a.kind=b.kind)(h1:a.frm=b.frm)(h2:a.to=b.to)(h3:a.req=b.req)(h4:a.key=b.key)(h5:a.owner=b.owner)(h6:a.part=b.part)(h7:a.n=b.n)(h8:a.parts=b.parts)(h9:a.copies=b.copies)(h10:a.spots=b.spots)(h11:a.ent=b.ent)(h12:a.mrk=b.mrk)(h13:a.cl=b.cl)(h14:a.mem=b.mem)(h15:a.pe=b.pe)(h16:a.su=b.su):a=b:=by cases a;cases b;simp_all
theorem MV.iff {a b:MV}:a=b↔a.kind=b.kind∧a.frm=b.frm∧a.to=b.to∧a.req=b.req∧a.key=b.key∧a.owner=b.owner∧a.part=b.part∧a.n=b.n∧a.parts=b.parts∧a.copies=b.copies∧a.spots=b.spots∧a.ent=b.ent∧a.mrk=b.mrk∧a.cl=b.cl∧a.mem=b.mem∧a.pe=b.pe∧a.su=b.su:=⟨fun e=>by subst e;exact⟨rfl,rfl,rfl,rfl,rfl,rfl,rfl,rfl,rfl,rfl,rfl,rfl,rfl,rfl,rfl,rfl,rfl⟩,fun h=>MV.ext' h.1 h.2.1 h.2.2.1 h.2.2.2.1 h.2.2.2.2.1 h.2.2.2.2.2.1 h.2.2.2.2.2.2.1 h.2.2.2.2.2.2.2.1 h.2.2.2.2.2.2.2.2.1 h.2.2.2.2.2.2.2.2.2.1 h.2.2.2.2.2.2.2.2.2.2.1 h.2.2.2.2.2.2.2.2.2.2.2.1 h.2.2.2.2.2.2.2.2.2.2.2.2.1 h.2.2.2.2.2.2.2.2.2.2.2.2.2.1 h.2.2.2.2.2.2.2.2.2.2.2.2.2.2.1 h.2.2.2.2.2.2.2.2.2.2.2.2.2.2.2.1 h.2.2.2.2.2.2.2.2.2.2.2.2.2.2.2.2⟩
instance : DecidableEq MV:=fun a b=>if h:a.kind=b.kind∧a.frm=b.frm∧a.to=b.to∧a.req=b.req∧a.key=b.key∧a.owner=b.owner∧a.part=b.part∧a.n=b.n∧a.parts=b.parts∧a.copies=b.copies∧a.spots=b.spots∧a.ent=b.ent∧a.mrk=b.mrk∧a.cl=b.cl∧a.mem=b.mem∧a.pe=b.pe∧a.su=b.su then isTrue (MV.iff.2 h)else isFalse (fun e=>h (MV.iff.1 e))
structure FE where
 ea:Option Addr
 ec:Nat
 ma:Option Addr
 mc:Nat
 ca:Option Addr
 cc:Nat
 ba:Option Addr
 bc:Nat
 pa:Option Addr
 pc:Nat
 sa:Option Addr
 sc:Nat
abbrev DE (v:MV)(s:FE):U3:=⟨v.kind,v.frm,v.to,v.req,v.key,⟨⟨s.ea,v.ent.length,s.ec⟩,⟨⟨s.ma,v.mrk.length,s.mc⟩,⟨s.ca,v.cl.length,s.cc⟩⟩⟩,v.owner,v.part,v.n,⟨v.parts,v.copies,v.spots,⟨s.ba,v.mem.length,s.bc⟩⟩,⟨s.pa,v.pe.length,s.pc⟩,⟨s.sa,v.su.length,s.sc⟩⟩
structure HD (w:World)(s:FE)(v:MV):Prop where
 ent:As w s.ea v.ent
 mrk:As w s.ma v.mrk
 cl:As w s.ca v.cl
 mem:As w s.ba v.mem
 pe:As w s.pa v.pe
 su:As w s.sa v.su
structure HE (w:World)(s:FE)(v:MV):Prop where
 ent:Af w 76 s.ea s.ec v.ent
 mrk:Af w 46 s.ma s.mc v.mrk
 cl:Af w 73 s.ca s.cc v.cl
 mem:Af w 999998 s.ba s.bc v.mem
 pe:Af w 999998 s.pa s.pc v.pe
 su:Af w 999998 s.sa s.sc v.su
def WX (s:FE)(v:MV):Nat→Prop:=fun q=>(v.ent≠ []∧own s.ea q)∨(v.mrk≠ []∧own s.ma q)∨(v.cl≠ []∧own s.ca q)∨(v.mem≠ []∧own s.ba q)∨(v.pe≠ []∧own s.pa q)∨(v.su≠ []∧own s.sa q)
def Mj (s:FE):Nat→Prop:=fun q=>own s.ea q∨own s.ma q∨own s.ca q∨own s.ba q∨own s.pa q∨own s.sa q
def Rp (s:FE):Prop:=[own s.ea,own s.ma,own s.ca,own s.ba,own s.pa,own s.sa].Pairwise (fun f g=>∀q,f q→¬g q)
def nilS :FE:=⟨none,0,none,0,none,0,none,0,none,0,none,0⟩
def nilV :MV:=⟨0,0,0,0,⟨#[]⟩,0,0,0,0,0,0,[],[],[],[],[],[]⟩
structure PM (v:MV):Prop where
 ent:v.ent.length≤4294967295
 mrk:v.mrk.length≤4294967295
 cl:v.cl.length≤4294967295
 mem:v.mem.length≤4294967295
 pe:v.pe.length≤4294967295
 su:v.su.length≤4294967295
section
variable {w w':World}{s:FE}{v:MV}{S:Nat→Prop}
theorem Gn {α:Type}[Enc α]{a:Option Addr}{xs:List α}(h:As w a xs)(hn:xs≠ []){q:Nat}(hq:own a q):q<w.heap.size:=by
 obtain⟨x,hx,rfl⟩:=hq
 rcases h with rfl|⟨b,o,ha,hc⟩
 ·exact absurd rfl hn
 ·rw[hx]at ha;cases ha;exact hc.lt
theorem HD.own_lt (h:HD w s v):∀q,WX s v q→q<w.heap.size:=by
 rintro q (⟨h1,h2⟩|⟨h1,h2⟩|⟨h1,h2⟩|⟨h1,h2⟩|⟨h1,h2⟩|⟨h1,h2⟩)
 ·exact Gn h.ent h1 h2
 ·exact Gn h.mrk h1 h2
 ·exact Gn h.cl h1 h2
 ·exact Gn h.mem h1 h2
 ·exact Gn h.pe h1 h2
 ·exact Gn h.su h1 h2
theorem HD.keepO (h:HD w s v)(k:Ah S w w')(hn:∀q,WX s v q→¬S q):HD w' s v:=
 ⟨h.ent.keepN k (fun x hx he=>hn x.block (Or.inl ⟨he,x,hx,rfl⟩)),h.mrk.keepN k (fun x hx he=>hn x.block (Or.inr (Or.inl ⟨he,x,hx,rfl⟩))),h.cl.keepN k (fun x hx he=>hn x.block (Or.inr (Or.inr (Or.inl ⟨he,x,hx,rfl⟩)))),h.mem.keepN k (fun x hx he=>hn x.block (Or.inr (Or.inr (Or.inr (Or.inl ⟨he,x,hx,rfl⟩))))),h.pe.keepN k (fun x hx he=>hn x.block (Or.inr (Or.inr (Or.inr (Or.inr (Or.inl ⟨he,x,hx,rfl⟩)))))),h.su.keepN k (fun x hx he=>hn x.block (Or.inr (Or.inr (Or.inr (Or.inr (Or.inr (⟨he,x,hx,rfl⟩)))))))⟩
theorem HD.ext (h:HD w s v)(k:Aq w w'):HD w' s v:=h.keepO k fun _ _=>id
theorem HE.own_lt (h:HE w s v):∀q,Mj s q→q<w.heap.size:=by
 rintro q (hq|hq|hq|hq|hq|hq)
 ·exact h.ent.own_lt q hq
 ·exact h.mrk.own_lt q hq
 ·exact h.cl.own_lt q hq
 ·exact h.mem.own_lt q hq
 ·exact h.pe.own_lt q hq
 ·exact h.su.own_lt q hq
theorem HE.keepO (h:HE w s v)(k:Ah S w w')(hn:∀q,Mj s q→¬S q):HE w' s v:=
 ⟨h.ent.keepO k (fun q hq=>hn q (Or.inl hq)),h.mrk.keepO k (fun q hq=>hn q (Or.inr (Or.inl hq))),h.cl.keepO k (fun q hq=>hn q (Or.inr (Or.inr (Or.inl hq)))),h.mem.keepO k (fun q hq=>hn q (Or.inr (Or.inr (Or.inr (Or.inl hq))))),h.pe.keepO k (fun q hq=>hn q (Or.inr (Or.inr (Or.inr (Or.inr (Or.inl hq)))))),h.su.keepO k (fun q hq=>hn q (Or.inr (Or.inr (Or.inr (Or.inr (Or.inr hq))))))⟩
theorem HE.ext (h:HE w s v)(k:Aq w w'):HE w' s v:=h.keepO k fun _ _=>id
theorem HE.r (h:HE w s v):HD w s v:=⟨h.ent.sl,h.mrk.sl,h.cl.sl,h.mem.sl,h.pe.sl,h.su.sl⟩
theorem nil_R :HD w nilS nilV:=⟨As.nil _ _,As.nil _ _,As.nil _ _,As.nil _ _,As.nil _ _,As.nil _ _⟩
theorem nil_ok :PM nilV:=⟨by decide,by decide,by decide,by decide,by decide,by decide⟩
end
end Go.Proofs.YtjkaicjmfgekjaaGreatDoor
