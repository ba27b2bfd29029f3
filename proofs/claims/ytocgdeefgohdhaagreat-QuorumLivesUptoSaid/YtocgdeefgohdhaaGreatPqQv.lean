/-
  Qv
-/
import Derived.Test.YtocgdeefgohdhaaGreatRows
import Derived.Test.YtocgdeefgohdhaaGreatPqQq
import Derived.Test.YtocgdeefgohdhaaGreatPqSum
import Derived.Test.YtocgdeefgohdhaaGreatPqFrame
import Derived.Test.YtocgdeefgohdhaaGreatPqI
set_option linter.all false
set_option maxRecDepth 100000
set_option maxHeartbeats 4000000
namespace Go.Proofs.YtocgdeefgohdhaaGreat
open Go.Proofs.Tryz
attribute [local irreducible] RD RS AD RL RA RT BH Al
open Wa
instance : Enc LI:=Enc.struct (fun t=>[.slice t.marks.a t.marks.len t.marks.cap,.slice t.cloud.a t.cloud.len t.cloud.cap]) 2 (fun _=>rfl) (fun _ v hv=>by simp at hv;rcases hv with rfl|rfl<;>rfl) Zd
instance : Enc MB:=Enc.struct (fun t=>[.int .i64 t.parts,.int .i64 t.copies,.int .i64 t.spots,.slice t.members.a t.members.len t.members.cap]) 4 (fun _=>rfl) (fun _ v hv=>by simp at hv;rcases hv with rfl|rfl|rfl|rfl<;>rfl) Zd
structure QS where
 id:Int
 knd:Int
 key:ByteArray
 item:ByteArray
 qty:Int
 price:Int
 seen:AX
instance : Enc QS:=Enc.struct (fun t=>[.int .i64 t.id,.int .i64 t.knd,.string t.key,.string t.item,.int .i64 t.qty,.int .u64 t.price,.slice t.seen.entries.a t.seen.entries.len t.seen.entries.cap,.slice t.seen.ctx.marks.a t.seen.ctx.marks.len t.seen.ctx.marks.cap,.slice t.seen.ctx.cloud.a t.seen.ctx.cloud.len t.seen.ctx.cloud.cap]) 9 (fun _=>rfl) (fun _ v hv=>by simp at hv;rcases hv with rfl|rfl|rfl|rfl|rfl|rfl|rfl|rfl|rfl<;>rfl) Zd
structure PP where
 put:Bool
 self:Int
 req:Int
 ask:QS
 cart:AX
 targets:SH
 need:Int
 now:Int
instance : Enc PP:=Enc.struct (fun t=>[.bool t.put,.int .i64 t.self,.int .i64 t.req,.int .i64 t.ask.id,.int .i64 t.ask.knd,.string t.ask.key,.string t.ask.item,.int .i64 t.ask.qty,.int .u64 t.ask.price,.slice t.ask.seen.entries.a t.ask.seen.entries.len t.ask.seen.entries.cap,.slice t.ask.seen.ctx.marks.a t.ask.seen.ctx.marks.len t.ask.seen.ctx.marks.cap,.slice t.ask.seen.ctx.cloud.a t.ask.seen.ctx.cloud.len t.ask.seen.ctx.cloud.cap,.slice t.cart.entries.a t.cart.entries.len t.cart.entries.cap,.slice t.cart.ctx.marks.a t.cart.ctx.marks.len t.cart.ctx.marks.cap,.slice t.cart.ctx.cloud.a t.cart.ctx.cloud.len t.cart.ctx.cloud.cap,.slice t.targets.a t.targets.len t.targets.cap,.int .i64 t.need,.int .i64 t.now]) 18 (fun _=>rfl) (fun _ v hv=>by simp at hv;rcases hv with rfl|rfl|rfl|rfl|rfl|rfl|rfl|rfl|rfl|rfl|rfl|rfl|rfl|rfl|rfl|rfl|rfl|rfl<;>rfl) Zd
theorem IC {P:Program}{t:TypeId}(ht:P.underlying t=some .bool):Cu P t Bool (fun _ _ m=>1≤m):=by
 intro H enc W fuel cs x h
 obtain⟨b,rfl,rfl⟩:=DataW.trod_bool ht h
 exact⟨b,rfl,Ek _⟩
abbrev TL (_:World)(p:Int)(m:Nat):Prop:=(0≤p∧p≤18446744073709551615)∧1≤m
abbrev Rl (W:World)(x:Ah)(m:Nat):Prop:=True∧True∧True
theorem reads_DotC :Cu prog 87 Ah Rl:=by
 intro H enc W fuel cs x h
 obtain⟨xs,n,rfl,rfl,hlen,hxs,hf⟩:=DataW.trod_struct underlying87 h
 obtain⟨y0,y1,y2,rfl⟩:∃y0 y1 y2,xs=[y0,y1,y2]:=by
  match xs,hxs with
  |[y0,y1,y2],_=>exact⟨y0,y1,y2,rfl⟩
 obtain⟨v0,e0,q0⟩:=(AJ underlying3) H enc W n _ _ (hf 0 _ rfl)
 replace e0:(cs.drop 0).take (prog.cellsOf 3)=cellsOf v0:=e0
 rw[show prog.cellsOf 3=1 by kernel_rfl]at e0
 have c0:cs.drop 0=(cs.drop 0).take 1++cs.drop 1:=A2 cs 0 1
 obtain⟨v1,e1,q1⟩:=(AJ underlying3) H enc W n _ _ (hf 1 _ rfl)
 replace e1:(cs.drop 1).take (prog.cellsOf 3)=cellsOf v1:=e1
 rw[show prog.cellsOf 3=1 by kernel_rfl]at e1
 have c1:cs.drop 1=(cs.drop 1).take 1++cs.drop 2:=A2 cs 1 1
 obtain⟨v2,e2,q2⟩:=(AJ underlying3) H enc W n _ _ (hf 2 _ rfl)
 replace e2:(cs.drop 2).take (prog.cellsOf 3)=cellsOf v2:=e2
 rw[show prog.cellsOf 3=1 by kernel_rfl]at e2
 have c2:cs.drop 2=(cs.drop 2).take 1++cs.drop 3:=A2 cs 2 1
 have hl:cs.length=3:=hlen.trans Zk
 have t:cs=cs.drop 0:=rfl
 have cN:cs.drop 3=[]:=List.drop_eq_nil_of_le Zo
 rw[e0]at c0
 rw[e1]at c1
 rw[e2]at c2
 rw[c0,c1,c2,cN]at t
 refine⟨⟨v0,v1,v2⟩,t,trivial,trivial,trivial⟩
 all_goals (simp only[List.map_cons,List.map_nil,Rows.uptoBulk,Rows.uptoBulkAll];omega)
abbrev PQ (W:World)(x:Ac)(m:Nat):Prop:=True∧True∧True
theorem reads_MarkC :Cu prog 112 Ac PQ:=by
 intro H enc W fuel cs x h
 obtain⟨xs,n,rfl,rfl,hlen,hxs,hf⟩:=DataW.trod_struct underlying112 h
 obtain⟨y0,y1,y2,rfl⟩:∃y0 y1 y2,xs=[y0,y1,y2]:=by
  match xs,hxs with
  |[y0,y1,y2],_=>exact⟨y0,y1,y2,rfl⟩
 obtain⟨v0,e0,q0⟩:=(AJ underlying3) H enc W n _ _ (hf 0 _ rfl)
 replace e0:(cs.drop 0).take (prog.cellsOf 3)=cellsOf v0:=e0
 rw[show prog.cellsOf 3=1 by kernel_rfl]at e0
 have c0:cs.drop 0=(cs.drop 0).take 1++cs.drop 1:=A2 cs 0 1
 obtain⟨v1,e1,q1⟩:=(AJ underlying3) H enc W n _ _ (hf 1 _ rfl)
 replace e1:(cs.drop 1).take (prog.cellsOf 3)=cellsOf v1:=e1
 rw[show prog.cellsOf 3=1 by kernel_rfl]at e1
 have c1:cs.drop 1=(cs.drop 1).take 1++cs.drop 2:=A2 cs 1 1
 obtain⟨v2,e2,q2⟩:=(AJ underlying3) H enc W n _ _ (hf 2 _ rfl)
 replace e2:(cs.drop 2).take (prog.cellsOf 3)=cellsOf v2:=e2
 rw[show prog.cellsOf 3=1 by kernel_rfl]at e2
 have c2:cs.drop 2=(cs.drop 2).take 1++cs.drop 3:=A2 cs 2 1
 have hl:cs.length=3:=hlen.trans Zk
 have t:cs=cs.drop 0:=rfl
 have cN:cs.drop 3=[]:=List.drop_eq_nil_of_le Zo
 rw[e0]at c0
 rw[e1]at c1
 rw[e2]at c2
 rw[c0,c1,c2,cN]at t
 refine⟨⟨v0,v1,v2⟩,t,trivial,trivial,trivial⟩
 all_goals (simp only[List.map_cons,List.map_nil,Rows.uptoBulk,Rows.uptoBulkAll];omega)
abbrev Ll (W:World)(x:BW)(m:Nat):Prop:=True∧True∧True∧True
theorem reads_MemberC :Cu prog 131 BW Ll:=by
 intro H enc W fuel cs x h
 obtain⟨xs,n,rfl,rfl,hlen,hxs,hf⟩:=DataW.trod_struct underlying131 h
 obtain⟨y0,y1,y2,y3,rfl⟩:∃y0 y1 y2 y3,xs=[y0,y1,y2,y3]:=by
  match xs,hxs with
  |[y0,y1,y2,y3],_=>exact⟨y0,y1,y2,y3,rfl⟩
 obtain⟨v0,e0,q0⟩:=(AJ underlying3) H enc W n _ _ (hf 0 _ rfl)
 replace e0:(cs.drop 0).take (prog.cellsOf 3)=cellsOf v0:=e0
 rw[show prog.cellsOf 3=1 by kernel_rfl]at e0
 have c0:cs.drop 0=(cs.drop 0).take 1++cs.drop 1:=A2 cs 0 1
 obtain⟨v1,e1,q1⟩:=(AJ underlying3) H enc W n _ _ (hf 1 _ rfl)
 replace e1:(cs.drop 1).take (prog.cellsOf 3)=cellsOf v1:=e1
 rw[show prog.cellsOf 3=1 by kernel_rfl]at e1
 have c1:cs.drop 1=(cs.drop 1).take 1++cs.drop 2:=A2 cs 1 1
 obtain⟨v2,e2,q2⟩:=(AJ underlying3) H enc W n _ _ (hf 2 _ rfl)
 replace e2:(cs.drop 2).take (prog.cellsOf 3)=cellsOf v2:=e2
 rw[show prog.cellsOf 3=1 by kernel_rfl]at e2
 have c2:cs.drop 2=(cs.drop 2).take 1++cs.drop 3:=A2 cs 2 1
 obtain⟨v3,e3,q3⟩:=(AJ underlying3) H enc W n _ _ (hf 3 _ rfl)
 replace e3:(cs.drop 3).take (prog.cellsOf 3)=cellsOf v3:=e3
 rw[show prog.cellsOf 3=1 by kernel_rfl]at e3
 have c3:cs.drop 3=(cs.drop 3).take 1++cs.drop 4:=A2 cs 3 1
 have hl:cs.length=4:=hlen.trans Zk
 have t:cs=cs.drop 0:=rfl
 have cN:cs.drop 4=[]:=List.drop_eq_nil_of_le Zo
 rw[e0]at c0
 rw[e1]at c1
 rw[e2]at c2
 rw[e3]at c3
 rw[c0,c1,c2,c3,cN]at t
 refine⟨⟨v0,v1,v2,v3⟩,t,trivial,trivial,trivial,trivial⟩
 all_goals (simp only[List.map_cons,List.map_nil,Rows.uptoBulk,Rows.uptoBulkAll];omega)
abbrev PR (W:World)(x:Dn)(m:Nat):Prop:=True∧True∧True
theorem reads_PeerC :Cu prog 108 Dn PR:=by
 intro H enc W fuel cs x h
 obtain⟨xs,n,rfl,rfl,hlen,hxs,hf⟩:=DataW.trod_struct underlying108 h
 obtain⟨y0,y1,y2,rfl⟩:∃y0 y1 y2,xs=[y0,y1,y2]:=by
  match xs,hxs with
  |[y0,y1,y2],_=>exact⟨y0,y1,y2,rfl⟩
 obtain⟨v0,e0,q0⟩:=(AJ underlying3) H enc W n _ _ (hf 0 _ rfl)
 replace e0:(cs.drop 0).take (prog.cellsOf 3)=cellsOf v0:=e0
 rw[show prog.cellsOf 3=1 by kernel_rfl]at e0
 have c0:cs.drop 0=(cs.drop 0).take 1++cs.drop 1:=A2 cs 0 1
 obtain⟨v1,e1,q1⟩:=(AJ underlying3) H enc W n _ _ (hf 1 _ rfl)
 replace e1:(cs.drop 1).take (prog.cellsOf 3)=cellsOf v1:=e1
 rw[show prog.cellsOf 3=1 by kernel_rfl]at e1
 have c1:cs.drop 1=(cs.drop 1).take 1++cs.drop 2:=A2 cs 1 1
 obtain⟨v2,e2,q2⟩:=(AJ underlying3) H enc W n _ _ (hf 2 _ rfl)
 replace e2:(cs.drop 2).take (prog.cellsOf 3)=cellsOf v2:=e2
 rw[show prog.cellsOf 3=1 by kernel_rfl]at e2
 have c2:cs.drop 2=(cs.drop 2).take 1++cs.drop 3:=A2 cs 2 1
 have hl:cs.length=3:=hlen.trans Zk
 have t:cs=cs.drop 0:=rfl
 have cN:cs.drop 3=[]:=List.drop_eq_nil_of_le Zo
 rw[e0]at c0
 rw[e1]at c1
 rw[e2]at c2
 rw[c0,c1,c2,cN]at t
 refine⟨⟨v0,v1,v2⟩,t,trivial,trivial,trivial⟩
 all_goals (simp only[List.map_cons,List.map_nil,Rows.uptoBulk,Rows.uptoBulkAll];omega)
abbrev Rm (W:World)(x:E4)(m:Nat):Prop:=True∧True∧True
theorem reads_SumC :Cu prog 111 E4 Rm:=by
 intro H enc W fuel cs x h
 obtain⟨xs,n,rfl,rfl,hlen,hxs,hf⟩:=DataW.trod_struct underlying111 h
 obtain⟨y0,y1,y2,rfl⟩:∃y0 y1 y2,xs=[y0,y1,y2]:=by
  match xs,hxs with
  |[y0,y1,y2],_=>exact⟨y0,y1,y2,rfl⟩
 obtain⟨v0,e0,q0⟩:=(AJ underlying3) H enc W n _ _ (hf 0 _ rfl)
 replace e0:(cs.drop 0).take (prog.cellsOf 3)=cellsOf v0:=e0
 rw[show prog.cellsOf 3=1 by kernel_rfl]at e0
 have c0:cs.drop 0=(cs.drop 0).take 1++cs.drop 1:=A2 cs 0 1
 obtain⟨v1,e1,q1⟩:=(Dq underlying9) H enc W n _ _ (hf 1 _ rfl)
 replace e1:(cs.drop 1).take (prog.cellsOf 9)=cellsOf v1:=e1
 rw[show prog.cellsOf 9=1 by kernel_rfl]at e1
 have c1:cs.drop 1=(cs.drop 1).take 1++cs.drop 2:=A2 cs 1 1
 obtain⟨v2,e2,q2⟩:=(G8 underlying22) H enc W n _ _ (hf 2 _ rfl)
 replace e2:(cs.drop 2).take (prog.cellsOf 22)=cellsOf v2:=e2
 rw[show prog.cellsOf 22=1 by kernel_rfl]at e2
 have c2:cs.drop 2=(cs.drop 2).take 1++cs.drop 3:=A2 cs 2 1
 have hl:cs.length=3:=hlen.trans Zk
 have t:cs=cs.drop 0:=rfl
 have cN:cs.drop 3=[]:=List.drop_eq_nil_of_le Zo
 rw[e0]at c0
 rw[e1]at c1
 rw[e2]at c2
 rw[c0,c1,c2,cN]at t
 refine⟨⟨v0,v1,v2.v⟩,t,trivial,trivial,trivial⟩
 all_goals (simp only[List.map_cons,List.map_nil,Rows.uptoBulk,Rows.uptoBulkAll];omega)
abbrev Lm (W:World)(x:Au)(m:Nat):Prop:=True∧True
theorem reads_TargetC :Cu prog 53 Au Lm:=by
 intro H enc W fuel cs x h
 obtain⟨xs,n,rfl,rfl,hlen,hxs,hf⟩:=DataW.trod_struct underlying53 h
 obtain⟨y0,y1,rfl⟩:∃y0 y1,xs=[y0,y1]:=by
  match xs,hxs with
  |[y0,y1],_=>exact⟨y0,y1,rfl⟩
 obtain⟨v0,e0,q0⟩:=(AJ underlying3) H enc W n _ _ (hf 0 _ rfl)
 replace e0:(cs.drop 0).take (prog.cellsOf 3)=cellsOf v0:=e0
 rw[show prog.cellsOf 3=1 by kernel_rfl]at e0
 have c0:cs.drop 0=(cs.drop 0).take 1++cs.drop 1:=A2 cs 0 1
 obtain⟨v1,e1,q1⟩:=(AJ underlying3) H enc W n _ _ (hf 1 _ rfl)
 replace e1:(cs.drop 1).take (prog.cellsOf 3)=cellsOf v1:=e1
 rw[show prog.cellsOf 3=1 by kernel_rfl]at e1
 have c1:cs.drop 1=(cs.drop 1).take 1++cs.drop 2:=A2 cs 1 1
 have hl:cs.length=2:=hlen.trans Zk
 have t:cs=cs.drop 0:=rfl
 have cN:cs.drop 2=[]:=List.drop_eq_nil_of_le Zo
 rw[e0]at c0
 rw[e1]at c1
 rw[c0,c1,cN]at t
 refine⟨⟨v0,v1⟩,t,trivial,trivial⟩
 all_goals (simp only[List.map_cons,List.map_nil,Rows.uptoBulk,Rows.uptoBulkAll];omega)
abbrev Kf (W:World)(x:Ai)(m:Nat):Prop:=(∃k,k≤m∧Tf W x.item k)∧True∧True∧(∃k,k≤m∧TL W x.price k)
theorem reads_EntryC :Cu prog 89 Ai Kf:=by
 intro H enc W fuel cs x h
 obtain⟨xs,n,rfl,rfl,hlen,hxs,hf⟩:=DataW.trod_struct underlying89 h
 obtain⟨y0,y1,y2,y3,rfl⟩:∃y0 y1 y2 y3,xs=[y0,y1,y2,y3]:=by
  match xs,hxs with
  |[y0,y1,y2,y3],_=>exact⟨y0,y1,y2,y3,rfl⟩
 obtain⟨v0,e0,q0⟩:=(Dq underlying9) H enc W n _ _ (hf 0 _ rfl)
 replace e0:(cs.drop 0).take (prog.cellsOf 9)=cellsOf v0:=e0
 rw[show prog.cellsOf 9=1 by kernel_rfl]at e0
 have c0:cs.drop 0=(cs.drop 0).take 1++cs.drop 1:=A2 cs 0 1
 obtain⟨v1,e1,q1⟩:=(reads_DotC) H enc W n _ _ (hf 1 _ rfl)
 replace e1:(cs.drop 1).take (prog.cellsOf 87)=cellsOf v1:=e1
 rw[show prog.cellsOf 87=3 by kernel_rfl]at e1
 have c1:cs.drop 1=(cs.drop 1).take 3++cs.drop 4:=A2 cs 1 3
 obtain⟨v2,e2,q2⟩:=(AJ underlying3) H enc W n _ _ (hf 2 _ rfl)
 replace e2:(cs.drop 4).take (prog.cellsOf 3)=cellsOf v2:=e2
 rw[show prog.cellsOf 3=1 by kernel_rfl]at e2
 have c2:cs.drop 4=(cs.drop 4).take 1++cs.drop 5:=A2 cs 4 1
 obtain⟨v3,e3,q3⟩:=(G8 underlying22) H enc W n _ _ (hf 3 _ rfl)
 replace e3:(cs.drop 5).take (prog.cellsOf 22)=cellsOf v3:=e3
 rw[show prog.cellsOf 22=1 by kernel_rfl]at e3
 have c3:cs.drop 5=(cs.drop 5).take 1++cs.drop 6:=A2 cs 5 1
 have hl:cs.length=6:=hlen.trans Zk
 have t:cs=cs.drop 0:=rfl
 have cN:cs.drop 6=[]:=List.drop_eq_nil_of_le Zo
 rw[e0]at c0
 rw[e1]at c1
 rw[e2]at c2
 rw[e3]at c3
 rw[c0,c1,c2,c3,cN]at t
 refine⟨⟨v0,v1,v2,v3.v⟩,t,⟨_,?_,q0⟩,trivial,trivial,⟨_,?_,q3⟩⟩
 all_goals (simp only[List.map_cons,List.map_nil,Rows.uptoBulk,Rows.uptoBulkAll];omega)
abbrev Rn (W:World)(x:LI)(m:Nat):Prop:=(∃k,k≤m∧(GK PQ) W x.marks k)∧(∃k,k≤m∧(GK Rl) W x.cloud k)
theorem reads_CtxC :Cu prog 27 LI Rn:=by
 intro H enc W fuel cs x h
 obtain⟨xs,n,rfl,rfl,hlen,hxs,hf⟩:=DataW.trod_struct underlying27 h
 obtain⟨y0,y1,rfl⟩:∃y0 y1,xs=[y0,y1]:=by
  match xs,hxs with
  |[y0,y1],_=>exact⟨y0,y1,rfl⟩
 obtain⟨v0,e0,q0⟩:=(Df (α:=Ac) underlying24 Zk reads_MarkC) H enc W n _ _ (hf 0 _ rfl)
 replace e0:(cs.drop 0).take (prog.cellsOf 24)=cellsOf v0:=e0
 rw[show prog.cellsOf 24=1 by kernel_rfl]at e0
 have c0:cs.drop 0=(cs.drop 0).take 1++cs.drop 1:=A2 cs 0 1
 obtain⟨v1,e1,q1⟩:=(Df (α:=Ah) underlying25 Zk reads_DotC) H enc W n _ _ (hf 1 _ rfl)
 replace e1:(cs.drop 1).take (prog.cellsOf 25)=cellsOf v1:=e1
 rw[show prog.cellsOf 25=1 by kernel_rfl]at e1
 have c1:cs.drop 1=(cs.drop 1).take 1++cs.drop 2:=A2 cs 1 1
 have hl:cs.length=2:=hlen.trans Zk
 have t:cs=cs.drop 0:=rfl
 have cN:cs.drop 2=[]:=List.drop_eq_nil_of_le Zo
 rw[e0]at c0
 rw[e1]at c1
 rw[c0,c1,cN]at t
 refine⟨⟨v0,v1⟩,t,⟨_,?_,q0⟩,⟨_,?_,q1⟩⟩
 all_goals (simp only[List.map_cons,List.map_nil,Rows.uptoBulk,Rows.uptoBulkAll];omega)
abbrev ID (W:World)(x:AX)(m:Nat):Prop:=(∃k,k≤m∧(IB Kf) W x.entries k)∧(∃k,k≤m∧Rn W x.ctx k)
theorem reads_CartC :Cu prog 29 AX ID:=by
 intro H enc W fuel cs x h
 obtain⟨xs,n,rfl,rfl,hlen,hxs,hf⟩:=DataW.trod_struct underlying29 h
 obtain⟨y0,y1,rfl⟩:∃y0 y1,xs=[y0,y1]:=by
  match xs,hxs with
  |[y0,y1],_=>exact⟨y0,y1,rfl⟩
 obtain⟨v0,e0,q0⟩:=(GQ (α:=Ai) underlying23 Zk reads_EntryC) H enc W n _ _ (hf 0 _ rfl)
 replace e0:(cs.drop 0).take (prog.cellsOf 23)=cellsOf v0:=e0
 rw[show prog.cellsOf 23=1 by kernel_rfl]at e0
 have c0:cs.drop 0=(cs.drop 0).take 1++cs.drop 1:=A2 cs 0 1
 obtain⟨v1,e1,q1⟩:=(reads_CtxC) H enc W n _ _ (hf 1 _ rfl)
 replace e1:(cs.drop 1).take (prog.cellsOf 27)=cellsOf v1:=e1
 rw[show prog.cellsOf 27=2 by kernel_rfl]at e1
 have c1:cs.drop 1=(cs.drop 1).take 2++cs.drop 3:=A2 cs 1 2
 have hl:cs.length=3:=hlen.trans Zk
 have t:cs=cs.drop 0:=rfl
 have cN:cs.drop 3=[]:=List.drop_eq_nil_of_le Zo
 rw[e0]at c0
 rw[e1]at c1
 rw[c0,c1,cN]at t
 refine⟨⟨v0,v1⟩,t,⟨_,?_,q0⟩,⟨_,?_,q1⟩⟩
 all_goals (simp only[List.map_cons,List.map_nil,Rows.uptoBulk,Rows.uptoBulkAll];omega)
abbrev PS (W:World)(x:MB)(m:Nat):Prop:=True∧True∧True∧(∃k,k≤m∧(GK Ll) W x.members k)
theorem reads_RingC :Cu prog 44 MB PS:=by
 intro H enc W fuel cs x h
 obtain⟨xs,n,rfl,rfl,hlen,hxs,hf⟩:=DataW.trod_struct underlying44 h
 obtain⟨y0,y1,y2,y3,rfl⟩:∃y0 y1 y2 y3,xs=[y0,y1,y2,y3]:=by
  match xs,hxs with
  |[y0,y1,y2,y3],_=>exact⟨y0,y1,y2,y3,rfl⟩
 obtain⟨v0,e0,q0⟩:=(AJ underlying3) H enc W n _ _ (hf 0 _ rfl)
 replace e0:(cs.drop 0).take (prog.cellsOf 3)=cellsOf v0:=e0
 rw[show prog.cellsOf 3=1 by kernel_rfl]at e0
 have c0:cs.drop 0=(cs.drop 0).take 1++cs.drop 1:=A2 cs 0 1
 obtain⟨v1,e1,q1⟩:=(AJ underlying3) H enc W n _ _ (hf 1 _ rfl)
 replace e1:(cs.drop 1).take (prog.cellsOf 3)=cellsOf v1:=e1
 rw[show prog.cellsOf 3=1 by kernel_rfl]at e1
 have c1:cs.drop 1=(cs.drop 1).take 1++cs.drop 2:=A2 cs 1 1
 obtain⟨v2,e2,q2⟩:=(AJ underlying3) H enc W n _ _ (hf 2 _ rfl)
 replace e2:(cs.drop 2).take (prog.cellsOf 3)=cellsOf v2:=e2
 rw[show prog.cellsOf 3=1 by kernel_rfl]at e2
 have c2:cs.drop 2=(cs.drop 2).take 1++cs.drop 3:=A2 cs 2 1
 obtain⟨v3,e3,q3⟩:=(Df (α:=BW) underlying42 Zk reads_MemberC) H enc W n _ _ (hf 3 _ rfl)
 replace e3:(cs.drop 3).take (prog.cellsOf 42)=cellsOf v3:=e3
 rw[show prog.cellsOf 42=1 by kernel_rfl]at e3
 have c3:cs.drop 3=(cs.drop 3).take 1++cs.drop 4:=A2 cs 3 1
 have hl:cs.length=4:=hlen.trans Zk
 have t:cs=cs.drop 0:=rfl
 have cN:cs.drop 4=[]:=List.drop_eq_nil_of_le Zo
 rw[e0]at c0
 rw[e1]at c1
 rw[e2]at c2
 rw[e3]at c3
 rw[c0,c1,c2,c3,cN]at t
 refine⟨⟨v0,v1,v2,v3⟩,t,trivial,trivial,trivial,⟨_,?_,q3⟩⟩
 all_goals (simp only[List.map_cons,List.map_nil,Rows.uptoBulk,Rows.uptoBulkAll];omega)
abbrev PT (W:World)(x:Cd)(m:Nat):Prop:=True∧True∧True∧True∧True∧(∃k,k≤m∧ID W x.cart k)∧True∧True∧True∧(∃k,k≤m∧PS W x.ring k)∧(∃k,k≤m∧(GK PR) W x.peers k)∧(∃k,k≤m∧(GK Rm) W x.sums k)
theorem reads_MsgC :Cu prog 48 Cd PT:=by
 intro H enc W fuel cs x h
 obtain⟨xs,n,rfl,rfl,hlen,hxs,hf⟩:=DataW.trod_struct underlying48 h
 obtain⟨y0,y1,y2,y3,y4,y5,y6,y7,y8,y9,y10,y11,rfl⟩:∃y0 y1 y2 y3 y4 y5 y6 y7 y8 y9 y10 y11,xs=[y0,y1,y2,y3,y4,y5,y6,y7,y8,y9,y10,y11]:=by
  match xs,hxs with
  |[y0,y1,y2,y3,y4,y5,y6,y7,y8,y9,y10,y11],_=>exact⟨y0,y1,y2,y3,y4,y5,y6,y7,y8,y9,y10,y11,rfl⟩
 obtain⟨v0,e0,q0⟩:=(AJ underlying3) H enc W n _ _ (hf 0 _ rfl)
 replace e0:(cs.drop 0).take (prog.cellsOf 3)=cellsOf v0:=e0
 rw[show prog.cellsOf 3=1 by kernel_rfl]at e0
 have c0:cs.drop 0=(cs.drop 0).take 1++cs.drop 1:=A2 cs 0 1
 obtain⟨v1,e1,q1⟩:=(AJ underlying3) H enc W n _ _ (hf 1 _ rfl)
 replace e1:(cs.drop 1).take (prog.cellsOf 3)=cellsOf v1:=e1
 rw[show prog.cellsOf 3=1 by kernel_rfl]at e1
 have c1:cs.drop 1=(cs.drop 1).take 1++cs.drop 2:=A2 cs 1 1
 obtain⟨v2,e2,q2⟩:=(AJ underlying3) H enc W n _ _ (hf 2 _ rfl)
 replace e2:(cs.drop 2).take (prog.cellsOf 3)=cellsOf v2:=e2
 rw[show prog.cellsOf 3=1 by kernel_rfl]at e2
 have c2:cs.drop 2=(cs.drop 2).take 1++cs.drop 3:=A2 cs 2 1
 obtain⟨v3,e3,q3⟩:=(AJ underlying3) H enc W n _ _ (hf 3 _ rfl)
 replace e3:(cs.drop 3).take (prog.cellsOf 3)=cellsOf v3:=e3
 rw[show prog.cellsOf 3=1 by kernel_rfl]at e3
 have c3:cs.drop 3=(cs.drop 3).take 1++cs.drop 4:=A2 cs 3 1
 obtain⟨v4,e4,q4⟩:=(Dq underlying9) H enc W n _ _ (hf 4 _ rfl)
 replace e4:(cs.drop 4).take (prog.cellsOf 9)=cellsOf v4:=e4
 rw[show prog.cellsOf 9=1 by kernel_rfl]at e4
 have c4:cs.drop 4=(cs.drop 4).take 1++cs.drop 5:=A2 cs 4 1
 obtain⟨v5,e5,q5⟩:=(reads_CartC) H enc W n _ _ (hf 5 _ rfl)
 replace e5:(cs.drop 5).take (prog.cellsOf 29)=cellsOf v5:=e5
 rw[show prog.cellsOf 29=3 by kernel_rfl]at e5
 have c5:cs.drop 5=(cs.drop 5).take 3++cs.drop 8:=A2 cs 5 3
 obtain⟨v6,e6,q6⟩:=(AJ underlying3) H enc W n _ _ (hf 6 _ rfl)
 replace e6:(cs.drop 8).take (prog.cellsOf 3)=cellsOf v6:=e6
 rw[show prog.cellsOf 3=1 by kernel_rfl]at e6
 have c6:cs.drop 8=(cs.drop 8).take 1++cs.drop 9:=A2 cs 8 1
 obtain⟨v7,e7,q7⟩:=(AJ underlying3) H enc W n _ _ (hf 7 _ rfl)
 replace e7:(cs.drop 9).take (prog.cellsOf 3)=cellsOf v7:=e7
 rw[show prog.cellsOf 3=1 by kernel_rfl]at e7
 have c7:cs.drop 9=(cs.drop 9).take 1++cs.drop 10:=A2 cs 9 1
 obtain⟨v8,e8,q8⟩:=(AJ underlying3) H enc W n _ _ (hf 8 _ rfl)
 replace e8:(cs.drop 10).take (prog.cellsOf 3)=cellsOf v8:=e8
 rw[show prog.cellsOf 3=1 by kernel_rfl]at e8
 have c8:cs.drop 10=(cs.drop 10).take 1++cs.drop 11:=A2 cs 10 1
 obtain⟨v9,e9,q9⟩:=(reads_RingC) H enc W n _ _ (hf 9 _ rfl)
 replace e9:(cs.drop 11).take (prog.cellsOf 44)=cellsOf v9:=e9
 rw[show prog.cellsOf 44=4 by kernel_rfl]at e9
 have c9:cs.drop 11=(cs.drop 11).take 4++cs.drop 15:=A2 cs 11 4
 obtain⟨v10,e10,q10⟩:=(Df (α:=Dn) underlying45 Zk reads_PeerC) H enc W n _ _ (hf 10 _ rfl)
 replace e10:(cs.drop 15).take (prog.cellsOf 45)=cellsOf v10:=e10
 rw[show prog.cellsOf 45=1 by kernel_rfl]at e10
 have c10:cs.drop 15=(cs.drop 15).take 1++cs.drop 16:=A2 cs 15 1
 obtain⟨v11,e11,q11⟩:=(Df (α:=E4) underlying46 Zk reads_SumC) H enc W n _ _ (hf 11 _ rfl)
 replace e11:(cs.drop 16).take (prog.cellsOf 46)=cellsOf v11:=e11
 rw[show prog.cellsOf 46=1 by kernel_rfl]at e11
 have c11:cs.drop 16=(cs.drop 16).take 1++cs.drop 17:=A2 cs 16 1
 have hl:cs.length=17:=hlen.trans Zk
 have t:cs=cs.drop 0:=rfl
 have cN:cs.drop 17=[]:=List.drop_eq_nil_of_le Zo
 rw[e0]at c0
 rw[e1]at c1
 rw[e2]at c2
 rw[e3]at c3
 rw[e4]at c4
 rw[e5]at c5
 rw[e6]at c6
 rw[e7]at c7
 rw[e8]at c8
 rw[e9]at c9
 rw[e10]at c10
 rw[e11]at c11
 rw[c0,c1,c2,c3,c4,c5,c6,c7,c8,c9,c10,c11,cN]at t
 refine⟨⟨v0,v1,v2,v3,v4,v5,v6,v7,v8,v9,v10,v11⟩,t,trivial,trivial,trivial,trivial,trivial,⟨_,?_,q5⟩,trivial,trivial,trivial,⟨_,?_,q9⟩,⟨_,?_,q10⟩,⟨_,?_,q11⟩⟩
 all_goals (simp only[List.map_cons,List.map_nil,Rows.uptoBulk,Rows.uptoBulkAll];omega)
abbrev Ro (W:World)(x:QS)(m:Nat):Prop:=True∧True∧True∧True∧True∧True∧(∃k,k≤m∧ID W x.seen k)
theorem reads_AskC :Cu prog 31 QS Ro:=by
 intro H enc W fuel cs x h
 obtain⟨xs,n,rfl,rfl,hlen,hxs,hf⟩:=DataW.trod_struct underlying31 h
 obtain⟨y0,y1,y2,y3,y4,y5,y6,rfl⟩:∃y0 y1 y2 y3 y4 y5 y6,xs=[y0,y1,y2,y3,y4,y5,y6]:=by
  match xs,hxs with
  |[y0,y1,y2,y3,y4,y5,y6],_=>exact⟨y0,y1,y2,y3,y4,y5,y6,rfl⟩
 obtain⟨v0,e0,q0⟩:=(AJ underlying3) H enc W n _ _ (hf 0 _ rfl)
 replace e0:(cs.drop 0).take (prog.cellsOf 3)=cellsOf v0:=e0
 rw[show prog.cellsOf 3=1 by kernel_rfl]at e0
 have c0:cs.drop 0=(cs.drop 0).take 1++cs.drop 1:=A2 cs 0 1
 obtain⟨v1,e1,q1⟩:=(AJ underlying3) H enc W n _ _ (hf 1 _ rfl)
 replace e1:(cs.drop 1).take (prog.cellsOf 3)=cellsOf v1:=e1
 rw[show prog.cellsOf 3=1 by kernel_rfl]at e1
 have c1:cs.drop 1=(cs.drop 1).take 1++cs.drop 2:=A2 cs 1 1
 obtain⟨v2,e2,q2⟩:=(Dq underlying9) H enc W n _ _ (hf 2 _ rfl)
 replace e2:(cs.drop 2).take (prog.cellsOf 9)=cellsOf v2:=e2
 rw[show prog.cellsOf 9=1 by kernel_rfl]at e2
 have c2:cs.drop 2=(cs.drop 2).take 1++cs.drop 3:=A2 cs 2 1
 obtain⟨v3,e3,q3⟩:=(Dq underlying9) H enc W n _ _ (hf 3 _ rfl)
 replace e3:(cs.drop 3).take (prog.cellsOf 9)=cellsOf v3:=e3
 rw[show prog.cellsOf 9=1 by kernel_rfl]at e3
 have c3:cs.drop 3=(cs.drop 3).take 1++cs.drop 4:=A2 cs 3 1
 obtain⟨v4,e4,q4⟩:=(AJ underlying3) H enc W n _ _ (hf 4 _ rfl)
 replace e4:(cs.drop 4).take (prog.cellsOf 3)=cellsOf v4:=e4
 rw[show prog.cellsOf 3=1 by kernel_rfl]at e4
 have c4:cs.drop 4=(cs.drop 4).take 1++cs.drop 5:=A2 cs 4 1
 obtain⟨v5,e5,q5⟩:=(G8 underlying22) H enc W n _ _ (hf 5 _ rfl)
 replace e5:(cs.drop 5).take (prog.cellsOf 22)=cellsOf v5:=e5
 rw[show prog.cellsOf 22=1 by kernel_rfl]at e5
 have c5:cs.drop 5=(cs.drop 5).take 1++cs.drop 6:=A2 cs 5 1
 obtain⟨v6,e6,q6⟩:=(reads_CartC) H enc W n _ _ (hf 6 _ rfl)
 replace e6:(cs.drop 6).take (prog.cellsOf 29)=cellsOf v6:=e6
 rw[show prog.cellsOf 29=3 by kernel_rfl]at e6
 have c6:cs.drop 6=(cs.drop 6).take 3++cs.drop 9:=A2 cs 6 3
 have hl:cs.length=9:=hlen.trans Zk
 have t:cs=cs.drop 0:=rfl
 have cN:cs.drop 9=[]:=List.drop_eq_nil_of_le Zo
 rw[e0]at c0
 rw[e1]at c1
 rw[e2]at c2
 rw[e3]at c3
 rw[e4]at c4
 rw[e5]at c5
 rw[e6]at c6
 rw[c0,c1,c2,c3,c4,c5,c6,cN]at t
 refine⟨⟨v0,v1,v2,v3,v4,v5.v,v6⟩,t,trivial,trivial,trivial,trivial,trivial,trivial,⟨_,?_,q6⟩⟩
 all_goals (simp only[List.map_cons,List.map_nil,Rows.uptoBulk,Rows.uptoBulkAll];omega)
abbrev PU (W:World)(x:PP)(m:Nat):Prop:=True∧True∧True∧(∃k,k≤m∧Ro W x.ask k)∧(∃k,k≤m∧ID W x.cart k)∧(∃k,k≤m∧(IB Lm) W x.targets k)∧True∧True
theorem reads_BegC :Cu prog 34 PP PU:=by
 intro H enc W fuel cs x h
 obtain⟨xs,n,rfl,rfl,hlen,hxs,hf⟩:=DataW.trod_struct underlying34 h
 obtain⟨y0,y1,y2,y3,y4,y5,y6,y7,rfl⟩:∃y0 y1 y2 y3 y4 y5 y6 y7,xs=[y0,y1,y2,y3,y4,y5,y6,y7]:=by
  match xs,hxs with
  |[y0,y1,y2,y3,y4,y5,y6,y7],_=>exact⟨y0,y1,y2,y3,y4,y5,y6,y7,rfl⟩
 obtain⟨v0,e0,q0⟩:=(IC underlying4) H enc W n _ _ (hf 0 _ rfl)
 replace e0:(cs.drop 0).take (prog.cellsOf 4)=cellsOf v0:=e0
 rw[show prog.cellsOf 4=1 by kernel_rfl]at e0
 have c0:cs.drop 0=(cs.drop 0).take 1++cs.drop 1:=A2 cs 0 1
 obtain⟨v1,e1,q1⟩:=(AJ underlying3) H enc W n _ _ (hf 1 _ rfl)
 replace e1:(cs.drop 1).take (prog.cellsOf 3)=cellsOf v1:=e1
 rw[show prog.cellsOf 3=1 by kernel_rfl]at e1
 have c1:cs.drop 1=(cs.drop 1).take 1++cs.drop 2:=A2 cs 1 1
 obtain⟨v2,e2,q2⟩:=(AJ underlying3) H enc W n _ _ (hf 2 _ rfl)
 replace e2:(cs.drop 2).take (prog.cellsOf 3)=cellsOf v2:=e2
 rw[show prog.cellsOf 3=1 by kernel_rfl]at e2
 have c2:cs.drop 2=(cs.drop 2).take 1++cs.drop 3:=A2 cs 2 1
 obtain⟨v3,e3,q3⟩:=(reads_AskC) H enc W n _ _ (hf 3 _ rfl)
 replace e3:(cs.drop 3).take (prog.cellsOf 31)=cellsOf v3:=e3
 rw[show prog.cellsOf 31=9 by kernel_rfl]at e3
 have c3:cs.drop 3=(cs.drop 3).take 9++cs.drop 12:=A2 cs 3 9
 obtain⟨v4,e4,q4⟩:=(reads_CartC) H enc W n _ _ (hf 4 _ rfl)
 replace e4:(cs.drop 12).take (prog.cellsOf 29)=cellsOf v4:=e4
 rw[show prog.cellsOf 29=3 by kernel_rfl]at e4
 have c4:cs.drop 12=(cs.drop 12).take 3++cs.drop 15:=A2 cs 12 3
 obtain⟨v5,e5,q5⟩:=(GQ (α:=Au) underlying32 Zk reads_TargetC) H enc W n _ _ (hf 5 _ rfl)
 replace e5:(cs.drop 15).take (prog.cellsOf 32)=cellsOf v5:=e5
 rw[show prog.cellsOf 32=1 by kernel_rfl]at e5
 have c5:cs.drop 15=(cs.drop 15).take 1++cs.drop 16:=A2 cs 15 1
 obtain⟨v6,e6,q6⟩:=(AJ underlying3) H enc W n _ _ (hf 6 _ rfl)
 replace e6:(cs.drop 16).take (prog.cellsOf 3)=cellsOf v6:=e6
 rw[show prog.cellsOf 3=1 by kernel_rfl]at e6
 have c6:cs.drop 16=(cs.drop 16).take 1++cs.drop 17:=A2 cs 16 1
 obtain⟨v7,e7,q7⟩:=(AJ underlying3) H enc W n _ _ (hf 7 _ rfl)
 replace e7:(cs.drop 17).take (prog.cellsOf 3)=cellsOf v7:=e7
 rw[show prog.cellsOf 3=1 by kernel_rfl]at e7
 have c7:cs.drop 17=(cs.drop 17).take 1++cs.drop 18:=A2 cs 17 1
 have hl:cs.length=18:=hlen.trans Zk
 have t:cs=cs.drop 0:=rfl
 have cN:cs.drop 18=[]:=List.drop_eq_nil_of_le Zo
 rw[e0]at c0
 rw[e1]at c1
 rw[e2]at c2
 rw[e3]at c3
 rw[e4]at c4
 rw[e5]at c5
 rw[e6]at c6
 rw[e7]at c7
 rw[c0,c1,c2,c3,c4,c5,c6,c7,cN]at t
 refine⟨⟨v0,v1,v2,v3,v4,v5,v6,v7⟩,t,trivial,trivial,trivial,⟨_,?_,q3⟩,⟨_,?_,q4⟩,⟨_,?_,q5⟩,trivial,trivial⟩
 all_goals (simp only[List.map_cons,List.map_nil,Rows.uptoBulk,Rows.uptoBulkAll];omega)
abbrev Rp (W:World)(x:Lj)(m:Nat):Prop:=True∧True∧(∃k,k≤m∧PT W x.msg k)
theorem reads_QDoC :Cu prog 50 Lj Rp:=by
 intro H enc W fuel cs x h
 obtain⟨xs,n,rfl,rfl,hlen,hxs,hf⟩:=DataW.trod_struct underlying50 h
 obtain⟨y0,y1,y2,rfl⟩:∃y0 y1 y2,xs=[y0,y1,y2]:=by
  match xs,hxs with
  |[y0,y1,y2],_=>exact⟨y0,y1,y2,rfl⟩
 obtain⟨v0,e0,q0⟩:=(IC underlying4) H enc W n _ _ (hf 0 _ rfl)
 replace e0:(cs.drop 0).take (prog.cellsOf 4)=cellsOf v0:=e0
 rw[show prog.cellsOf 4=1 by kernel_rfl]at e0
 have c0:cs.drop 0=(cs.drop 0).take 1++cs.drop 1:=A2 cs 0 1
 obtain⟨v1,e1,q1⟩:=(AJ underlying3) H enc W n _ _ (hf 1 _ rfl)
 replace e1:(cs.drop 1).take (prog.cellsOf 3)=cellsOf v1:=e1
 rw[show prog.cellsOf 3=1 by kernel_rfl]at e1
 have c1:cs.drop 1=(cs.drop 1).take 1++cs.drop 2:=A2 cs 1 1
 obtain⟨v2,e2,q2⟩:=(reads_MsgC) H enc W n _ _ (hf 2 _ rfl)
 replace e2:(cs.drop 2).take (prog.cellsOf 48)=cellsOf v2:=e2
 rw[show prog.cellsOf 48=17 by kernel_rfl]at e2
 have c2:cs.drop 2=(cs.drop 2).take 17++cs.drop 19:=A2 cs 2 17
 have hl:cs.length=19:=hlen.trans Zk
 have t:cs=cs.drop 0:=rfl
 have cN:cs.drop 19=[]:=List.drop_eq_nil_of_le Zo
 rw[e0]at c0
 rw[e1]at c1
 rw[e2]at c2
 rw[c0,c1,c2,cN]at t
 refine⟨⟨v0,v1,v2⟩,t,trivial,trivial,⟨_,?_,q2⟩⟩
 all_goals (simp only[List.map_cons,List.map_nil,Rows.uptoBulk,Rows.uptoBulkAll];omega)
theorem Ng {W:World}{m:Nat}{l:List Ai}(hm:m≤1048576)(h:∀x∈l,∃k,k+1≤m∧Kf W x k):EE l:=fun x hx=>by
 obtain⟨k,hk,⟨k1,e1,e2⟩,-,-,k2,e3,e4⟩:=h x hx
 exact⟨⟨e4.1.1,by omega⟩,by have:x.item.size+1≤k1:=e2;omega⟩
theorem Nh {W:World}{c:AX}{k:Nat}(h:ID W c k)(hk:k≤1048576):∃v s,c=(An v s).cart∧AE W s v∧AV v s:=by
 obtain⟨⟨k50,h50,l1,⟨a1,b1,c1,d1,f1⟩,z1,-⟩,k51,h51,⟨k52,h52,l2,a2,b2,c2,d2,f2⟩,⟨k53,h53,l3,a3,b3,c3,d3,f3⟩⟩:=h
 obtain⟨⟨x1,y1,w1⟩,⟨⟨x2,y2,w2⟩,⟨x3,y3,w3⟩⟩⟩:=c
 simp only at a1 b1 a2 b2 a3 b3 z1
 subst a1 a2 a3
 exact⟨{nilV with ent:=l1,mrk:=l2,cl:=l3},⟨x1,w1,x2,w2,x3,w3,none,0,none,0,none,0⟩,rfl,⟨b1,b2,b3⟩,⟨⟨by show l1.length≤_;omega,by show l2.length≤_;omega,by show l3.length≤_;omega,Nat.zero_le _,Nat.zero_le _,Nat.zero_le _⟩,Ng Zo d1,z1⟩⟩
theorem QT {W:World}{m:Cd}{k:Nat}(h:PT W m k)(hk:k≤1048576):∃v s,m=An v s∧Dj W s v∧Fl v∧EE v.ent∧v.ent.length≤s.ec:=by
 obtain⟨-,-,-,-,-,⟨k5,h5,⟨k50,h50,l1,⟨a1,b1,c1,d1,f1⟩,z1,-⟩,k51,h51,⟨k52,h52,l2,a2,b2,c2,d2,f2⟩,⟨k53,h53,l3,a3,b3,c3,d3,f3⟩⟩,-,-,-,⟨k9,h9,-,-,-,k90,h90,l4,a4,b4,c4,d4,f4⟩,⟨k10,h10,l5,a5,b5,c5,d5,f5⟩,k11,h11,l6,a6,b6,c6,d6,f6⟩:=h
 obtain⟨kind,frm,to,req,key,⟨⟨x1,y1,w1⟩,⟨⟨x2,y2,w2⟩,⟨x3,y3,w3⟩⟩⟩,owner,part,n,⟨parts,copies,spots,⟨x4,y4,w4⟩⟩,⟨x5,y5,w5⟩,⟨x6,y6,w6⟩⟩:=m
 simp only at a1 b1 a2 b2 a3 b3 a4 b4 a5 b5 a6 b6 z1
 subst a1 a2 a3 a4 a5 a6
 exact⟨⟨kind,frm,to,req,key,owner,part,n,parts,copies,spots,l1,l2,l3,l4,l5,l6⟩,⟨x1,w1,x2,w2,x3,w3,x4,w4,x5,w5,x6,w6⟩,rfl,⟨b1,b2,b3,b4,b5,b6⟩,⟨by show l1.length≤_;omega,by show l2.length≤_;omega,by show l3.length≤_;omega,by show l4.length≤_;omega,by show l5.length≤_;omega,by show l6.length≤_;omega⟩,Ng Zo d1,z1⟩
theorem SX {W:World}{o:Lj}{k:Nat}(h:Rp W o k)(hk:k≤1048576):PO W o:=by
 obtain⟨-,-,k1,h1,h2⟩:=h
 obtain⟨tk,nw,m⟩:=o
 obtain⟨v,s,rfl,h3⟩:=QT h2 Zo
 exact⟨tk,nw,v,s,rfl,h3⟩
theorem R9 {W:World}{b:PP}{m:Nat}(h:PU W b m)(hm:m≤1048576):∃(bp:Bool) (self req nd now id knd qty price:Int) (key item:ByteArray) (va:MV) (sa:A6) (al:Option Addr) (ts:List Au) (lc:Nat) (vc:MV) (sc:A6),
  b=⟨bp,self,req,⟨id,knd,key,item,qty,price,(An va sa).cart⟩,(An vc sc).cart,⟨al,ts.length,lc⟩,nd,now⟩∧AE W sa va∧AV va sa∧At W al ts∧ts.length≤1048576∧ts.length≤lc∧AE W sc vc∧AV vc sc:=by
 obtain⟨-,-,-,⟨k1,h1,-,-,-,-,-,-,k2,h2,q2⟩,⟨k3,h3,q3⟩,⟨k4,h4,ts,⟨a1,b1,c1,d1,f1⟩,z1,-⟩,-,-⟩:=h
 obtain⟨bp,self,req,⟨id,knd,key,item,qty,price,ca⟩,cc,⟨al,n,lc⟩,nd,now⟩:=b
 obtain⟨va,sa,rfl,e1,e2⟩:=Nh q2 Zo
 obtain⟨vc,sc,rfl,e3,e4⟩:=Nh q3 Zo
 simp only at a1 z1 b1
 subst a1
 exact⟨bp,self,req,nd,now,id,knd,qty,price,key,item,va,sa,al,ts,lc,vc,sc,rfl,e1,e2,b1,by omega,z1,e3,e4⟩
end Go.Proofs.YtocgdeefgohdhaaGreat
