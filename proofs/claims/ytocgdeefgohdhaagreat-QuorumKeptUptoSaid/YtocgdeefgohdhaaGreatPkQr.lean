/-
  Qr
-/
import Derived.Test.YtocgdeefgohdhaaGreatRows
import Derived.Test.YtocgdeefgohdhaaGreatPkQl
import Derived.Test.YtocgdeefgohdhaaGreatPkSum
import Derived.Test.YtocgdeefgohdhaaGreatPkFrame
import Derived.Test.YtocgdeefgohdhaaGreatPkI
set_option linter.all false
set_option maxRecDepth 100000
set_option maxHeartbeats 4000000
namespace Go.Proofs.YtocgdeefgohdhaaGreat
attribute [local irreducible] RD RS St1 RL RA RT RT1 Run
open Wa
instance : Enc CtxC:=Enc.struct (fun t=>[.slice t.marks.a t.marks.len t.marks.cap,.slice t.cloud.a t.cloud.len t.cloud.cap]) 2 (fun _=>rfl) (fun _ v hv=>by simp at hv;rcases hv with rfl|rfl<;>rfl) (by decide)
instance : Enc RingC:=Enc.struct (fun t=>[.int .i64 t.parts,.int .i64 t.copies,.int .i64 t.spots,.slice t.members.a t.members.len t.members.cap]) 4 (fun _=>rfl) (fun _ v hv=>by simp at hv;rcases hv with rfl|rfl|rfl|rfl<;>rfl) (by decide)
structure AskC where
 id:Int
 knd:Int
 key:ByteArray
 item:ByteArray
 qty:Int
 price:Int
 seen:CartC
instance : Enc AskC:=Enc.struct (fun t=>[.int .i64 t.id,.int .i64 t.knd,.string t.key,.string t.item,.int .i64 t.qty,.int .u64 t.price,.slice t.seen.entries.a t.seen.entries.len t.seen.entries.cap,.slice t.seen.ctx.marks.a t.seen.ctx.marks.len t.seen.ctx.marks.cap,.slice t.seen.ctx.cloud.a t.seen.ctx.cloud.len t.seen.ctx.cloud.cap]) 9 (fun _=>rfl) (fun _ v hv=>by simp at hv;rcases hv with rfl|rfl|rfl|rfl|rfl|rfl|rfl|rfl|rfl<;>rfl) (by decide)
structure BegC where
 put:Bool
 self:Int
 req:Int
 ask:AskC
 cart:CartC
 targets:SH
 need:Int
 now:Int
instance : Enc BegC:=Enc.struct (fun t=>[.bool t.put,.int .i64 t.self,.int .i64 t.req,.int .i64 t.ask.id,.int .i64 t.ask.knd,.string t.ask.key,.string t.ask.item,.int .i64 t.ask.qty,.int .u64 t.ask.price,.slice t.ask.seen.entries.a t.ask.seen.entries.len t.ask.seen.entries.cap,.slice t.ask.seen.ctx.marks.a t.ask.seen.ctx.marks.len t.ask.seen.ctx.marks.cap,.slice t.ask.seen.ctx.cloud.a t.ask.seen.ctx.cloud.len t.ask.seen.ctx.cloud.cap,.slice t.cart.entries.a t.cart.entries.len t.cart.entries.cap,.slice t.cart.ctx.marks.a t.cart.ctx.marks.len t.cart.ctx.marks.cap,.slice t.cart.ctx.cloud.a t.cart.ctx.cloud.len t.cart.ctx.cloud.cap,.slice t.targets.a t.targets.len t.targets.cap,.int .i64 t.need,.int .i64 t.now]) 18 (fun _=>rfl) (fun _ v hv=>by simp at hv;rcases hv with rfl|rfl|rfl|rfl|rfl|rfl|rfl|rfl|rfl|rfl|rfl|rfl|rfl|rfl|rfl|rfl|rfl|rfl<;>rfl) (by decide)
theorem reads_bool {P:Program}{t:TypeId}(ht:P.underlying t=some .bool):Reads P t Bool (fun _ _ m=>1≤m):=by
 intro H enc W fuel cs x h
 obtain⟨b,rfl,rfl⟩:=DataW.trod_bool ht h
 exact⟨b,rfl,bulk_pos _⟩
abbrev PrQ (_:World)(p:Int)(m:Nat):Prop:=(0≤p∧p≤18446744073709551615)∧1≤m
abbrev DotCQ (W:World)(x:DotC)(m:Nat):Prop:=True∧True∧True
theorem reads_DotC :Reads Tryz.prog 87 DotC DotCQ:=by
 intro H enc W fuel cs x h
 obtain⟨xs,n,rfl,rfl,hlen,hxs,hf⟩:=DataW.trod_struct Tryz.underlying87 h
 obtain⟨y0,y1,y2,rfl⟩:∃y0 y1 y2,xs=[y0,y1,y2]:=by
  match xs,hxs with
  |[y0,y1,y2],_=>exact⟨y0,y1,y2,rfl⟩
 obtain⟨v0,e0,q0⟩:=(reads_int Tryz.underlying3) H enc W n _ _ (hf 0 _ rfl)
 replace e0:(cs.drop 0).take (Tryz.prog.cellsOf 3)=cellsOf v0:=e0
 rw[show Tryz.prog.cellsOf 3=1 by kernel_rfl]at e0
 have c0:cs.drop 0=(cs.drop 0).take 1++cs.drop 1:=chunk cs 0 1
 obtain⟨v1,e1,q1⟩:=(reads_int Tryz.underlying3) H enc W n _ _ (hf 1 _ rfl)
 replace e1:(cs.drop 1).take (Tryz.prog.cellsOf 3)=cellsOf v1:=e1
 rw[show Tryz.prog.cellsOf 3=1 by kernel_rfl]at e1
 have c1:cs.drop 1=(cs.drop 1).take 1++cs.drop 2:=chunk cs 1 1
 obtain⟨v2,e2,q2⟩:=(reads_int Tryz.underlying3) H enc W n _ _ (hf 2 _ rfl)
 replace e2:(cs.drop 2).take (Tryz.prog.cellsOf 3)=cellsOf v2:=e2
 rw[show Tryz.prog.cellsOf 3=1 by kernel_rfl]at e2
 have c2:cs.drop 2=(cs.drop 2).take 1++cs.drop 3:=chunk cs 2 1
 have hl:cs.length=3:=hlen.trans (by kernel_rfl)
 have t:cs=cs.drop 0:=rfl
 have cN:cs.drop 3=[]:=List.drop_eq_nil_of_le (by omega)
 rw[e0]at c0
 rw[e1]at c1
 rw[e2]at c2
 rw[c0,c1,c2,cN]at t
 refine⟨⟨v0,v1,v2⟩,t,trivial,trivial,trivial⟩
 all_goals (simp only[List.map_cons,List.map_nil,Rows.uptoBulk,Rows.uptoBulkAll];omega)
abbrev MarkCQ (W:World)(x:MarkC)(m:Nat):Prop:=True∧True∧True
theorem reads_MarkC :Reads Tryz.prog 112 MarkC MarkCQ:=by
 intro H enc W fuel cs x h
 obtain⟨xs,n,rfl,rfl,hlen,hxs,hf⟩:=DataW.trod_struct Tryz.underlying112 h
 obtain⟨y0,y1,y2,rfl⟩:∃y0 y1 y2,xs=[y0,y1,y2]:=by
  match xs,hxs with
  |[y0,y1,y2],_=>exact⟨y0,y1,y2,rfl⟩
 obtain⟨v0,e0,q0⟩:=(reads_int Tryz.underlying3) H enc W n _ _ (hf 0 _ rfl)
 replace e0:(cs.drop 0).take (Tryz.prog.cellsOf 3)=cellsOf v0:=e0
 rw[show Tryz.prog.cellsOf 3=1 by kernel_rfl]at e0
 have c0:cs.drop 0=(cs.drop 0).take 1++cs.drop 1:=chunk cs 0 1
 obtain⟨v1,e1,q1⟩:=(reads_int Tryz.underlying3) H enc W n _ _ (hf 1 _ rfl)
 replace e1:(cs.drop 1).take (Tryz.prog.cellsOf 3)=cellsOf v1:=e1
 rw[show Tryz.prog.cellsOf 3=1 by kernel_rfl]at e1
 have c1:cs.drop 1=(cs.drop 1).take 1++cs.drop 2:=chunk cs 1 1
 obtain⟨v2,e2,q2⟩:=(reads_int Tryz.underlying3) H enc W n _ _ (hf 2 _ rfl)
 replace e2:(cs.drop 2).take (Tryz.prog.cellsOf 3)=cellsOf v2:=e2
 rw[show Tryz.prog.cellsOf 3=1 by kernel_rfl]at e2
 have c2:cs.drop 2=(cs.drop 2).take 1++cs.drop 3:=chunk cs 2 1
 have hl:cs.length=3:=hlen.trans (by kernel_rfl)
 have t:cs=cs.drop 0:=rfl
 have cN:cs.drop 3=[]:=List.drop_eq_nil_of_le (by omega)
 rw[e0]at c0
 rw[e1]at c1
 rw[e2]at c2
 rw[c0,c1,c2,cN]at t
 refine⟨⟨v0,v1,v2⟩,t,trivial,trivial,trivial⟩
 all_goals (simp only[List.map_cons,List.map_nil,Rows.uptoBulk,Rows.uptoBulkAll];omega)
abbrev MemberCQ (W:World)(x:MemberC)(m:Nat):Prop:=True∧True∧True∧True
theorem reads_MemberC :Reads Tryz.prog 131 MemberC MemberCQ:=by
 intro H enc W fuel cs x h
 obtain⟨xs,n,rfl,rfl,hlen,hxs,hf⟩:=DataW.trod_struct Tryz.underlying131 h
 obtain⟨y0,y1,y2,y3,rfl⟩:∃y0 y1 y2 y3,xs=[y0,y1,y2,y3]:=by
  match xs,hxs with
  |[y0,y1,y2,y3],_=>exact⟨y0,y1,y2,y3,rfl⟩
 obtain⟨v0,e0,q0⟩:=(reads_int Tryz.underlying3) H enc W n _ _ (hf 0 _ rfl)
 replace e0:(cs.drop 0).take (Tryz.prog.cellsOf 3)=cellsOf v0:=e0
 rw[show Tryz.prog.cellsOf 3=1 by kernel_rfl]at e0
 have c0:cs.drop 0=(cs.drop 0).take 1++cs.drop 1:=chunk cs 0 1
 obtain⟨v1,e1,q1⟩:=(reads_int Tryz.underlying3) H enc W n _ _ (hf 1 _ rfl)
 replace e1:(cs.drop 1).take (Tryz.prog.cellsOf 3)=cellsOf v1:=e1
 rw[show Tryz.prog.cellsOf 3=1 by kernel_rfl]at e1
 have c1:cs.drop 1=(cs.drop 1).take 1++cs.drop 2:=chunk cs 1 1
 obtain⟨v2,e2,q2⟩:=(reads_int Tryz.underlying3) H enc W n _ _ (hf 2 _ rfl)
 replace e2:(cs.drop 2).take (Tryz.prog.cellsOf 3)=cellsOf v2:=e2
 rw[show Tryz.prog.cellsOf 3=1 by kernel_rfl]at e2
 have c2:cs.drop 2=(cs.drop 2).take 1++cs.drop 3:=chunk cs 2 1
 obtain⟨v3,e3,q3⟩:=(reads_int Tryz.underlying3) H enc W n _ _ (hf 3 _ rfl)
 replace e3:(cs.drop 3).take (Tryz.prog.cellsOf 3)=cellsOf v3:=e3
 rw[show Tryz.prog.cellsOf 3=1 by kernel_rfl]at e3
 have c3:cs.drop 3=(cs.drop 3).take 1++cs.drop 4:=chunk cs 3 1
 have hl:cs.length=4:=hlen.trans (by kernel_rfl)
 have t:cs=cs.drop 0:=rfl
 have cN:cs.drop 4=[]:=List.drop_eq_nil_of_le (by omega)
 rw[e0]at c0
 rw[e1]at c1
 rw[e2]at c2
 rw[e3]at c3
 rw[c0,c1,c2,c3,cN]at t
 refine⟨⟨v0,v1,v2,v3⟩,t,trivial,trivial,trivial,trivial⟩
 all_goals (simp only[List.map_cons,List.map_nil,Rows.uptoBulk,Rows.uptoBulkAll];omega)
abbrev PeerCQ (W:World)(x:PeerC)(m:Nat):Prop:=True∧True∧True
theorem reads_PeerC :Reads Tryz.prog 108 PeerC PeerCQ:=by
 intro H enc W fuel cs x h
 obtain⟨xs,n,rfl,rfl,hlen,hxs,hf⟩:=DataW.trod_struct Tryz.underlying108 h
 obtain⟨y0,y1,y2,rfl⟩:∃y0 y1 y2,xs=[y0,y1,y2]:=by
  match xs,hxs with
  |[y0,y1,y2],_=>exact⟨y0,y1,y2,rfl⟩
 obtain⟨v0,e0,q0⟩:=(reads_int Tryz.underlying3) H enc W n _ _ (hf 0 _ rfl)
 replace e0:(cs.drop 0).take (Tryz.prog.cellsOf 3)=cellsOf v0:=e0
 rw[show Tryz.prog.cellsOf 3=1 by kernel_rfl]at e0
 have c0:cs.drop 0=(cs.drop 0).take 1++cs.drop 1:=chunk cs 0 1
 obtain⟨v1,e1,q1⟩:=(reads_int Tryz.underlying3) H enc W n _ _ (hf 1 _ rfl)
 replace e1:(cs.drop 1).take (Tryz.prog.cellsOf 3)=cellsOf v1:=e1
 rw[show Tryz.prog.cellsOf 3=1 by kernel_rfl]at e1
 have c1:cs.drop 1=(cs.drop 1).take 1++cs.drop 2:=chunk cs 1 1
 obtain⟨v2,e2,q2⟩:=(reads_int Tryz.underlying3) H enc W n _ _ (hf 2 _ rfl)
 replace e2:(cs.drop 2).take (Tryz.prog.cellsOf 3)=cellsOf v2:=e2
 rw[show Tryz.prog.cellsOf 3=1 by kernel_rfl]at e2
 have c2:cs.drop 2=(cs.drop 2).take 1++cs.drop 3:=chunk cs 2 1
 have hl:cs.length=3:=hlen.trans (by kernel_rfl)
 have t:cs=cs.drop 0:=rfl
 have cN:cs.drop 3=[]:=List.drop_eq_nil_of_le (by omega)
 rw[e0]at c0
 rw[e1]at c1
 rw[e2]at c2
 rw[c0,c1,c2,cN]at t
 refine⟨⟨v0,v1,v2⟩,t,trivial,trivial,trivial⟩
 all_goals (simp only[List.map_cons,List.map_nil,Rows.uptoBulk,Rows.uptoBulkAll];omega)
abbrev SumCQ (W:World)(x:SumC)(m:Nat):Prop:=True∧True∧True
theorem reads_SumC :Reads Tryz.prog 111 SumC SumCQ:=by
 intro H enc W fuel cs x h
 obtain⟨xs,n,rfl,rfl,hlen,hxs,hf⟩:=DataW.trod_struct Tryz.underlying111 h
 obtain⟨y0,y1,y2,rfl⟩:∃y0 y1 y2,xs=[y0,y1,y2]:=by
  match xs,hxs with
  |[y0,y1,y2],_=>exact⟨y0,y1,y2,rfl⟩
 obtain⟨v0,e0,q0⟩:=(reads_int Tryz.underlying3) H enc W n _ _ (hf 0 _ rfl)
 replace e0:(cs.drop 0).take (Tryz.prog.cellsOf 3)=cellsOf v0:=e0
 rw[show Tryz.prog.cellsOf 3=1 by kernel_rfl]at e0
 have c0:cs.drop 0=(cs.drop 0).take 1++cs.drop 1:=chunk cs 0 1
 obtain⟨v1,e1,q1⟩:=(reads_string Tryz.underlying9) H enc W n _ _ (hf 1 _ rfl)
 replace e1:(cs.drop 1).take (Tryz.prog.cellsOf 9)=cellsOf v1:=e1
 rw[show Tryz.prog.cellsOf 9=1 by kernel_rfl]at e1
 have c1:cs.drop 1=(cs.drop 1).take 1++cs.drop 2:=chunk cs 1 1
 obtain⟨v2,e2,q2⟩:=(reads_u64 Tryz.underlying22) H enc W n _ _ (hf 2 _ rfl)
 replace e2:(cs.drop 2).take (Tryz.prog.cellsOf 22)=cellsOf v2:=e2
 rw[show Tryz.prog.cellsOf 22=1 by kernel_rfl]at e2
 have c2:cs.drop 2=(cs.drop 2).take 1++cs.drop 3:=chunk cs 2 1
 have hl:cs.length=3:=hlen.trans (by kernel_rfl)
 have t:cs=cs.drop 0:=rfl
 have cN:cs.drop 3=[]:=List.drop_eq_nil_of_le (by omega)
 rw[e0]at c0
 rw[e1]at c1
 rw[e2]at c2
 rw[c0,c1,c2,cN]at t
 refine⟨⟨v0,v1,v2.v⟩,t,trivial,trivial,trivial⟩
 all_goals (simp only[List.map_cons,List.map_nil,Rows.uptoBulk,Rows.uptoBulkAll];omega)
abbrev TargetCQ (W:World)(x:TargetC)(m:Nat):Prop:=True∧True
theorem reads_TargetC :Reads Tryz.prog 53 TargetC TargetCQ:=by
 intro H enc W fuel cs x h
 obtain⟨xs,n,rfl,rfl,hlen,hxs,hf⟩:=DataW.trod_struct Tryz.underlying53 h
 obtain⟨y0,y1,rfl⟩:∃y0 y1,xs=[y0,y1]:=by
  match xs,hxs with
  |[y0,y1],_=>exact⟨y0,y1,rfl⟩
 obtain⟨v0,e0,q0⟩:=(reads_int Tryz.underlying3) H enc W n _ _ (hf 0 _ rfl)
 replace e0:(cs.drop 0).take (Tryz.prog.cellsOf 3)=cellsOf v0:=e0
 rw[show Tryz.prog.cellsOf 3=1 by kernel_rfl]at e0
 have c0:cs.drop 0=(cs.drop 0).take 1++cs.drop 1:=chunk cs 0 1
 obtain⟨v1,e1,q1⟩:=(reads_int Tryz.underlying3) H enc W n _ _ (hf 1 _ rfl)
 replace e1:(cs.drop 1).take (Tryz.prog.cellsOf 3)=cellsOf v1:=e1
 rw[show Tryz.prog.cellsOf 3=1 by kernel_rfl]at e1
 have c1:cs.drop 1=(cs.drop 1).take 1++cs.drop 2:=chunk cs 1 1
 have hl:cs.length=2:=hlen.trans (by kernel_rfl)
 have t:cs=cs.drop 0:=rfl
 have cN:cs.drop 2=[]:=List.drop_eq_nil_of_le (by omega)
 rw[e0]at c0
 rw[e1]at c1
 rw[c0,c1,cN]at t
 refine⟨⟨v0,v1⟩,t,trivial,trivial⟩
 all_goals (simp only[List.map_cons,List.map_nil,Rows.uptoBulk,Rows.uptoBulkAll];omega)
abbrev EntryCQ (W:World)(x:EntryC)(m:Nat):Prop:=(∃k,k≤m∧StrQ W x.item k)∧True∧True∧(∃k,k≤m∧PrQ W x.price k)
theorem reads_EntryC :Reads Tryz.prog 89 EntryC EntryCQ:=by
 intro H enc W fuel cs x h
 obtain⟨xs,n,rfl,rfl,hlen,hxs,hf⟩:=DataW.trod_struct Tryz.underlying89 h
 obtain⟨y0,y1,y2,y3,rfl⟩:∃y0 y1 y2 y3,xs=[y0,y1,y2,y3]:=by
  match xs,hxs with
  |[y0,y1,y2,y3],_=>exact⟨y0,y1,y2,y3,rfl⟩
 obtain⟨v0,e0,q0⟩:=(reads_string Tryz.underlying9) H enc W n _ _ (hf 0 _ rfl)
 replace e0:(cs.drop 0).take (Tryz.prog.cellsOf 9)=cellsOf v0:=e0
 rw[show Tryz.prog.cellsOf 9=1 by kernel_rfl]at e0
 have c0:cs.drop 0=(cs.drop 0).take 1++cs.drop 1:=chunk cs 0 1
 obtain⟨v1,e1,q1⟩:=(reads_DotC) H enc W n _ _ (hf 1 _ rfl)
 replace e1:(cs.drop 1).take (Tryz.prog.cellsOf 87)=cellsOf v1:=e1
 rw[show Tryz.prog.cellsOf 87=3 by kernel_rfl]at e1
 have c1:cs.drop 1=(cs.drop 1).take 3++cs.drop 4:=chunk cs 1 3
 obtain⟨v2,e2,q2⟩:=(reads_int Tryz.underlying3) H enc W n _ _ (hf 2 _ rfl)
 replace e2:(cs.drop 4).take (Tryz.prog.cellsOf 3)=cellsOf v2:=e2
 rw[show Tryz.prog.cellsOf 3=1 by kernel_rfl]at e2
 have c2:cs.drop 4=(cs.drop 4).take 1++cs.drop 5:=chunk cs 4 1
 obtain⟨v3,e3,q3⟩:=(reads_u64 Tryz.underlying22) H enc W n _ _ (hf 3 _ rfl)
 replace e3:(cs.drop 5).take (Tryz.prog.cellsOf 22)=cellsOf v3:=e3
 rw[show Tryz.prog.cellsOf 22=1 by kernel_rfl]at e3
 have c3:cs.drop 5=(cs.drop 5).take 1++cs.drop 6:=chunk cs 5 1
 have hl:cs.length=6:=hlen.trans (by kernel_rfl)
 have t:cs=cs.drop 0:=rfl
 have cN:cs.drop 6=[]:=List.drop_eq_nil_of_le (by omega)
 rw[e0]at c0
 rw[e1]at c1
 rw[e2]at c2
 rw[e3]at c3
 rw[c0,c1,c2,c3,cN]at t
 refine⟨⟨v0,v1,v2,v3.v⟩,t,⟨_,?_,q0⟩,trivial,trivial,⟨_,?_,q3⟩⟩
 all_goals (simp only[List.map_cons,List.map_nil,Rows.uptoBulk,Rows.uptoBulkAll];omega)
abbrev CtxCQ (W:World)(x:CtxC)(m:Nat):Prop:=(∃k,k≤m∧(SlicesQ MarkCQ) W x.marks k)∧(∃k,k≤m∧(SlicesQ DotCQ) W x.cloud k)
theorem reads_CtxC :Reads Tryz.prog 27 CtxC CtxCQ:=by
 intro H enc W fuel cs x h
 obtain⟨xs,n,rfl,rfl,hlen,hxs,hf⟩:=DataW.trod_struct Tryz.underlying27 h
 obtain⟨y0,y1,rfl⟩:∃y0 y1,xs=[y0,y1]:=by
  match xs,hxs with
  |[y0,y1],_=>exact⟨y0,y1,rfl⟩
 obtain⟨v0,e0,q0⟩:=(reads_slice (α:=MarkC) Tryz.underlying24 (by kernel_rfl) reads_MarkC) H enc W n _ _ (hf 0 _ rfl)
 replace e0:(cs.drop 0).take (Tryz.prog.cellsOf 24)=cellsOf v0:=e0
 rw[show Tryz.prog.cellsOf 24=1 by kernel_rfl]at e0
 have c0:cs.drop 0=(cs.drop 0).take 1++cs.drop 1:=chunk cs 0 1
 obtain⟨v1,e1,q1⟩:=(reads_slice (α:=DotC) Tryz.underlying25 (by kernel_rfl) reads_DotC) H enc W n _ _ (hf 1 _ rfl)
 replace e1:(cs.drop 1).take (Tryz.prog.cellsOf 25)=cellsOf v1:=e1
 rw[show Tryz.prog.cellsOf 25=1 by kernel_rfl]at e1
 have c1:cs.drop 1=(cs.drop 1).take 1++cs.drop 2:=chunk cs 1 1
 have hl:cs.length=2:=hlen.trans (by kernel_rfl)
 have t:cs=cs.drop 0:=rfl
 have cN:cs.drop 2=[]:=List.drop_eq_nil_of_le (by omega)
 rw[e0]at c0
 rw[e1]at c1
 rw[c0,c1,cN]at t
 refine⟨⟨v0,v1⟩,t,⟨_,?_,q0⟩,⟨_,?_,q1⟩⟩
 all_goals (simp only[List.map_cons,List.map_nil,Rows.uptoBulk,Rows.uptoBulkAll];omega)
abbrev CartCQ (W:World)(x:CartC)(m:Nat):Prop:=(∃k,k≤m∧(SlicesSQ EntryCQ) W x.entries k)∧(∃k,k≤m∧CtxCQ W x.ctx k)
theorem reads_CartC :Reads Tryz.prog 29 CartC CartCQ:=by
 intro H enc W fuel cs x h
 obtain⟨xs,n,rfl,rfl,hlen,hxs,hf⟩:=DataW.trod_struct Tryz.underlying29 h
 obtain⟨y0,y1,rfl⟩:∃y0 y1,xs=[y0,y1]:=by
  match xs,hxs with
  |[y0,y1],_=>exact⟨y0,y1,rfl⟩
 obtain⟨v0,e0,q0⟩:=(reads_sliceS (α:=EntryC) Tryz.underlying23 (by kernel_rfl) reads_EntryC) H enc W n _ _ (hf 0 _ rfl)
 replace e0:(cs.drop 0).take (Tryz.prog.cellsOf 23)=cellsOf v0:=e0
 rw[show Tryz.prog.cellsOf 23=1 by kernel_rfl]at e0
 have c0:cs.drop 0=(cs.drop 0).take 1++cs.drop 1:=chunk cs 0 1
 obtain⟨v1,e1,q1⟩:=(reads_CtxC) H enc W n _ _ (hf 1 _ rfl)
 replace e1:(cs.drop 1).take (Tryz.prog.cellsOf 27)=cellsOf v1:=e1
 rw[show Tryz.prog.cellsOf 27=2 by kernel_rfl]at e1
 have c1:cs.drop 1=(cs.drop 1).take 2++cs.drop 3:=chunk cs 1 2
 have hl:cs.length=3:=hlen.trans (by kernel_rfl)
 have t:cs=cs.drop 0:=rfl
 have cN:cs.drop 3=[]:=List.drop_eq_nil_of_le (by omega)
 rw[e0]at c0
 rw[e1]at c1
 rw[c0,c1,cN]at t
 refine⟨⟨v0,v1⟩,t,⟨_,?_,q0⟩,⟨_,?_,q1⟩⟩
 all_goals (simp only[List.map_cons,List.map_nil,Rows.uptoBulk,Rows.uptoBulkAll];omega)
abbrev RingCQ (W:World)(x:RingC)(m:Nat):Prop:=True∧True∧True∧(∃k,k≤m∧(SlicesQ MemberCQ) W x.members k)
theorem reads_RingC :Reads Tryz.prog 44 RingC RingCQ:=by
 intro H enc W fuel cs x h
 obtain⟨xs,n,rfl,rfl,hlen,hxs,hf⟩:=DataW.trod_struct Tryz.underlying44 h
 obtain⟨y0,y1,y2,y3,rfl⟩:∃y0 y1 y2 y3,xs=[y0,y1,y2,y3]:=by
  match xs,hxs with
  |[y0,y1,y2,y3],_=>exact⟨y0,y1,y2,y3,rfl⟩
 obtain⟨v0,e0,q0⟩:=(reads_int Tryz.underlying3) H enc W n _ _ (hf 0 _ rfl)
 replace e0:(cs.drop 0).take (Tryz.prog.cellsOf 3)=cellsOf v0:=e0
 rw[show Tryz.prog.cellsOf 3=1 by kernel_rfl]at e0
 have c0:cs.drop 0=(cs.drop 0).take 1++cs.drop 1:=chunk cs 0 1
 obtain⟨v1,e1,q1⟩:=(reads_int Tryz.underlying3) H enc W n _ _ (hf 1 _ rfl)
 replace e1:(cs.drop 1).take (Tryz.prog.cellsOf 3)=cellsOf v1:=e1
 rw[show Tryz.prog.cellsOf 3=1 by kernel_rfl]at e1
 have c1:cs.drop 1=(cs.drop 1).take 1++cs.drop 2:=chunk cs 1 1
 obtain⟨v2,e2,q2⟩:=(reads_int Tryz.underlying3) H enc W n _ _ (hf 2 _ rfl)
 replace e2:(cs.drop 2).take (Tryz.prog.cellsOf 3)=cellsOf v2:=e2
 rw[show Tryz.prog.cellsOf 3=1 by kernel_rfl]at e2
 have c2:cs.drop 2=(cs.drop 2).take 1++cs.drop 3:=chunk cs 2 1
 obtain⟨v3,e3,q3⟩:=(reads_slice (α:=MemberC) Tryz.underlying42 (by kernel_rfl) reads_MemberC) H enc W n _ _ (hf 3 _ rfl)
 replace e3:(cs.drop 3).take (Tryz.prog.cellsOf 42)=cellsOf v3:=e3
 rw[show Tryz.prog.cellsOf 42=1 by kernel_rfl]at e3
 have c3:cs.drop 3=(cs.drop 3).take 1++cs.drop 4:=chunk cs 3 1
 have hl:cs.length=4:=hlen.trans (by kernel_rfl)
 have t:cs=cs.drop 0:=rfl
 have cN:cs.drop 4=[]:=List.drop_eq_nil_of_le (by omega)
 rw[e0]at c0
 rw[e1]at c1
 rw[e2]at c2
 rw[e3]at c3
 rw[c0,c1,c2,c3,cN]at t
 refine⟨⟨v0,v1,v2,v3⟩,t,trivial,trivial,trivial,⟨_,?_,q3⟩⟩
 all_goals (simp only[List.map_cons,List.map_nil,Rows.uptoBulk,Rows.uptoBulkAll];omega)
abbrev MsgCQ (W:World)(x:MsgC)(m:Nat):Prop:=True∧True∧True∧True∧True∧(∃k,k≤m∧CartCQ W x.cart k)∧True∧True∧True∧(∃k,k≤m∧RingCQ W x.ring k)∧(∃k,k≤m∧(SlicesQ PeerCQ) W x.peers k)∧(∃k,k≤m∧(SlicesQ SumCQ) W x.sums k)
theorem reads_MsgC :Reads Tryz.prog 48 MsgC MsgCQ:=by
 intro H enc W fuel cs x h
 obtain⟨xs,n,rfl,rfl,hlen,hxs,hf⟩:=DataW.trod_struct Tryz.underlying48 h
 obtain⟨y0,y1,y2,y3,y4,y5,y6,y7,y8,y9,y10,y11,rfl⟩:∃y0 y1 y2 y3 y4 y5 y6 y7 y8 y9 y10 y11,xs=[y0,y1,y2,y3,y4,y5,y6,y7,y8,y9,y10,y11]:=by
  match xs,hxs with
  |[y0,y1,y2,y3,y4,y5,y6,y7,y8,y9,y10,y11],_=>exact⟨y0,y1,y2,y3,y4,y5,y6,y7,y8,y9,y10,y11,rfl⟩
 obtain⟨v0,e0,q0⟩:=(reads_int Tryz.underlying3) H enc W n _ _ (hf 0 _ rfl)
 replace e0:(cs.drop 0).take (Tryz.prog.cellsOf 3)=cellsOf v0:=e0
 rw[show Tryz.prog.cellsOf 3=1 by kernel_rfl]at e0
 have c0:cs.drop 0=(cs.drop 0).take 1++cs.drop 1:=chunk cs 0 1
 obtain⟨v1,e1,q1⟩:=(reads_int Tryz.underlying3) H enc W n _ _ (hf 1 _ rfl)
 replace e1:(cs.drop 1).take (Tryz.prog.cellsOf 3)=cellsOf v1:=e1
 rw[show Tryz.prog.cellsOf 3=1 by kernel_rfl]at e1
 have c1:cs.drop 1=(cs.drop 1).take 1++cs.drop 2:=chunk cs 1 1
 obtain⟨v2,e2,q2⟩:=(reads_int Tryz.underlying3) H enc W n _ _ (hf 2 _ rfl)
 replace e2:(cs.drop 2).take (Tryz.prog.cellsOf 3)=cellsOf v2:=e2
 rw[show Tryz.prog.cellsOf 3=1 by kernel_rfl]at e2
 have c2:cs.drop 2=(cs.drop 2).take 1++cs.drop 3:=chunk cs 2 1
 obtain⟨v3,e3,q3⟩:=(reads_int Tryz.underlying3) H enc W n _ _ (hf 3 _ rfl)
 replace e3:(cs.drop 3).take (Tryz.prog.cellsOf 3)=cellsOf v3:=e3
 rw[show Tryz.prog.cellsOf 3=1 by kernel_rfl]at e3
 have c3:cs.drop 3=(cs.drop 3).take 1++cs.drop 4:=chunk cs 3 1
 obtain⟨v4,e4,q4⟩:=(reads_string Tryz.underlying9) H enc W n _ _ (hf 4 _ rfl)
 replace e4:(cs.drop 4).take (Tryz.prog.cellsOf 9)=cellsOf v4:=e4
 rw[show Tryz.prog.cellsOf 9=1 by kernel_rfl]at e4
 have c4:cs.drop 4=(cs.drop 4).take 1++cs.drop 5:=chunk cs 4 1
 obtain⟨v5,e5,q5⟩:=(reads_CartC) H enc W n _ _ (hf 5 _ rfl)
 replace e5:(cs.drop 5).take (Tryz.prog.cellsOf 29)=cellsOf v5:=e5
 rw[show Tryz.prog.cellsOf 29=3 by kernel_rfl]at e5
 have c5:cs.drop 5=(cs.drop 5).take 3++cs.drop 8:=chunk cs 5 3
 obtain⟨v6,e6,q6⟩:=(reads_int Tryz.underlying3) H enc W n _ _ (hf 6 _ rfl)
 replace e6:(cs.drop 8).take (Tryz.prog.cellsOf 3)=cellsOf v6:=e6
 rw[show Tryz.prog.cellsOf 3=1 by kernel_rfl]at e6
 have c6:cs.drop 8=(cs.drop 8).take 1++cs.drop 9:=chunk cs 8 1
 obtain⟨v7,e7,q7⟩:=(reads_int Tryz.underlying3) H enc W n _ _ (hf 7 _ rfl)
 replace e7:(cs.drop 9).take (Tryz.prog.cellsOf 3)=cellsOf v7:=e7
 rw[show Tryz.prog.cellsOf 3=1 by kernel_rfl]at e7
 have c7:cs.drop 9=(cs.drop 9).take 1++cs.drop 10:=chunk cs 9 1
 obtain⟨v8,e8,q8⟩:=(reads_int Tryz.underlying3) H enc W n _ _ (hf 8 _ rfl)
 replace e8:(cs.drop 10).take (Tryz.prog.cellsOf 3)=cellsOf v8:=e8
 rw[show Tryz.prog.cellsOf 3=1 by kernel_rfl]at e8
 have c8:cs.drop 10=(cs.drop 10).take 1++cs.drop 11:=chunk cs 10 1
 obtain⟨v9,e9,q9⟩:=(reads_RingC) H enc W n _ _ (hf 9 _ rfl)
 replace e9:(cs.drop 11).take (Tryz.prog.cellsOf 44)=cellsOf v9:=e9
 rw[show Tryz.prog.cellsOf 44=4 by kernel_rfl]at e9
 have c9:cs.drop 11=(cs.drop 11).take 4++cs.drop 15:=chunk cs 11 4
 obtain⟨v10,e10,q10⟩:=(reads_slice (α:=PeerC) Tryz.underlying45 (by kernel_rfl) reads_PeerC) H enc W n _ _ (hf 10 _ rfl)
 replace e10:(cs.drop 15).take (Tryz.prog.cellsOf 45)=cellsOf v10:=e10
 rw[show Tryz.prog.cellsOf 45=1 by kernel_rfl]at e10
 have c10:cs.drop 15=(cs.drop 15).take 1++cs.drop 16:=chunk cs 15 1
 obtain⟨v11,e11,q11⟩:=(reads_slice (α:=SumC) Tryz.underlying46 (by kernel_rfl) reads_SumC) H enc W n _ _ (hf 11 _ rfl)
 replace e11:(cs.drop 16).take (Tryz.prog.cellsOf 46)=cellsOf v11:=e11
 rw[show Tryz.prog.cellsOf 46=1 by kernel_rfl]at e11
 have c11:cs.drop 16=(cs.drop 16).take 1++cs.drop 17:=chunk cs 16 1
 have hl:cs.length=17:=hlen.trans (by kernel_rfl)
 have t:cs=cs.drop 0:=rfl
 have cN:cs.drop 17=[]:=List.drop_eq_nil_of_le (by omega)
 rw[e0]at c0
 rw[e1]at c1
 rw[e2]at c2
 rw[e3]at c3
 rw[e4]at c4
 rw[e5]at c5
 rw[e6]at c6
 rw[e7]at c7
 rw[e8]at c8
 rw[e9]at c9
 rw[e10]at c10
 rw[e11]at c11
 rw[c0,c1,c2,c3,c4,c5,c6,c7,c8,c9,c10,c11,cN]at t
 refine⟨⟨v0,v1,v2,v3,v4,v5,v6,v7,v8,v9,v10,v11⟩,t,trivial,trivial,trivial,trivial,trivial,⟨_,?_,q5⟩,trivial,trivial,trivial,⟨_,?_,q9⟩,⟨_,?_,q10⟩,⟨_,?_,q11⟩⟩
 all_goals (simp only[List.map_cons,List.map_nil,Rows.uptoBulk,Rows.uptoBulkAll];omega)
abbrev AskCQ (W:World)(x:AskC)(m:Nat):Prop:=True∧True∧True∧True∧True∧True∧(∃k,k≤m∧CartCQ W x.seen k)
theorem reads_AskC :Reads Tryz.prog 31 AskC AskCQ:=by
 intro H enc W fuel cs x h
 obtain⟨xs,n,rfl,rfl,hlen,hxs,hf⟩:=DataW.trod_struct Tryz.underlying31 h
 obtain⟨y0,y1,y2,y3,y4,y5,y6,rfl⟩:∃y0 y1 y2 y3 y4 y5 y6,xs=[y0,y1,y2,y3,y4,y5,y6]:=by
  match xs,hxs with
  |[y0,y1,y2,y3,y4,y5,y6],_=>exact⟨y0,y1,y2,y3,y4,y5,y6,rfl⟩
 obtain⟨v0,e0,q0⟩:=(reads_int Tryz.underlying3) H enc W n _ _ (hf 0 _ rfl)
 replace e0:(cs.drop 0).take (Tryz.prog.cellsOf 3)=cellsOf v0:=e0
 rw[show Tryz.prog.cellsOf 3=1 by kernel_rfl]at e0
 have c0:cs.drop 0=(cs.drop 0).take 1++cs.drop 1:=chunk cs 0 1
 obtain⟨v1,e1,q1⟩:=(reads_int Tryz.underlying3) H enc W n _ _ (hf 1 _ rfl)
 replace e1:(cs.drop 1).take (Tryz.prog.cellsOf 3)=cellsOf v1:=e1
 rw[show Tryz.prog.cellsOf 3=1 by kernel_rfl]at e1
 have c1:cs.drop 1=(cs.drop 1).take 1++cs.drop 2:=chunk cs 1 1
 obtain⟨v2,e2,q2⟩:=(reads_string Tryz.underlying9) H enc W n _ _ (hf 2 _ rfl)
 replace e2:(cs.drop 2).take (Tryz.prog.cellsOf 9)=cellsOf v2:=e2
 rw[show Tryz.prog.cellsOf 9=1 by kernel_rfl]at e2
 have c2:cs.drop 2=(cs.drop 2).take 1++cs.drop 3:=chunk cs 2 1
 obtain⟨v3,e3,q3⟩:=(reads_string Tryz.underlying9) H enc W n _ _ (hf 3 _ rfl)
 replace e3:(cs.drop 3).take (Tryz.prog.cellsOf 9)=cellsOf v3:=e3
 rw[show Tryz.prog.cellsOf 9=1 by kernel_rfl]at e3
 have c3:cs.drop 3=(cs.drop 3).take 1++cs.drop 4:=chunk cs 3 1
 obtain⟨v4,e4,q4⟩:=(reads_int Tryz.underlying3) H enc W n _ _ (hf 4 _ rfl)
 replace e4:(cs.drop 4).take (Tryz.prog.cellsOf 3)=cellsOf v4:=e4
 rw[show Tryz.prog.cellsOf 3=1 by kernel_rfl]at e4
 have c4:cs.drop 4=(cs.drop 4).take 1++cs.drop 5:=chunk cs 4 1
 obtain⟨v5,e5,q5⟩:=(reads_u64 Tryz.underlying22) H enc W n _ _ (hf 5 _ rfl)
 replace e5:(cs.drop 5).take (Tryz.prog.cellsOf 22)=cellsOf v5:=e5
 rw[show Tryz.prog.cellsOf 22=1 by kernel_rfl]at e5
 have c5:cs.drop 5=(cs.drop 5).take 1++cs.drop 6:=chunk cs 5 1
 obtain⟨v6,e6,q6⟩:=(reads_CartC) H enc W n _ _ (hf 6 _ rfl)
 replace e6:(cs.drop 6).take (Tryz.prog.cellsOf 29)=cellsOf v6:=e6
 rw[show Tryz.prog.cellsOf 29=3 by kernel_rfl]at e6
 have c6:cs.drop 6=(cs.drop 6).take 3++cs.drop 9:=chunk cs 6 3
 have hl:cs.length=9:=hlen.trans (by kernel_rfl)
 have t:cs=cs.drop 0:=rfl
 have cN:cs.drop 9=[]:=List.drop_eq_nil_of_le (by omega)
 rw[e0]at c0
 rw[e1]at c1
 rw[e2]at c2
 rw[e3]at c3
 rw[e4]at c4
 rw[e5]at c5
 rw[e6]at c6
 rw[c0,c1,c2,c3,c4,c5,c6,cN]at t
 refine⟨⟨v0,v1,v2,v3,v4,v5.v,v6⟩,t,trivial,trivial,trivial,trivial,trivial,trivial,⟨_,?_,q6⟩⟩
 all_goals (simp only[List.map_cons,List.map_nil,Rows.uptoBulk,Rows.uptoBulkAll];omega)
abbrev BegCQ (W:World)(x:BegC)(m:Nat):Prop:=True∧True∧True∧(∃k,k≤m∧AskCQ W x.ask k)∧(∃k,k≤m∧CartCQ W x.cart k)∧(∃k,k≤m∧(SlicesSQ TargetCQ) W x.targets k)∧True∧True
theorem reads_BegC :Reads Tryz.prog 34 BegC BegCQ:=by
 intro H enc W fuel cs x h
 obtain⟨xs,n,rfl,rfl,hlen,hxs,hf⟩:=DataW.trod_struct Tryz.underlying34 h
 obtain⟨y0,y1,y2,y3,y4,y5,y6,y7,rfl⟩:∃y0 y1 y2 y3 y4 y5 y6 y7,xs=[y0,y1,y2,y3,y4,y5,y6,y7]:=by
  match xs,hxs with
  |[y0,y1,y2,y3,y4,y5,y6,y7],_=>exact⟨y0,y1,y2,y3,y4,y5,y6,y7,rfl⟩
 obtain⟨v0,e0,q0⟩:=(reads_bool Tryz.underlying4) H enc W n _ _ (hf 0 _ rfl)
 replace e0:(cs.drop 0).take (Tryz.prog.cellsOf 4)=cellsOf v0:=e0
 rw[show Tryz.prog.cellsOf 4=1 by kernel_rfl]at e0
 have c0:cs.drop 0=(cs.drop 0).take 1++cs.drop 1:=chunk cs 0 1
 obtain⟨v1,e1,q1⟩:=(reads_int Tryz.underlying3) H enc W n _ _ (hf 1 _ rfl)
 replace e1:(cs.drop 1).take (Tryz.prog.cellsOf 3)=cellsOf v1:=e1
 rw[show Tryz.prog.cellsOf 3=1 by kernel_rfl]at e1
 have c1:cs.drop 1=(cs.drop 1).take 1++cs.drop 2:=chunk cs 1 1
 obtain⟨v2,e2,q2⟩:=(reads_int Tryz.underlying3) H enc W n _ _ (hf 2 _ rfl)
 replace e2:(cs.drop 2).take (Tryz.prog.cellsOf 3)=cellsOf v2:=e2
 rw[show Tryz.prog.cellsOf 3=1 by kernel_rfl]at e2
 have c2:cs.drop 2=(cs.drop 2).take 1++cs.drop 3:=chunk cs 2 1
 obtain⟨v3,e3,q3⟩:=(reads_AskC) H enc W n _ _ (hf 3 _ rfl)
 replace e3:(cs.drop 3).take (Tryz.prog.cellsOf 31)=cellsOf v3:=e3
 rw[show Tryz.prog.cellsOf 31=9 by kernel_rfl]at e3
 have c3:cs.drop 3=(cs.drop 3).take 9++cs.drop 12:=chunk cs 3 9
 obtain⟨v4,e4,q4⟩:=(reads_CartC) H enc W n _ _ (hf 4 _ rfl)
 replace e4:(cs.drop 12).take (Tryz.prog.cellsOf 29)=cellsOf v4:=e4
 rw[show Tryz.prog.cellsOf 29=3 by kernel_rfl]at e4
 have c4:cs.drop 12=(cs.drop 12).take 3++cs.drop 15:=chunk cs 12 3
 obtain⟨v5,e5,q5⟩:=(reads_sliceS (α:=TargetC) Tryz.underlying32 (by kernel_rfl) reads_TargetC) H enc W n _ _ (hf 5 _ rfl)
 replace e5:(cs.drop 15).take (Tryz.prog.cellsOf 32)=cellsOf v5:=e5
 rw[show Tryz.prog.cellsOf 32=1 by kernel_rfl]at e5
 have c5:cs.drop 15=(cs.drop 15).take 1++cs.drop 16:=chunk cs 15 1
 obtain⟨v6,e6,q6⟩:=(reads_int Tryz.underlying3) H enc W n _ _ (hf 6 _ rfl)
 replace e6:(cs.drop 16).take (Tryz.prog.cellsOf 3)=cellsOf v6:=e6
 rw[show Tryz.prog.cellsOf 3=1 by kernel_rfl]at e6
 have c6:cs.drop 16=(cs.drop 16).take 1++cs.drop 17:=chunk cs 16 1
 obtain⟨v7,e7,q7⟩:=(reads_int Tryz.underlying3) H enc W n _ _ (hf 7 _ rfl)
 replace e7:(cs.drop 17).take (Tryz.prog.cellsOf 3)=cellsOf v7:=e7
 rw[show Tryz.prog.cellsOf 3=1 by kernel_rfl]at e7
 have c7:cs.drop 17=(cs.drop 17).take 1++cs.drop 18:=chunk cs 17 1
 have hl:cs.length=18:=hlen.trans (by kernel_rfl)
 have t:cs=cs.drop 0:=rfl
 have cN:cs.drop 18=[]:=List.drop_eq_nil_of_le (by omega)
 rw[e0]at c0
 rw[e1]at c1
 rw[e2]at c2
 rw[e3]at c3
 rw[e4]at c4
 rw[e5]at c5
 rw[e6]at c6
 rw[e7]at c7
 rw[c0,c1,c2,c3,c4,c5,c6,c7,cN]at t
 refine⟨⟨v0,v1,v2,v3,v4,v5,v6,v7⟩,t,trivial,trivial,trivial,⟨_,?_,q3⟩,⟨_,?_,q4⟩,⟨_,?_,q5⟩,trivial,trivial⟩
 all_goals (simp only[List.map_cons,List.map_nil,Rows.uptoBulk,Rows.uptoBulkAll];omega)
abbrev QDoCQ (W:World)(x:QDoC)(m:Nat):Prop:=True∧True∧(∃k,k≤m∧MsgCQ W x.msg k)
theorem reads_QDoC :Reads Tryz.prog 50 QDoC QDoCQ:=by
 intro H enc W fuel cs x h
 obtain⟨xs,n,rfl,rfl,hlen,hxs,hf⟩:=DataW.trod_struct Tryz.underlying50 h
 obtain⟨y0,y1,y2,rfl⟩:∃y0 y1 y2,xs=[y0,y1,y2]:=by
  match xs,hxs with
  |[y0,y1,y2],_=>exact⟨y0,y1,y2,rfl⟩
 obtain⟨v0,e0,q0⟩:=(reads_bool Tryz.underlying4) H enc W n _ _ (hf 0 _ rfl)
 replace e0:(cs.drop 0).take (Tryz.prog.cellsOf 4)=cellsOf v0:=e0
 rw[show Tryz.prog.cellsOf 4=1 by kernel_rfl]at e0
 have c0:cs.drop 0=(cs.drop 0).take 1++cs.drop 1:=chunk cs 0 1
 obtain⟨v1,e1,q1⟩:=(reads_int Tryz.underlying3) H enc W n _ _ (hf 1 _ rfl)
 replace e1:(cs.drop 1).take (Tryz.prog.cellsOf 3)=cellsOf v1:=e1
 rw[show Tryz.prog.cellsOf 3=1 by kernel_rfl]at e1
 have c1:cs.drop 1=(cs.drop 1).take 1++cs.drop 2:=chunk cs 1 1
 obtain⟨v2,e2,q2⟩:=(reads_MsgC) H enc W n _ _ (hf 2 _ rfl)
 replace e2:(cs.drop 2).take (Tryz.prog.cellsOf 48)=cellsOf v2:=e2
 rw[show Tryz.prog.cellsOf 48=17 by kernel_rfl]at e2
 have c2:cs.drop 2=(cs.drop 2).take 17++cs.drop 19:=chunk cs 2 17
 have hl:cs.length=19:=hlen.trans (by kernel_rfl)
 have t:cs=cs.drop 0:=rfl
 have cN:cs.drop 19=[]:=List.drop_eq_nil_of_le (by omega)
 rw[e0]at c0
 rw[e1]at c1
 rw[e2]at c2
 rw[c0,c1,c2,cN]at t
 refine⟨⟨v0,v1,v2⟩,t,trivial,trivial,⟨_,?_,q2⟩⟩
 all_goals (simp only[List.map_cons,List.map_nil,Rows.uptoBulk,Rows.uptoBulkAll];omega)
theorem entb_of {W:World}{m:Nat}{l:List EntryC}(hm:m≤1048576)(h:∀x∈l,∃k,k+1≤m∧EntryCQ W x k):EntB l:=fun x hx=>by
 obtain⟨k,hk,⟨k1,e1,e2⟩,-,-,k2,e3,e4⟩:=h x hx
 exact⟨⟨e4.1.1,by omega⟩,by have:x.item.size+1≤k1:=e2;omega⟩
theorem cart_of {W:World}{c:CartC}{k:Nat}(h:CartCQ W c k)(hk:k≤1048576):∃v s,c=(mkC v s).cart∧CartR W s v∧CartOk v s:=by
 obtain⟨⟨k50,h50,l1,⟨a1,b1,c1,d1,f1⟩,z1,-⟩,k51,h51,⟨k52,h52,l2,a2,b2,c2,d2,f2⟩,⟨k53,h53,l3,a3,b3,c3,d3,f3⟩⟩:=h
 obtain⟨⟨x1,y1,w1⟩,⟨⟨x2,y2,w2⟩,⟨x3,y3,w3⟩⟩⟩:=c
 simp only at a1 b1 a2 b2 a3 b3 z1
 subst a1 a2 a3
 exact⟨{nilV with ent:=l1,mrk:=l2,cl:=l3},⟨x1,w1,x2,w2,x3,w3,none,0,none,0,none,0⟩,rfl,⟨b1,b2,b3⟩,⟨⟨by show l1.length≤_;omega,by show l2.length≤_;omega,by show l3.length≤_;omega,Nat.zero_le _,Nat.zero_le _,Nat.zero_le _⟩,entb_of (by omega) d1,z1⟩⟩
theorem msgq_of {W:World}{m:MsgC}{k:Nat}(h:MsgCQ W m k)(hk:k≤1048576):∃v s,m=mkC v s∧SixR W s v∧VOk v∧EntB v.ent∧v.ent.length≤s.ec:=by
 obtain⟨-,-,-,-,-,⟨k5,h5,⟨k50,h50,l1,⟨a1,b1,c1,d1,f1⟩,z1,-⟩,k51,h51,⟨k52,h52,l2,a2,b2,c2,d2,f2⟩,⟨k53,h53,l3,a3,b3,c3,d3,f3⟩⟩,-,-,-,⟨k9,h9,-,-,-,k90,h90,l4,a4,b4,c4,d4,f4⟩,⟨k10,h10,l5,a5,b5,c5,d5,f5⟩,k11,h11,l6,a6,b6,c6,d6,f6⟩:=h
 obtain⟨kind,frm,to,req,key,⟨⟨x1,y1,w1⟩,⟨⟨x2,y2,w2⟩,⟨x3,y3,w3⟩⟩⟩,owner,part,n,⟨parts,copies,spots,⟨x4,y4,w4⟩⟩,⟨x5,y5,w5⟩,⟨x6,y6,w6⟩⟩:=m
 simp only at a1 b1 a2 b2 a3 b3 a4 b4 a5 b5 a6 b6 z1
 subst a1 a2 a3 a4 a5 a6
 exact⟨⟨kind,frm,to,req,key,owner,part,n,parts,copies,spots,l1,l2,l3,l4,l5,l6⟩,⟨x1,w1,x2,w2,x3,w3,x4,w4,x5,w5,x6,w6⟩,rfl,⟨b1,b2,b3,b4,b5,b6⟩,⟨by show l1.length≤_;omega,by show l2.length≤_;omega,by show l3.length≤_;omega,by show l4.length≤_;omega,by show l5.length≤_;omega,by show l6.length≤_;omega⟩,entb_of (by omega) d1,z1⟩
theorem do_of {W:World}{o:QDoC}{k:Nat}(h:QDoCQ W o k)(hk:k≤1048576):QDoOk W o:=by
 obtain⟨-,-,k1,h1,h2⟩:=h
 obtain⟨tk,nw,m⟩:=o
 obtain⟨v,s,rfl,h3⟩:=msgq_of h2 (by omega)
 exact⟨tk,nw,v,s,rfl,h3⟩
theorem beg_of {W:World}{b:BegC}{m:Nat}(h:BegCQ W b m)(hm:m≤1048576):∃(bp:Bool) (self req nd now id knd qty price:Int) (key item:ByteArray) (va:MV) (sa:Six) (al:Option Addr) (ts:List TargetC) (lc:Nat) (vc:MV) (sc:Six),
  b=⟨bp,self,req,⟨id,knd,key,item,qty,price,(mkC va sa).cart⟩,(mkC vc sc).cart,⟨al,ts.length,lc⟩,nd,now⟩∧CartR W sa va∧CartOk va sa∧SlOf W al ts∧ts.length≤1048576∧ts.length≤lc∧CartR W sc vc∧CartOk vc sc:=by
 obtain⟨-,-,-,⟨k1,h1,-,-,-,-,-,-,k2,h2,q2⟩,⟨k3,h3,q3⟩,⟨k4,h4,ts,⟨a1,b1,c1,d1,f1⟩,z1,-⟩,-,-⟩:=h
 obtain⟨bp,self,req,⟨id,knd,key,item,qty,price,ca⟩,cc,⟨al,n,lc⟩,nd,now⟩:=b
 obtain⟨va,sa,rfl,e1,e2⟩:=cart_of q2 (by omega)
 obtain⟨vc,sc,rfl,e3,e4⟩:=cart_of q3 (by omega)
 simp only at a1 z1 b1
 subst a1
 exact⟨bp,self,req,nd,now,id,knd,qty,price,key,item,va,sa,al,ts,lc,vc,sc,rfl,e1,e2,b1,by omega,z1,e3,e4⟩
end Go.Proofs.YtocgdeefgohdhaaGreat
