/-
  Qq
-/
import Derived.Test.YtocgdeefgohdhaaGreatRows
import Derived.Test.YtocgdeefgohdhaaGreatPqQk
import Derived.Test.YtocgdeefgohdhaaGreatPqQp
import Derived.Test.YtocgdeefgohdhaaGreatPqI
set_option linter.all false
set_option maxRecDepth 100000
set_option maxHeartbeats 4000000
namespace Go.Proofs.YtocgdeefgohdhaaGreat
attribute [local irreducible] RD RS AD RL RA RT BH Al
structure Lj where
 tick:Bool
 now:Int
 msg:Cd
instance : Enc Lj:=Enc.struct (fun t=>[.bool ((t).tick),.int .i64 ((t).now),.int .i64 (((t).msg).kind),.int .i64 (((t).msg).frm),.int .i64 (((t).msg).to),.int .i64 (((t).msg).req),.string (((t).msg).key),.slice ((((t).msg).cart).entries.a) ((((t).msg).cart).entries.len) ((((t).msg).cart).entries.cap),.slice (((((t).msg).cart).ctx).marks.a) (((((t).msg).cart).ctx).marks.len) (((((t).msg).cart).ctx).marks.cap),.slice (((((t).msg).cart).ctx).cloud.a) (((((t).msg).cart).ctx).cloud.len) (((((t).msg).cart).ctx).cloud.cap),.int .i64 (((t).msg).owner),.int .i64 (((t).msg).part),.int .i64 (((t).msg).n),.int .i64 ((((t).msg).ring).parts),.int .i64 ((((t).msg).ring).copies),.int .i64 ((((t).msg).ring).spots),.slice ((((t).msg).ring).members.a) ((((t).msg).ring).members.len) ((((t).msg).ring).members.cap),.slice (((t).msg).peers.a) (((t).msg).peers.len) (((t).msg).peers.cap),.slice (((t).msg).sums.a) (((t).msg).sums.len) (((t).msg).sums.cap)]) 19 (fun _=>rfl) (fun _ v hv=>by simp at hv;rcases hv with rfl|rfl|rfl|rfl|rfl|rfl|rfl|rfl|rfl|rfl|rfl|rfl|rfl|rfl|rfl|rfl|rfl|rfl|rfl<;>rfl) Zd
def PO (w:World)(o:Lj):Prop:=∃tk nw v s,o=⟨tk,nw,An v s⟩∧Dj w s v∧Fl v∧EE v.ent∧v.ent.length≤s.ec
end Go.Proofs.YtocgdeefgohdhaaGreat
